/- Part 4 of the proof of GoalsTrivial: C1, CI, C1b, N1, N2, N3, N4, N5, N6, N7, N8, N9, N10, N11, N12, N13, N14, N15, I1, R1, R2, FwNG, FwNS, FwNT, FwQA, FwSD, FwSE, FwSF, FwSG, FwSH, FwSI, FwSJ, FwSK, FwSL, FwUA, FwSM, FwUC, FwVA. Own lemmas; no conditions. -/
import Derived.Test.YtonjiljafkiikaaGreatGoalsTrivialPart3
import Derived.Test.YtonjiljafkiikaaGreatProg
set_option maxHeartbeats 1000000
set_option linter.unusedSimpArgs false
set_option linter.unusedVariables false
set_option linter.unnecessarySimpa false
set_option maxRecDepth 100000
namespace Go.Proofs.YtonjiljafkiikaaGreat
open Go Go.FW
theorem Qk:Tryz.prog.follows .mixedOrders=true:=by kernel_rfl
def uv:aw:=⟨21,[.t 2],Zr (Zo (.mv 2 (.c .aa)) .nil)<|Zr (Zm 4 0<|
 Zn 5 4<|
 Zm 3 5 .nil)<| .seq (.block 0<| .loop<| .seq (Zr (Zm 6 3<|
 Zk 7 .gtr 6 0<|
 Zm 8 7<|
 Zg 8 true (.mv 9 (.t 0))<|
 Zg 8 true (.mv 10 (.t 3))<|
 Zg 8 true (.bin 11 .sub false (.t 10) (.c (Zz 1)))<|
 Zg 8 true (.idx 12 1 (.t 9) (.t 11))<|
 Zg 8 true (.ld 13 1 false (.t 12))<|
 Zg 8 true (.bin 14 .eql false (.t 13) (.c (.int .u16 0)))<|
 Zo (.pick 15 (.t 8) (.t 14) (.c (.bool false))) .nil)<| .cond (.t 15) .skip (.exit 0))<| .block 1<| .rg (Zm 16 3<|
 Zk 17 .sub 16 1<|
 Zm 3 17 .nil))<|Zr (Zm 18 0<|
 Zm 19 3<|
 Zo (.sl 20 1 (.t 18) none (some (.t 19)) none)<|
 Zm 2 20 .nil) .ret⟩
theorem Jw:Qe Tryz.prog Tryz.f162=some uv:=by kernel_rfl
def zx:aw:=⟨16,[.t 2],Zr (Zo (.mv 2 (.c .aa)) .nil)<|Zr (Zm 4 0<|
 Zq 5 false 162 [.t 4]<|
 Zm 0 5 .nil)<| .seq (Zr (Zm 6 0<|
 Zn 7 6<|
 Zk 8 .eql 7 0 .nil)<| .cond (.t 8) (Zr (Zo (.mv 2 (.c .aa)) .nil) .ret) .skip)<|Zr (Zm 9 0<|
 Zn 10 9<|
 Zo (.mk 11 1 2 152 (.int .u16 0) (.t 10) (.t 10))<|
 Zm 3 11 .nil)<|Zr (Zm 12 3<|
 Zm 13 0<|
 Zo (.oL 14 1 (.t 12) (.t 13)) .nil)<|Zr (Zm 15 3<|
 Zm 2 15 .nil) .ret⟩
theorem RE:Qe Tryz.prog Tryz.f148=some zx:=by kernel_rfl
def zy:aw:=⟨14,[.t 2],Zr (Zo (.mv 2 (.c .aa)) .nil)<|Zr (Zo (.mv 3 (.c .aa)) .nil)<| .seq (.block 0<| .loop<| .seq (Zr (Zm 4 0<|
 Zo (.bin 5 .gtr false (.t 4) (.c (.int .u64 0))) .nil)<| .cond (.t 5) .skip (.exit 0))<| .seq (.block 1<| .rg (Zm 8 3<|
 Zm 9 0<|
 Zo (.conv 10 .u16 (.t 9))<|
 Zo (.bs 11 1 152 [.t 10])<|
 Zo (.app 12 1 2 152 (.t 8) (.t 11))<|
 Zm 3 12 .nil))<| .rg (Zm 6 0<|
 Zo (.bin 7 .shr false (.t 6) (.c (.int .u64 16)))<|
 Zm 0 7 .nil))<|Zr (Zm 13 3<|
 Zm 2 13 .nil) .ret⟩
theorem RF:Qe Tryz.prog Tryz.f150=some zy:=by kernel_rfl
def zA:aw:=⟨28,[.t 2,.t 3],Zr (Zo (.mv 2 (.c (.int .u64 0)))<|
 Zo (.mv 3 (.c (.bool false))) .nil)<|Zr (Zm 7 0<|
 Zq 8 false 162 [.t 7]<|
 Zm 0 8 .nil)<| .seq (Zr (Zm 9 0<|
 Zn 10 9<|
 Zk 11 .gtr 10 4 .nil)<| .cond (.t 11) (Zr (Zo (.mv 2 (.c (.int .u64 0)))<|
 Zo (.mv 3 (.c (.bool false))) .nil) .ret) .skip)<|Zr (Zo (.mv 4 (.c (.int .u64 0))) .nil)<| .seq (Zr (Zm 12 0<|
 Zn 13 12<|
 Zc 14 0 .nil)<| .block 0<| .loop<|Zr (Zb 15 .lss 14 13 .nil)<| .seq (.cond (.t 15) .skip (.exit 0))<| .seq (.block 1<|Zr (Zm 16 14<|
 Zi 17 1 12 14<|
 Zl 18 1 17<|
 Zm 5 16<|
 Zm 6 18 .nil)<| .rg (Zm 19 4<|
 Zm 20 6<|
 Zo (.conv 21 .u64 (.t 20))<|
 Zm 22 5<|
 Zo (.bin 23 .mul false (.c (Zz 16)) (.t 22))<|
 Zb 24 .shl 21 23<|
 Zb 25 .or 19 24<|
 Zm 4 25 .nil))<| .rg (Zk 26 .add 14 1<|
 Zm 14 26 .nil))<|Zr (Zm 27 4<|
 Zm 2 27<|
 Zo (.mv 3 (.c (.bool true))) .nil) .ret⟩
theorem RG:Qe Tryz.prog Tryz.f149=some zA:=by kernel_rfl
def zB:aw:=⟨20,[.t 2],Zr (Zc 2 0 .nil)<|Zr (Zm 3 0<|
 Zq 4 false 162 [.t 3]<|
 Zm 0 4 .nil)<| .seq (Zr (Zm 5 0<|
 Zn 6 5<|
 Zk 7 .eql 6 0 .nil)<| .cond (.t 7) (Zr (Zc 2 0 .nil) .ret) .skip)<|Zr (Zm 8 0<|
 Zn 9 8<|
 Zk 10 .sub 9 1<|
 Zo (.bin 11 .mul false (.c (Zz 16)) (.t 10))<|
 Zm 12 0<|
 Zm 13 0<|
 Zn 14 13<|
 Zk 15 .sub 14 1<|
 Zi 16 1 12 15<|
 Zl 17 1 16<|
 Zq 18 false 176 [.t 17]<|
 Zb 19 .add 11 18<|
 Zm 2 19 .nil) .ret⟩
theorem QV:Qe Tryz.prog Tryz.f187=some zB:=by kernel_rfl
def zC:aw:=⟨45,[.t 4],Zr (Zc 4 0 .nil)<|Zr (Zm 6 0<|
 Zq 7 false 162 [.t 6]<|
 Zm 8 1<|
 Zq 9 false 162 [.t 8]<|
 Zm 0 7<|
 Zm 1 9 .nil)<| .seq (Zr (Zm 10 0<|
 Zn 11 10<|
 Zm 12 1<|
 Zn 13 12<|
 Zb 14 .neq 11 13 .nil)<| .cond (.t 14) (.seq (Zr (Zm 15 0<|
 Zn 16 15<|
 Zm 17 1<|
 Zn 18 17<|
 Zb 19 .lss 16 18 .nil)<| .cond (.t 19) (Zr (Zc 4 (-1) .nil) .ret) .skip)<|Zr (Zc 4 1 .nil) .ret) .skip)<| .seq (Zr (Zm 20 0<|
 Zn 21 20<|
 Zk 22 .sub 21 1<|
 Zm 5 22 .nil)<| .block 0<| .loop<| .seq (Zr (Zm 23 5<|
 Zk 24 .geq 23 0 .nil)<| .cond (.t 24) .skip (.exit 0))<| .seq (.block 1<| .seq (Zr (Zm 27 0<|
 Zm 28 5<|
 Zi 29 1 27 28<|
 Zl 30 1 29<|
 Zm 31 1<|
 Zm 32 5<|
 Zi 33 1 31 32<|
 Zl 34 1 33<|
 Zb 35 .lss 30 34 .nil)<| .cond (.t 35) (Zr (Zc 4 (-1) .nil) .ret) .skip)<|Zr (Zm 36 0<|
 Zm 37 5<|
 Zi 38 1 36 37<|
 Zl 39 1 38<|
 Zm 40 1<|
 Zm 41 5<|
 Zi 42 1 40 41<|
 Zl 43 1 42<|
 Zb 44 .gtr 39 43 .nil)<| .cond (.t 44) (Zr (Zc 4 1 .nil) .ret) .skip)<| .rg (Zm 25 5<|
 Zk 26 .sub 25 1<|
 Zm 5 26 .nil))<|Zr (Zc 4 0 .nil) .ret⟩
theorem QW:Qe Tryz.prog Tryz.f163=some zC:=by kernel_rfl
def zD:aw:=⟨64,[.t 4],Zr (Zo (.mv 4 (.c .aa)) .nil)<|Zr (Zm 9 0<|
 Zq 10 false 162 [.t 9]<|
 Zm 11 1<|
 Zq 12 false 162 [.t 11]<|
 Zm 0 10<|
 Zm 1 12 .nil)<| .seq (Zr (Zm 13 0<|
 Zn 14 13<|
 Zm 15 1<|
 Zn 16 15<|
 Zb 17 .lss 14 16 .nil)<| .cond (.t 17) (.rg (Zm 18 1<|
 Zm 19 0<|
 Zm 0 18<|
 Zm 1 19 .nil)) .skip)<|Zr (Zm 20 0<|
 Zn 21 20<|
 Zm 22 0<|
 Zn 23 22<|
 Zk 24 .add 23 1<|
 Zo (.mk 25 1 2 152 (.int .u16 0) (.t 21) (.t 24))<|
 Zm 5 25 .nil)<|Zr (Zo (.mv 6 (.c (.int .u32 0))) .nil)<| .seq (Zr (Zm 26 0<|
 Zn 27 26<|
 Zc 28 0 .nil)<| .block 0<| .loop<|Zr (Zb 29 .lss 28 27 .nil)<| .seq (.cond (.t 29) .skip (.exit 0))<| .seq (.block 1<|Zr (Zm 30 28<|
 Zi 31 1 26 28<|
 Zl 32 1 31<|
 Zm 7 30<|
 Zm 8 32 .nil)<|Zr (Zm 33 6<|
 Zm 34 8<|
 Zo (.conv 35 .u32 (.t 34))<|
 Zb 36 .add 33 35<|
 Zm 6 36 .nil)<| .seq (Zr (Zm 37 7<|
 Zm 38 1<|
 Zn 39 38<|
 Zb 40 .lss 37 39 .nil)<| .cond (.t 40) (.rg (Zm 41 6<|
 Zm 42 1<|
 Zm 43 7<|
 Zi 44 1 42 43<|
 Zl 45 1 44<|
 Zo (.conv 46 .u32 (.t 45))<|
 Zb 47 .add 41 46<|
 Zm 6 47 .nil)) .skip)<|Zr (Zm 48 5<|
 Zm 49 7<|
 Zm 50 6<|
 Zo (.conv 51 .u16 (.t 50))<|
 Zi 52 1 48 49<|
 Zs 1 52 51 .nil)<| .rg (Zm 53 6<|
 Zo (.bin 54 .shr false (.t 53) (.c (.int .u64 16)))<|
 Zm 6 54 .nil))<| .rg (Zk 55 .add 28 1<|
 Zm 28 55 .nil))<| .seq (Zr (Zm 56 6<|
 Zo (.bin 57 .gtr false (.t 56) (.c (.int .u32 0))) .nil)<| .cond (.t 57) (.rg (Zm 58 5<|
 Zm 59 6<|
 Zo (.conv 60 .u16 (.t 59))<|
 Zo (.bs 61 1 152 [.t 60])<|
 Zo (.app 62 1 2 152 (.t 58) (.t 61))<|
 Zm 5 62 .nil)) .skip)<|Zr (Zm 63 5<|
 Zm 4 63 .nil) .ret⟩
theorem QX:Qe Tryz.prog Tryz.f197=some zD:=by kernel_rfl
def zE:aw:=⟨56,[.t 4,.t 5],Zr (Zo (.mv 4 (.c .aa))<|
 Zc 5 0 .nil)<| .seq (Zr (Zm 11 0<|
 Zm 12 1<|
 Zq 13 false 163 [.t 11,.t 12]<|
 Zk 14 .lss 13 0 .nil)<| .cond (.t 14) (Zr (Zo (.mv 4 (.c .aa))<|
 Zc 5 2 .nil) .ret) .skip)<|Zr (Zm 15 0<|
 Zq 16 false 162 [.t 15]<|
 Zm 17 1<|
 Zq 18 false 162 [.t 17]<|
 Zm 0 16<|
 Zm 1 18 .nil)<|Zr (Zm 19 0<|
 Zn 20 19<|
 Zo (.mk 21 1 2 152 (.int .u16 0) (.t 20) (.t 20))<|
 Zm 6 21 .nil)<|Zr (Zo (.mv 7 (.c (.int .i32 0))) .nil)<| .seq (Zr (Zm 22 0<|
 Zn 23 22<|
 Zc 24 0 .nil)<| .block 0<| .loop<|Zr (Zb 25 .lss 24 23 .nil)<| .seq (.cond (.t 25) .skip (.exit 0))<| .seq (.block 1<|Zr (Zm 26 24<|
 Zi 27 1 22 24<|
 Zl 28 1 27<|
 Zm 8 26<|
 Zm 9 28 .nil)<|Zr (Zm 29 9<|
 Zo (.conv 30 .i32 (.t 29))<|
 Zm 31 7<|
 Zb 32 .sub 30 31<|
 Zm 10 32 .nil)<| .seq (Zr (Zm 33 8<|
 Zm 34 1<|
 Zn 35 34<|
 Zb 36 .lss 33 35 .nil)<| .cond (.t 36) (.rg (Zm 37 10<|
 Zm 38 1<|
 Zm 39 8<|
 Zi 40 1 38 39<|
 Zl 41 1 40<|
 Zo (.conv 42 .i32 (.t 41))<|
 Zb 43 .sub 37 42<|
 Zm 10 43 .nil)) .skip)<|Zr (Zo (.mv 7 (.c (.int .i32 0))) .nil)<| .seq (Zr (Zm 44 10<|
 Zo (.bin 45 .lss false (.t 44) (.c (.int .i32 0))) .nil)<| .cond (.t 45) (Zr (Zm 46 10<|
 Zo (.bin 47 .add false (.t 46) (.c (.int .i32 65536)))<|
 Zm 10 47 .nil)<| .rg (Zo (.mv 7 (.c (.int .i32 1))) .nil)) .skip)<| .rg (Zm 48 6<|
 Zm 49 8<|
 Zm 50 10<|
 Zo (.conv 51 .u16 (.t 50))<|
 Zi 52 1 48 49<|
 Zs 1 52 51 .nil))<| .rg (Zk 53 .add 24 1<|
 Zm 24 53 .nil))<|Zr (Zm 54 6<|
 Zq 55 false 162 [.t 54]<|
 Zm 4 55<|
 Zc 5 0 .nil) .ret⟩
theorem QY:Qe Tryz.prog Tryz.f198=some zE:=by kernel_rfl
def zf:aw:=⟨79,[.t 4],Zr (Zo (.mv 4 (.c .aa)) .nil)<|Zr (Zm 11 0<|
 Zq 12 false 162 [.t 11]<|
 Zm 13 1<|
 Zq 14 false 162 [.t 13]<|
 Zm 0 12<|
 Zm 1 14 .nil)<| .seq (Zr (Zm 15 0<|
 Zn 16 15<|
 Zk 17 .eql 16 0<|
 Zm 18 17<|
 Zg 18 false (.mv 19 (.t 1))<|
 Zg 18 false (.len 20 (.t 19))<|
 Zg 18 false (.bin 21 .eql false (.t 20) (.c (Zz 0)))<|
 Zo (.pick 22 (.t 18) (.c (.bool true)) (.t 21)) .nil)<| .cond (.t 22) (Zr (Zo (.mv 4 (.c .aa)) .nil) .ret) .skip)<|Zr (Zm 23 0<|
 Zn 24 23<|
 Zm 25 1<|
 Zn 26 25<|
 Zb 27 .add 24 26<|
 Zo (.mk 28 1 2 152 (.int .u16 0) (.t 27) (.t 27))<|
 Zm 5 28 .nil)<| .seq (Zr (Zm 29 0<|
 Zn 30 29<|
 Zc 31 0 .nil)<| .block 0<| .loop<|Zr (Zb 32 .lss 31 30 .nil)<| .seq (.cond (.t 32) .skip (.exit 0))<| .seq (.block 1<|Zr (Zm 33 31<|
 Zi 34 1 29 31<|
 Zl 35 1 34<|
 Zm 6 33<|
 Zm 7 35 .nil)<|Zr (Zo (.mv 8 (.c (.int .u32 0))) .nil)<| .seq (Zr (Zm 36 1<|
 Zn 37 36<|
 Zc 38 0 .nil)<| .block 2<| .loop<|Zr (Zb 39 .lss 38 37 .nil)<| .seq (.cond (.t 39) .skip (.exit 2))<| .seq (.block 3<|Zr (Zm 40 38<|
 Zi 41 1 36 38<|
 Zl 42 1 41<|
 Zm 9 40<|
 Zm 10 42 .nil)<|Zr (Zm 43 8<|
 Zm 44 5<|
 Zm 45 6<|
 Zm 46 9<|
 Zb 47 .add 45 46<|
 Zi 48 1 44 47<|
 Zl 49 1 48<|
 Zo (.conv 50 .u32 (.t 49))<|
 Zm 51 7<|
 Zo (.conv 52 .u32 (.t 51))<|
 Zm 53 10<|
 Zo (.conv 54 .u32 (.t 53))<|
 Zb 55 .mul 52 54<|
 Zb 56 .add 50 55<|
 Zb 57 .add 43 56<|
 Zm 8 57 .nil)<|Zr (Zm 58 5<|
 Zm 59 6<|
 Zm 60 9<|
 Zb 61 .add 59 60<|
 Zm 62 8<|
 Zo (.conv 63 .u16 (.t 62))<|
 Zi 64 1 58 61<|
 Zs 1 64 63 .nil)<| .rg (Zm 65 8<|
 Zo (.bin 66 .shr false (.t 65) (.c (.int .u64 16)))<|
 Zm 8 66 .nil))<| .rg (Zk 67 .add 38 1<|
 Zm 38 67 .nil))<| .rg (Zm 68 5<|
 Zm 69 6<|
 Zm 70 1<|
 Zn 71 70<|
 Zb 72 .add 69 71<|
 Zm 73 8<|
 Zo (.conv 74 .u16 (.t 73))<|
 Zi 75 1 68 72<|
 Zs 1 75 74 .nil))<| .rg (Zk 76 .add 31 1<|
 Zm 31 76 .nil))<|Zr (Zm 77 5<|
 Zq 78 false 162 [.t 77]<|
 Zm 4 78 .nil) .ret⟩
theorem QZ:Qe Tryz.prog Tryz.f183=some zf:=by kernel_rfl
def zg:aw:=⟨43,[.t 4,.t 5],Zr (Zo (.mv 4 (.c .aa))<|
 Zo (.mv 5 (.c (.int .u16 0))) .nil)<|Zr (Zm 9 0<|
 Zn 10 9<|
 Zo (.mk 11 1 2 152 (.int .u16 0) (.t 10) (.t 10))<|
 Zm 6 11 .nil)<|Zr (Zo (.mv 7 (.c (.int .u32 0))) .nil)<| .seq (Zr (Zm 12 0<|
 Zn 13 12<|
 Zk 14 .sub 13 1<|
 Zm 8 14 .nil)<| .block 0<| .loop<| .seq (Zr (Zm 15 8<|
 Zk 16 .geq 15 0 .nil)<| .cond (.t 16) .skip (.exit 0))<| .seq (.block 1<|Zr (Zm 19 7<|
 Zo (.bin 20 .shl false (.t 19) (.c (.int .u64 16)))<|
 Zm 21 0<|
 Zm 22 8<|
 Zi 23 1 21 22<|
 Zl 24 1 23<|
 Zo (.conv 25 .u32 (.t 24))<|
 Zb 26 .or 20 25<|
 Zm 7 26 .nil)<|Zr (Zm 27 6<|
 Zm 28 8<|
 Zm 29 7<|
 Zm 30 1<|
 Zo (.conv 31 .u32 (.t 30))<|
 Zb 32 .quo 29 31<|
 Zo (.conv 33 .u16 (.t 32))<|
 Zi 34 1 27 28<|
 Zs 1 34 33 .nil)<| .rg (Zm 35 7<|
 Zm 36 1<|
 Zo (.conv 37 .u32 (.t 36))<|
 Zb 38 .rem 35 37<|
 Zm 7 38 .nil))<| .rg (Zm 17 8<|
 Zk 18 .sub 17 1<|
 Zm 8 18 .nil))<|Zr (Zm 39 6<|
 Zq 40 false 162 [.t 39]<|
 Zm 41 7<|
 Zo (.conv 42 .u16 (.t 41))<|
 Zm 4 40<|
 Zm 5 42 .nil) .ret⟩
theorem Ra:Qe Tryz.prog Tryz.f164=some zg:=by kernel_rfl
def zj:aw:=⟨71,[.t 4,.t 5,.t 6],Zr (Zo (.mv 4 (.c .aa))<|
 Zo (.mv 5 (.c .aa))<|
 Zc 6 0 .nil)<|Zr (Zm 12 0<|
 Zq 13 false 162 [.t 12]<|
 Zm 14 1<|
 Zq 15 false 162 [.t 14]<|
 Zm 0 13<|
 Zm 1 15 .nil)<| .seq (.block 0<|Zr (Zm 17 1<|
 Zn 18 17<|
 Zk 19 .eql 18 0<|
 Zm 16 19 .nil)<| .cond (.t 16) (Zr (Zo (.mv 4 (.c .aa))<|
 Zo (.mv 5 (.c .aa))<|
 Zc 6 3 .nil) .ret) (Zr (Zm 21 0<|
 Zm 22 1<|
 Zq 23 false 163 [.t 21,.t 22]<|
 Zk 24 .lss 23 0<|
 Zm 20 24 .nil)<| .cond (.t 20) (Zr (Zm 25 0<|
 Zq 26 false 148 [.t 25]<|
 Zo (.mv 4 (.c .aa))<|
 Zm 5 26<|
 Zc 6 0 .nil) .ret) (Zr (Zm 28 1<|
 Zn 29 28<|
 Zk 30 .eql 29 1<|
 Zm 27 30 .nil)<| .cond (.t 27) (Zr (Zm 32 0<|
 Zm 33 1<|
 Zo (.idx 34 1 (.t 33) (.c (Zz 0)))<|
 Zl 35 1 34<|
 Zq 36 false 164 [.t 32,.t 35]<|
 Zm 31 36<|
 Zo (.ext 37 (.t 31) 0)<|
 Zo (.ext 38 (.t 31) 1)<|
 Zm 7 37<|
 Zm 8 38 .nil)<|Zr (Zm 39 7<|
 Zm 40 8<|
 Zo (.conv 41 .u64 (.t 40))<|
 Zq 42 false 150 [.t 41]<|
 Zm 4 39<|
 Zm 5 42<|
 Zc 6 0 .nil) .ret) .skip)))<|Zr (Zm 43 1<|
 Zm 44 1<|
 Zn 45 44<|
 Zk 46 .sub 45 1<|
 Zi 47 1 43 46<|
 Zl 48 1 47<|
 Zq 49 false 165 [.t 48]<|
 Zm 9 49 .nil)<|Zr (Zm 50 0<|
 Zm 51 9<|
 Zq 52 false 166 [.t 50,.t 51]<|
 Zo (.bs 53 1 152 [.c (.int .u16 0),.c (.int .u16 0)])<|
 Zo (.app 54 1 2 152 (.t 52) (.t 53))<|
 Zm 55 0<|
 Zn 56 55<|
 Zk 57 .add 56 1<|
 Zo (.sl 58 1 (.t 54) none (some (.t 57)) none)<|
 Zm 10 58 .nil)<|Zr (Zm 59 1<|
 Zm 60 9<|
 Zq 61 false 166 [.t 59,.t 60]<|
 Zm 11 61 .nil)<|Zr (Zm 62 10<|
 Zm 63 11<|
 Zq 64 false 167 [.t 62,.t 63]<|
 Zm 4 64 .nil)<|Zr (Zm 65 4<|
 Zm 66 10<|
 Zq 67 false 162 [.t 66]<|
 Zm 68 9<|
 Zo (.un 69 .neg (.t 68))<|
 Zq 70 false 166 [.t 67,.t 69]<|
 Zm 4 65<|
 Zm 5 70<|
 Zc 6 0 .nil) .ret⟩
theorem Rb:Qe Tryz.prog Tryz.f151=some zj:=by kernel_rfl
def zk:aw:=⟨31,[.t 6],Zr (Zo (.mv 6 (.c (.bool false))) .nil)<|Zr (Zl 7 1 0<|
 Zo (.bin 8 .geq false (.t 7) (.c (.int .u64 65536)))<|
 Zm 9 8<|
 Zg 9 false (.ld 10 1 false (.t 0))<|
 Zg 9 false (.ld 11 1 false (.t 1))<|
 Zg 9 false (.ld 12 1 false (.t 2))<|
 Zg 9 false (.bin 13 .sub false (.t 12) (.c (Zz 2)))<|
 Zg 9 false (.idx 14 1 (.t 11) (.t 13))<|
 Zg 9 false (.ld 15 1 false (.t 14))<|
 Zg 9 false (.conv 16 .u64 (.t 15))<|
 Zg 9 false (.bin 17 .mul false (.t 10) (.t 16))<|
 Zg 9 false (.ld 18 1 false (.t 3))<|
 Zg 9 false (.bin 19 .shl false (.t 18) (.c (.int .u64 16)))<|
 Zg 9 false (.ld 20 1 false (.t 4))<|
 Zg 9 false (.ld 21 1 false (.t 5))<|
 Zg 9 false (.ld 22 1 false (.t 2))<|
 Zg 9 false (.bin 23 .add false (.t 21) (.t 22))<|
 Zg 9 false (.bin 24 .sub false (.t 23) (.c (Zz 2)))<|
 Zg 9 false (.idx 25 1 (.t 20) (.t 24))<|
 Zg 9 false (.ld 26 1 false (.t 25))<|
 Zg 9 false (.conv 27 .u64 (.t 26))<|
 Zg 9 false (.bin 28 .or false (.t 19) (.t 27))<|
 Zg 9 false (.bin 29 .gtr false (.t 17) (.t 28))<|
 Zo (.pick 30 (.t 9) (.c (.bool true)) (.t 29))<|
 Zm 6 30 .nil) .ret⟩
theorem Rc:Qe Tryz.prog Tryz.f178=some zk:=by kernel_rfl
def zn:aw:=⟨54,[.t 6],Zr (Zo (.mv 6 (.c (.bool false))) .nil)<|Zr (Zo (.mv 7 (.c (.int .u32 0))) .nil)<|Zr (Zo (.mv 8 (.c (.int .i32 0))) .nil)<| .seq (Zr (Zm 11 0<|
 Zn 12 11<|
 Zc 13 0 .nil)<| .block 0<| .loop<|Zr (Zb 14 .lss 13 12 .nil)<| .seq (.cond (.t 14) .skip (.exit 0))<| .seq (.block 1<|Zr (Zm 15 13<|
 Zm 9 15 .nil)<| .seq (Zr (Zm 16 9<|
 Zm 17 1<|
 Zn 18 17<|
 Zb 19 .lss 16 18 .nil)<| .cond (.t 19) (.rg (Zm 20 7<|
 Zm 21 2<|
 Zm 22 1<|
 Zm 23 9<|
 Zi 24 1 22 23<|
 Zl 25 1 24<|
 Zo (.conv 26 .u32 (.t 25))<|
 Zb 27 .mul 21 26<|
 Zb 28 .add 20 27<|
 Zm 7 28 .nil)) .skip)<|Zr (Zm 29 0<|
 Zm 30 9<|
 Zi 31 1 29 30<|
 Zl 32 1 31<|
 Zo (.conv 33 .i32 (.t 32))<|
 Zm 34 7<|
 Zo (.conv 35 .u16 (.t 34))<|
 Zo (.conv 36 .i32 (.t 35))<|
 Zb 37 .sub 33 36<|
 Zm 38 8<|
 Zb 39 .sub 37 38<|
 Zm 10 39 .nil)<|Zr (Zm 40 7<|
 Zo (.bin 41 .shr false (.t 40) (.c (.int .u64 16)))<|
 Zm 7 41 .nil)<|Zr (Zo (.mv 8 (.c (.int .i32 0))) .nil)<| .seq (Zr (Zm 42 10<|
 Zo (.bin 43 .lss false (.t 42) (.c (.int .i32 0))) .nil)<| .cond (.t 43) (Zr (Zm 44 10<|
 Zo (.bin 45 .add false (.t 44) (.c (.int .i32 65536)))<|
 Zm 10 45 .nil)<| .rg (Zo (.mv 8 (.c (.int .i32 1))) .nil)) .skip)<| .rg (Zm 46 0<|
 Zm 47 9<|
 Zm 48 10<|
 Zo (.conv 49 .u16 (.t 48))<|
 Zi 50 1 46 47<|
 Zs 1 50 49 .nil))<| .rg (Zk 51 .add 13 1<|
 Zm 13 51 .nil))<|Zr (Zm 52 8<|
 Zo (.bin 53 .gtr false (.t 52) (.c (.int .i32 0)))<|
 Zm 6 53 .nil) .ret⟩
theorem Re:Qe Tryz.prog Tryz.f179=some zn:=by kernel_rfl
def zo:aw:=⟨37,[],Zr (Zo (.mv 4 (.c (.int .u32 0))) .nil)<|Zr (Zm 6 0<|
 Zn 7 6<|
 Zc 8 0 .nil)<| .block 0<| .loop<|Zr (Zb 9 .lss 8 7 .nil)<| .seq (.cond (.t 9) .skip (.exit 0))<| .seq (.block 1<|Zr (Zm 10 8<|
 Zm 5 10 .nil)<|Zr (Zm 11 4<|
 Zm 12 0<|
 Zm 13 5<|
 Zi 14 1 12 13<|
 Zl 15 1 14<|
 Zo (.conv 16 .u32 (.t 15))<|
 Zb 17 .add 11 16<|
 Zm 4 17 .nil)<| .seq (Zr (Zm 18 5<|
 Zm 19 1<|
 Zn 20 19<|
 Zb 21 .lss 18 20 .nil)<| .cond (.t 21) (.rg (Zm 22 4<|
 Zm 23 1<|
 Zm 24 5<|
 Zi 25 1 23 24<|
 Zl 26 1 25<|
 Zo (.conv 27 .u32 (.t 26))<|
 Zb 28 .add 22 27<|
 Zm 4 28 .nil)) .skip)<|Zr (Zm 29 0<|
 Zm 30 5<|
 Zm 31 4<|
 Zo (.conv 32 .u16 (.t 31))<|
 Zi 33 1 29 30<|
 Zs 1 33 32 .nil)<| .rg (Zm 34 4<|
 Zo (.bin 35 .shr false (.t 34) (.c (.int .u64 16)))<|
 Zm 4 35 .nil))<| .rg (Zk 36 .add 8 1<|
 Zm 8 36 .nil)⟩
theorem Rf:Qe Tryz.prog Tryz.f180=some zo:=by kernel_rfl
def zp:aw:=⟨51,[.t 4],Zr (Zo (.mv 4 (.c .aa)) .nil)<|Zr (Zm 12 0<|
 Zq 13 false 148 [.t 12]<|
 Zm 14 1<|
 Zq 15 false 148 [.t 14]<|
 Zm 0 13<|
 Zm 1 15 .nil)<| .seq (.block 0<| .loop<| .seq (Zr (Zm 16 1<|
 Zn 17 16<|
 Zk 18 .gtr 17 0 .nil)<| .cond (.t 18) .skip (.exit 0))<| .block 1<|Zr (Zm 20 0<|
 Zq 21 false 149 [.t 20]<|
 Zm 19 21<|
 Zo (.ext 22 (.t 19) 0)<|
 Zo (.ext 23 (.t 19) 1)<|
 Zm 5 22<|
 Zm 6 23 .nil)<|Zr (Zm 25 1<|
 Zq 26 false 149 [.t 25]<|
 Zm 24 26<|
 Zo (.ext 27 (.t 24) 0)<|
 Zo (.ext 28 (.t 24) 1)<|
 Zm 7 27<|
 Zm 8 28 .nil)<| .seq (Zr (Zm 29 6<|
 Zm 30 29<|
 Zg 30 true (.mv 31 (.t 8))<|
 Zo (.pick 32 (.t 30) (.t 31) (.c (.bool false))) .nil)<| .cond (.t 32) (.seq (.block 2<| .loop<| .seq (Zr (Zm 33 7<|
 Zo (.bin 34 .gtr false (.t 33) (.c (.int .u64 0))) .nil)<| .cond (.t 34) .skip (.exit 2))<| .block 3<| .rg (Zm 35 7<|
 Zm 36 5<|
 Zm 37 7<|
 Zb 38 .rem 36 37<|
 Zm 5 35<|
 Zm 7 38 .nil))<|Zr (Zm 39 5<|
 Zq 40 false 150 [.t 39]<|
 Zm 4 40 .nil) .ret) .skip)<|Zr (Zm 42 0<|
 Zm 43 1<|
 Zq 44 false 151 [.t 42,.t 43]<|
 Zm 41 44<|
 Zo (.ext 45 (.t 41) 0)<|
 Zo (.ext 46 (.t 41) 1)<|
 Zo (.ext 47 (.t 41) 2)<|
 Zm 9 45<|
 Zm 10 46<|
 Zm 11 47 .nil)<| .rg (Zm 48 1<|
 Zm 49 10<|
 Zm 0 48<|
 Zm 1 49 .nil))<|Zr (Zm 50 0<|
 Zm 4 50 .nil) .ret⟩
theorem RR:Qe Tryz.prog Tryz.f113=some zp:=by kernel_rfl
def qb:aw:=⟨78,[.t 4],Zr (Zo (.mv 4 (.c .aa)) .nil)<|Zr (Zm 11 0<|
 Zq 12 false 162 [.t 11]<|
 Zm 0 12 .nil)<| .seq (Zr (Zm 13 1<|
 Zk 14 .lss 13 (-1048576)<|
 Zm 15 14<|
 Zg 15 false (.mv 16 (.t 1))<|
 Zg 15 false (.bin 17 .gtr false (.t 16) (.c (Zz 1048576)))<|
 Zo (.pick 18 (.t 15) (.c (.bool true)) (.t 17))<|
 Zm 19 18<|
 Zg 19 false (.mv 20 (.t 0))<|
 Zg 19 false (.len 21 (.t 20))<|
 Zg 19 false (.bin 22 .eql false (.t 21) (.c (Zz 0)))<|
 Zo (.pick 23 (.t 19) (.c (.bool true)) (.t 22)) .nil)<| .cond (.t 23) (Zr (Zo (.mv 4 (.c .aa)) .nil) .ret) .skip)<| .seq (Zr (Zm 24 1<|
 Zk 25 .lss 24 0 .nil)<| .cond (.t 25) (Zr (Zm 26 0<|
 Zm 27 1<|
 Zo (.un 28 .neg (.t 27))<|
 Zq 29 false 177 [.t 26,.t 28]<|
 Zm 4 29 .nil) .ret) .skip)<|Zr (Zm 30 1<|
 Zk 31 .quo 30 16<|
 Zm 32 1<|
 Zk 33 .rem 32 16<|
 Zm 5 31<|
 Zm 6 33 .nil)<|Zr (Zm 34 0<|
 Zn 35 34<|
 Zm 36 5<|
 Zb 37 .add 35 36<|
 Zk 38 .add 37 1<|
 Zm 39 0<|
 Zn 40 39<|
 Zm 41 5<|
 Zb 42 .add 40 41<|
 Zk 43 .add 42 3<|
 Zo (.mk 44 1 2 152 (.int .u16 0) (.t 38) (.t 43))<|
 Zm 7 44 .nil)<| .seq (Zr (Zm 45 0<|
 Zn 46 45<|
 Zc 47 0 .nil)<| .block 0<| .loop<|Zr (Zb 48 .lss 47 46 .nil)<| .seq (.cond (.t 48) .skip (.exit 0))<| .seq (.block 1<|Zr (Zm 49 47<|
 Zi 50 1 45 47<|
 Zl 51 1 50<|
 Zm 8 49<|
 Zm 9 51 .nil)<|Zr (Zm 52 9<|
 Zo (.conv 53 .u32 (.t 52))<|
 Zm 54 6<|
 Zb 55 .shl 53 54<|
 Zm 10 55 .nil)<|Zr (Zm 56 7<|
 Zm 57 8<|
 Zm 58 5<|
 Zb 59 .add 57 58<|
 Zi 60 1 56 59<|
 Zl 61 1 60<|
 Zm 62 10<|
 Zo (.conv 63 .u16 (.t 62))<|
 Zb 64 .or 61 63<|
 Zi 65 1 56 59<|
 Zs 1 65 64 .nil)<| .rg (Zm 66 7<|
 Zm 67 8<|
 Zm 68 5<|
 Zb 69 .add 67 68<|
 Zk 70 .add 69 1<|
 Zm 71 10<|
 Zo (.bin 72 .shr false (.t 71) (.c (.int .u64 16)))<|
 Zo (.conv 73 .u16 (.t 72))<|
 Zi 74 1 66 70<|
 Zs 1 74 73 .nil))<| .rg (Zk 75 .add 47 1<|
 Zm 47 75 .nil))<|Zr (Zm 76 7<|
 Zq 77 false 162 [.t 76]<|
 Zm 4 77 .nil) .ret⟩
theorem B3:Qe Tryz.prog Tryz.f166=some qb:=by kernel_rfl
def zq:aw:=⟨63,[.t 4],Zr (Zo (.mv 4 (.c .aa)) .nil)<|Zr (Zm 10 1<|
 Zk 11 .quo 10 16<|
 Zm 12 1<|
 Zk 13 .rem 12 16<|
 Zm 5 11<|
 Zm 6 13 .nil)<| .seq (Zr (Zm 14 5<|
 Zm 15 0<|
 Zn 16 15<|
 Zb 17 .geq 14 16 .nil)<| .cond (.t 17) (Zr (Zo (.mv 4 (.c .aa)) .nil) .ret) .skip)<|Zr (Zm 18 0<|
 Zn 19 18<|
 Zm 20 5<|
 Zb 21 .sub 19 20<|
 Zo (.mk 22 1 2 152 (.int .u16 0) (.t 21) (.t 21))<|
 Zm 7 22 .nil)<| .seq (Zr (Zm 23 7<|
 Zn 24 23<|
 Zc 25 0 .nil)<| .block 0<| .loop<|Zr (Zb 26 .lss 25 24 .nil)<| .seq (.cond (.t 26) .skip (.exit 0))<| .seq (.block 1<|Zr (Zm 27 25<|
 Zm 8 27 .nil)<|Zr (Zm 28 0<|
 Zm 29 8<|
 Zm 30 5<|
 Zb 31 .add 29 30<|
 Zi 32 1 28 31<|
 Zl 33 1 32<|
 Zo (.conv 34 .u32 (.t 33))<|
 Zm 9 34 .nil)<| .seq (Zr (Zm 35 8<|
 Zm 36 5<|
 Zb 37 .add 35 36<|
 Zk 38 .add 37 1<|
 Zm 39 0<|
 Zn 40 39<|
 Zb 41 .lss 38 40 .nil)<| .cond (.t 41) (.rg (Zm 42 9<|
 Zm 43 0<|
 Zm 44 8<|
 Zm 45 5<|
 Zb 46 .add 44 45<|
 Zk 47 .add 46 1<|
 Zi 48 1 43 47<|
 Zl 49 1 48<|
 Zo (.conv 50 .u32 (.t 49))<|
 Zo (.bin 51 .shl false (.t 50) (.c (.int .u64 16)))<|
 Zb 52 .or 42 51<|
 Zm 9 52 .nil)) .skip)<| .rg (Zm 53 7<|
 Zm 54 8<|
 Zm 55 9<|
 Zm 56 6<|
 Zb 57 .shr 55 56<|
 Zo (.conv 58 .u16 (.t 57))<|
 Zi 59 1 53 54<|
 Zs 1 59 58 .nil))<| .rg (Zk 60 .add 25 1<|
 Zm 25 60 .nil))<|Zr (Zm 61 7<|
 Zq 62 false 162 [.t 61]<|
 Zm 4 62 .nil) .ret⟩
theorem RS:Qe Tryz.prog Tryz.f177=some zq:=by kernel_rfl
def zr:aw:=⟨6,[.t 2],Zr (Zc 2 0 .nil)<|Zr (Zm 3 0<|
 Zq 4 false 176 [.t 3]<|
 Zo (.bin 5 .sub false (.c (Zz 16)) (.t 4))<|
 Zm 2 5 .nil) .ret⟩
theorem RU:Qe Tryz.prog Tryz.f165=some zr:=by kernel_rfl
def zs:aw:=⟨15,[.cell 4 2 true],Zr (Zo (.alloc 4 2 30 (.agg [.bool false,.aa])) .nil)<|Zr (Zm 5 1<|
 Zq 6 false 148 [.t 5]<|
 Zm 1 6 .nil)<|Zr (Zm 7 0<|
 Zm 8 7<|
 Zg 8 true (.mv 9 (.t 1))<|
 Zg 8 true (.len 10 (.t 9))<|
 Zg 8 true (.bin 11 .gtr false (.t 10) (.c (Zz 0)))<|
 Zo (.pick 12 (.t 8) (.t 11) (.c (.bool false)))<|
 Zm 13 1<|
 Zo (.cc 14 [.bool false,.aa] [(0,1,.t 12),(1,1,.t 13)])<|
 Zs 2 4 14 .nil) .ret⟩
theorem RW:Qe Tryz.prog Tryz.f196=some zs:=by kernel_rfl
def zL:aw:=⟨13,[.cell 4 2 true],Zr (Zo (.alloc 4 2 30 (.agg [.bool false,.aa])) .nil)<|Zr (Zm 5 0<|
 Zm 6 5<|
 Zg 6 true (.mv 7 (.t 1))<|
 Zg 6 true (.len 8 (.t 7))<|
 Zg 6 true (.bin 9 .gtr false (.t 8) (.c (Zz 0)))<|
 Zo (.pick 10 (.t 6) (.t 9) (.c (.bool false)))<|
 Zm 11 1<|
 Zo (.cc 12 [.bool false,.aa] [(0,1,.t 10),(1,1,.t 11)])<|
 Zs 2 4 12 .nil) .ret⟩
theorem RX:Qe Tryz.prog Tryz.f155=some zL:=by kernel_rfl
def zM:aw:=⟨27,[.t 2],Zr (Zo (.box 1 2 30 (.t 0))<|
 Zo (.mv 2 (.c (.bool false))) .nil)<|Zr (Zf 4 1 1<|
 Zl 5 1 4<|
 Zn 6 5<|
 Zm 3 6 .nil)<|Zr (Zm 7 3<|
 Zk 8 .eql 7 0<|
 Zm 9 8<|
 Zg 9 true (.bw 10 0 (.t 1))<|
 Zg 9 true (.ld 11 1 false (.t 10))<|
 Zg 9 true (.un 12 .not (.t 11))<|
 Zo (.pick 13 (.t 9) (.t 12) (.c (.bool false)))<|
 Zm 14 13<|
 Zg 14 false (.mv 15 (.t 3))<|
 Zg 14 false (.bin 16 .gtr false (.t 15) (.c (Zz 0)))<|
 Zg 14 false (.mv 17 (.t 16))<|
 Zg 17 true (.bw 18 1 (.t 1))<|
 Zg 17 true (.ld 19 1 false (.t 18))<|
 Zg 17 true (.mv 20 (.t 3))<|
 Zg 17 true (.bin 21 .sub false (.t 20) (.c (Zz 1)))<|
 Zg 17 true (.idx 22 1 (.t 19) (.t 21))<|
 Zg 17 true (.ld 23 1 false (.t 22))<|
 Zg 17 true (.bin 24 .neq false (.t 23) (.c (.int .u16 0)))<|
 Zg 14 false (.pick 25 (.t 17) (.t 24) (.c (.bool false)))<|
 Zo (.pick 26 (.t 14) (.c (.bool true)) (.t 25))<|
 Zm 2 26 .nil) .ret⟩
theorem RY:Qe Tryz.prog Tryz.f111=some zM:=by kernel_rfl
def zN:aw:=⟨8,[.cell 2 2 true],Zr (Zo (.box 1 2 30 (.t 0))<|
 Zo (.alloc 2 2 30 (.agg [.bool false,.aa])) .nil)<|Zr (Zf 3 0 1<|
 Zl 4 1 3<|
 Zf 5 1 1<|
 Zl 6 1 5<|
 Zq 7 false 196 [.t 4,.t 6]<|
 Zs 2 2 7 .nil) .ret⟩
theorem RZ:Qe Tryz.prog Tryz.f194=some zN:=by kernel_rfl
def zO:aw:=⟨16,[.cell 2 2 true],Zr (Zo (.alloc 2 2 30 (.agg [.bool false,.aa])) .nil)<| .seq (Zr (Zm 3 0<|
 Zk 4 .lss 3 0 .nil)<| .cond (.t 4) (Zr (Zm 5 0<|
 Zk 6 .add 5 1<|
 Zo (.un 7 .neg (.t 6))<|
 Zo (.conv 8 .u64 (.t 7))<|
 Zo (.bin 9 .add false (.t 8) (.c (.int .u64 1)))<|
 Zq 10 false 150 [.t 9]<|
 Zq 11 false 155 [.c (.bool true),.t 10]<|
 Zs 2 2 11 .nil) .ret) .skip)<|Zr (Zm 12 0<|
 Zo (.conv 13 .u64 (.t 12))<|
 Zq 14 false 150 [.t 13]<|
 Zq 15 false 155 [.c (.bool false),.t 14]<|
 Zs 2 2 15 .nil) .ret⟩
theorem R0:Qe Tryz.prog Tryz.f118=some zO:=by kernel_rfl
def zP:aw:=⟨11,[.t 2],Zr (Zo (.box 1 2 30 (.t 0))<|
 Zc 2 0 .nil)<| .seq (.block 0<|Zr (Zf 4 1 1<|
 Zl 5 1 4<|
 Zq 6 false 187 [.t 5]<|
 Zk 7 .eql 6 0<|
 Zm 3 7 .nil)<| .cond (.t 3) (Zr (Zc 2 0 .nil) .ret) (Zr (Zf 9 0 1<|
 Zl 10 1 9<|
 Zm 8 10 .nil)<| .cond (.t 8) (Zr (Zc 2 (-1) .nil) .ret) .skip))<|Zr (Zc 2 1 .nil) .ret⟩
theorem R1:Qe Tryz.prog Tryz.f171=some zP:=by kernel_rfl
def zQ:aw:=⟨40,[.cell 4 2 true],Zr (Zo (.box 2 2 30 (.t 0))<|
 Zo (.box 3 2 30 (.t 1))<|
 Zo (.alloc 4 2 30 (.agg [.bool false,.aa])) .nil)<| .seq (Zr (Zf 7 0 2<|
 Zl 8 1 7<|
 Zf 9 0 3<|
 Zl 10 1 9<|
 Zo (.bin 11 .eql true (.t 8) (.t 10)) .nil)<| .cond (.t 11) (Zr (Zf 12 0 2<|
 Zl 13 1 12<|
 Zf 14 1 2<|
 Zl 15 1 14<|
 Zf 16 1 3<|
 Zl 17 1 16<|
 Zq 18 true 197 [.t 15,.t 17]<|
 Zq 19 true 155 [.t 13,.t 18]<|
 Zs 2 4 19 .nil) .ret) .skip)<| .seq (Zr (Zf 20 1 2<|
 Zl 21 1 20<|
 Zf 22 1 3<|
 Zl 23 1 22<|
 Zq 24 false 163 [.t 21,.t 23]<|
 Zk 25 .lss 24 0 .nil)<| .cond (.t 25) (.rg (Zh 26 2 3<|
 Zh 27 2 2<|
 Zs 2 2 26<|
 Zs 2 3 27 .nil)) .skip)<|Zr (Zf 29 1 2<|
 Zl 30 1 29<|
 Zf 31 1 3<|
 Zl 32 1 31<|
 Zq 33 false 198 [.t 30,.t 32]<|
 Zm 28 33<|
 Zo (.ext 34 (.t 28) 0)<|
 Zo (.ext 35 (.t 28) 1)<|
 Zm 5 34<|
 Zm 6 35 .nil)<|Zr (Zf 36 0 2<|
 Zl 37 1 36<|
 Zm 38 5<|
 Zq 39 false 155 [.t 37,.t 38]<|
 Zs 2 4 39 .nil) .ret⟩
theorem R2:Qe Tryz.prog Tryz.f195=some zQ:=by kernel_rfl
def zR:aw:=⟨16,[.cell 4 2 true],Zr (Zo (.box 2 2 30 (.t 0))<|
 Zo (.box 3 2 30 (.t 1))<|
 Zo (.alloc 4 2 30 (.agg [.bool false,.aa])) .nil)<|Zr (Zf 5 0 2<|
 Zl 6 1 5<|
 Zf 7 0 3<|
 Zl 8 1 7<|
 Zo (.bin 9 .neq true (.t 6) (.t 8))<|
 Zf 10 1 2<|
 Zl 11 1 10<|
 Zf 12 1 3<|
 Zl 13 1 12<|
 Zq 14 true 183 [.t 11,.t 13]<|
 Zq 15 true 155 [.t 9,.t 14]<|
 Zs 2 4 15 .nil) .ret⟩
theorem R3:Qe Tryz.prog Tryz.f182=some zR:=by kernel_rfl
def zS:aw:=⟨17,[.t 2],Zr (Zo (.mv 2 (.c (.bool false))) .nil)<|Zr (Zm 4 0<|
 Zn 5 4<|
 Zo (.cc 6 [Zz 0,.int .u16 0] [(0,1,.t 5)])<|
 Zo (.alloc 3 2 185 (.agg [Zz 0,.int .u16 0]))<|
 Zs 2 3 6 .nil)<| .seq (Zr (Zm 7 0<|
 Zn 8 7<|
 Zk 9 .gtr 8 0 .nil)<| .cond (.t 9) (.rg (Zm 10 0<|
 Zo (.idx 11 1 (.t 10) (.c (Zz 0)))<|
 Zl 12 1 11<|
 Zf 13 1 3<|
 Zs 1 13 12 .nil)) .skip)<|Zr (Zh 14 2 3<|
 Zo (.cc 15 [Zz 0,.int .u16 0] [(0,1,.c (Zz 1)),(1,1,.c (.int .u16 1))])<|
 Zo (.eqs 16 false (.t 14) (.t 15))<|
 Zm 2 16 .nil) .ret⟩
theorem R4:Qe Tryz.prog Tryz.f112=some zS:=by kernel_rfl
def zT:aw:=⟨2,[.t 0],Zr (Zo (.mv 0 (.c .aa)) .nil)<|Zr (Zo (.bs 1 1 152 [.c (.int .u16 1)])<|
 Zm 0 1 .nil) .ret⟩
theorem R5:Qe Tryz.prog Tryz.f119=some zT:=by kernel_rfl
def zU:aw:=⟨52,[.cell 4 3 true],Zr (Zo (.box 2 2 30 (.t 0))<|
 Zo (.alloc 4 3 32 (.agg [.bool false,.aa,.aa])) .nil)<|Zr (Zm 6 1<|
 Zq 7 false 148 [.t 6]<|
 Zm 1 7 .nil)<|Zr (Zh 8 2 2<|
 Zq 9 false 194 [.t 8]<|
 Zs 2 2 9 .nil)<| .seq (Zr (Zm 10 1<|
 Zn 11 10<|
 Zk 12 .eql 11 0<|
 Zm 13 12<|
 Zg 13 false (.bw 14 1 (.t 2))<|
 Zg 13 false (.ld 15 1 false (.t 14))<|
 Zg 13 false (.len 16 (.t 15))<|
 Zg 13 false (.bin 17 .eql false (.t 16) (.c (Zz 0)))<|
 Zo (.pick 18 (.t 13) (.c (.bool true)) (.t 17)) .nil)<| .cond (.t 18) (Zr (Zq 19 false 119 []<|
 Zo (.cc 20 [.bool false,.aa,.aa] [(2,1,.t 19)])<|
 Zs 3 4 20 .nil) .ret) .skip)<| .seq (Zr (Zm 21 1<|
 Zq 22 false 112 [.t 21] .nil)<| .cond (.t 22) (Zr (Zh 23 2 2<|
 Zm 24 1<|
 Zo (.cc 25 [.bool false,.aa,.aa] [(0,2,.t 23),(2,1,.t 24)])<|
 Zs 3 4 25 .nil) .ret) .skip)<|Zr (Zf 26 1 2<|
 Zl 27 1 26<|
 Zm 28 1<|
 Zq 29 false 113 [.t 27,.t 28]<|
 Zm 5 29 .nil)<| .seq (Zr (Zm 30 5<|
 Zq 31 false 112 [.t 30]<|
 Zu 32 31 .nil)<| .cond (.t 32) (Zr (Zf 34 1 2<|
 Zl 35 1 34<|
 Zm 36 5<|
 Zq 37 false 151 [.t 35,.t 36]<|
 Zm 33 37<|
 Zo (.ext 38 (.t 33) 0)<|
 Zo (.ext 39 (.t 33) 1)<|
 Zo (.ext 40 (.t 33) 2)<|
 Zf 41 1 2<|
 Zs 1 41 38 .nil)<| .rg (Zm 43 1<|
 Zm 44 5<|
 Zq 45 false 151 [.t 43,.t 44]<|
 Zm 42 45<|
 Zo (.ext 46 (.t 42) 0)<|
 Zo (.ext 47 (.t 42) 1)<|
 Zo (.ext 48 (.t 42) 2)<|
 Zm 1 46 .nil)) .skip)<|Zr (Zh 49 2 2<|
 Zm 50 1<|
 Zo (.cc 51 [.bool false,.aa,.aa] [(0,2,.t 49),(2,1,.t 50)])<|
 Zs 3 4 51 .nil) .ret⟩
theorem R6:Qe Tryz.prog Tryz.f181=some zU:=by kernel_rfl
def zV:aw:=⟨14,[.cell 2 2 true,.t 3],Zr (Zo (.box 1 3 32 (.t 0))<|
 Zo (.alloc 2 2 30 (.agg [.bool false,.aa]))<|
 Zo (.mv 3 (.c .aa)) .nil)<| .seq (Zr (Zf 4 2 1<|
 Zl 5 1 4<|
 Zq 6 false 187 [.t 5]<|
 Zk 7 .eql 6 0 .nil)<| .cond (.t 7) (Zr (Zo (.cc 8 [.bool false,.aa] [])<|
 Zq 9 false 119 []<|
 Zs 2 2 8<|
 Zm 3 9 .nil) .ret) .skip)<|Zr (Zf 10 0 1<|
 Zh 11 2 10<|
 Zf 12 2 1<|
 .br (Zl 13 1 12<|
 Zs 2 2 11<|
 Zm 3 13 .nil) (Zs 2 2 11<|
 Zl 13 1 12<|
 Zm 3 13 .nil)) .ret⟩
theorem R7:Qe Tryz.prog Tryz.f170=some zV:=by kernel_rfl
def zW:aw:=⟨5,[.cell 2 2 true],Zr (Zo (.alloc 2 2 30 (.agg [.bool false,.aa])) .nil)<|Zr (Zm 3 0<|
 Zo (.cc 4 [.bool false,.aa] [(1,1,.t 3)])<|
 Zs 2 2 4 .nil) .ret⟩
theorem R8:Qe Tryz.prog Tryz.f191=some zW:=by kernel_rfl
def Dk:aw:=⟨36,[.t 2],Zr (Zo (.box 1 3 32 (.t 0))<|
 Zo (.mv 2 (.c (.bool false))) .nil)<|Zr (Zf 4 2 1<|
 Zl 5 1 4<|
 Zn 6 5<|
 Zm 3 6 .nil)<| .seq (Zr (Zf 7 0 1<|
 Zh 8 2 7<|
 Zq 9 false 111 [.t 8]<|
 Zu 10 9<|
 Zm 11 10<|
 Zg 11 false (.mv 12 (.t 3))<|
 Zg 11 false (.bin 13 .eql false (.t 12) (.c (Zz 0)))<|
 Zo (.pick 14 (.t 11) (.c (.bool true)) (.t 13))<|
 Zm 15 14<|
 Zg 15 false (.bw 16 2 (.t 1))<|
 Zg 15 false (.ld 17 1 false (.t 16))<|
 Zg 15 false (.mv 18 (.t 3))<|
 Zg 15 false (.bin 19 .sub false (.t 18) (.c (Zz 1)))<|
 Zg 15 false (.idx 20 1 (.t 17) (.t 19))<|
 Zg 15 false (.ld 21 1 false (.t 20))<|
 Zg 15 false (.bin 22 .eql false (.t 21) (.c (.int .u16 0)))<|
 Zo (.pick 23 (.t 15) (.c (.bool true)) (.t 22)) .nil)<| .cond (.t 23) (Zr (Zo (.mv 2 (.c (.bool false))) .nil) .ret) .skip)<|Zr (Zf 24 2 1<|
 Zl 25 1 24<|
 Zq 26 false 112 [.t 25]<|
 Zm 27 26<|
 Zg 27 false (.bw 28 0 (.t 1))<|
 Zg 27 false (.bw 29 1 (.t 28))<|
 Zg 27 false (.ld 30 1 false (.t 29))<|
 Zg 27 false (.bw 31 2 (.t 1))<|
 Zg 27 false (.ld 32 1 false (.t 31))<|
 Zg 27 false (.call (some 33) false (.c (.fn 113 [] [])) [.t 30,.t 32])<|
 Zg 27 false (.call (some 34) false (.c (.fn 112 [] [])) [.t 33])<|
 Zo (.pick 35 (.t 27) (.c (.bool true)) (.t 34))<|
 Zm 2 35 .nil) .ret⟩
theorem UD:Qe Tryz.prog Tryz.f60=some Dk:=by kernel_rfl
def Dq:aw:=⟨7,[.cell 2 3 true],Zr (Zo (.alloc 2 3 32 (.agg [.bool false,.aa,.aa])) .nil)<|Zr (Zm 3 0<|
 Zq 4 false 118 [.t 3]<|
 Zq 5 false 119 []<|
 Zo (.cc 6 [.bool false,.aa,.aa] [(0,2,.t 4),(2,1,.t 5)])<|
 Zs 3 2 6 .nil) .ret⟩
theorem UE:Qe Tryz.prog Tryz.f65=some Dq:=by kernel_rfl
def zX:aw:=⟨12,[.t 2],Zr (Zo (.box 1 3 32 (.t 0))<|
 Zc 2 0 .nil)<|Zr (Zh 6 3 1<|
 Zq 7 false 170 [.t 6]<|
 Zm 5 7<|
 Zo (.ext 8 (.t 5) 0)<|
 Zo (.ext 9 (.t 5) 1)<|
 Zo (.alloc 3 2 30 (.agg [.bool false,.aa]))<|
 Zs 2 3 8<|
 Zm 4 9 .nil)<|Zr (Zh 10 2 3<|
 Zq 11 false 171 [.t 10]<|
 Zm 2 11 .nil) .ret⟩
theorem R9:Qe Tryz.prog Tryz.f154=some zX:=by kernel_rfl
def zY:aw:=⟨17,[.cell 2 2 true],Zr (Zo (.alloc 2 2 30 (.agg [.bool false,.aa])) .nil)<|Zr (Zo (.alloc 3 2 30 (.agg [.bool false,.aa])) .nil)<| .seq (Zr (Zm 6 0<|
 Zn 7 6<|
 Zc 8 0 .nil)<| .block 0<| .loop<|Zr (Zb 9 .lss 8 7 .nil)<| .seq (.cond (.t 9) .skip (.exit 0))<| .seq (.block 1<|Zr (Zi 10 2 6 8<|
 Zh 11 2 10<|
 Zo (.alloc 5 2 30 (.agg [.bool false,.aa]))<|
 Zs 2 5 11 .nil)<| .rg (Zh 12 2 3<|
 Zh 13 2 5<|
 Zq 14 false 195 [.t 12,.t 13]<|
 Zs 2 3 14 .nil))<| .rg (Zk 15 .add 8 1<|
 Zm 8 15 .nil))<|Zr (Zh 16 2 3<|
 Zs 2 2 16 .nil) .ret⟩
theorem Sa:Qe Tryz.prog Tryz.f190=some zY:=by kernel_rfl
def zZ:aw:=⟨45,[.cell 4 3 true],Zr (Zo (.box 2 3 32 (.t 0))<|
 Zo (.box 3 3 32 (.t 1))<|
 Zo (.alloc 4 3 32 (.agg [.bool false,.aa,.aa])) .nil)<|Zr (Zh 10 3 2<|
 Zq 11 false 170 [.t 10]<|
 Zm 9 11<|
 Zo (.ext 12 (.t 9) 0)<|
 Zo (.ext 13 (.t 9) 1)<|
 Zo (.alloc 5 2 30 (.agg [.bool false,.aa]))<|
 Zs 2 5 12<|
 Zm 6 13 .nil)<|Zr (Zh 15 3 3<|
 Zq 16 false 170 [.t 15]<|
 Zm 14 16<|
 Zo (.ext 17 (.t 14) 0)<|
 Zo (.ext 18 (.t 14) 1)<|
 Zo (.alloc 7 2 30 (.agg [.bool false,.aa]))<|
 Zs 2 7 17<|
 Zm 8 18 .nil)<| .seq (Zr (Zm 19 6<|
 Zq 20 false 112 [.t 19]<|
 Zm 21 20<|
 Zg 21 true (.mv 22 (.t 8))<|
 Zg 21 true (.call (some 23) false (.c (.fn 112 [] [])) [.t 22])<|
 Zo (.pick 24 (.t 21) (.t 23) (.c (.bool false))) .nil)<| .cond (.t 24) (Zr (Zh 25 2 5<|
 Zh 26 2 7<|
 Zo (.bs 27 2 30 [.t 25,.t 26])<|
 Zq 28 false 190 [.t 27]<|
 Zm 29 6<|
 Zq 30 false 181 [.t 28,.t 29]<|
 Zs 3 4 30 .nil) .ret) .skip)<|Zr (Zh 31 2 5<|
 Zm 32 8<|
 Zh 35 2 7<|
 Zm 36 6<|
 Zm 41 6<|
 Zm 42 8<|
 Zq 33 true 191 [.t 32]<|
 Zq 34 true 182 [.t 31,.t 33]<|
 Zq 37 true 191 [.t 36]<|
 Zq 38 true 182 [.t 35,.t 37]<|
 Zo (.bs 39 2 30 [.t 34,.t 38])<|
 Zq 40 true 190 [.t 39]<|
 Zq 43 true 183 [.t 41,.t 42]<|
 Zq 44 true 181 [.t 40,.t 43]<|
 Zs 3 4 44 .nil) .ret⟩
theorem Sb:Qe Tryz.prog Tryz.f173=some zZ:=by kernel_rfl
def z0:aw:=⟨26,[.cell 4 3 true],Zr (Zo (.box 2 3 32 (.t 0))<|
 Zo (.box 3 3 32 (.t 1))<|
 Zo (.alloc 4 3 32 (.agg [.bool false,.aa,.aa])) .nil)<|Zr (Zh 10 3 2<|
 Zq 11 false 170 [.t 10]<|
 Zm 9 11<|
 Zo (.ext 12 (.t 9) 0)<|
 Zo (.ext 13 (.t 9) 1)<|
 Zo (.alloc 5 2 30 (.agg [.bool false,.aa]))<|
 Zs 2 5 12<|
 Zm 6 13 .nil)<|Zr (Zh 15 3 3<|
 Zq 16 false 170 [.t 15]<|
 Zm 14 16<|
 Zo (.ext 17 (.t 14) 0)<|
 Zo (.ext 18 (.t 14) 1)<|
 Zo (.alloc 7 2 30 (.agg [.bool false,.aa]))<|
 Zs 2 7 17<|
 Zm 8 18 .nil)<|Zr (Zh 19 2 5<|
 Zh 20 2 7<|
 Zq 21 false 182 [.t 19,.t 20]<|
 Zm 22 6<|
 Zm 23 8<|
 Zq 24 false 183 [.t 22,.t 23]<|
 Zq 25 false 181 [.t 21,.t 24]<|
 Zs 3 4 25 .nil) .ret⟩
theorem Sc:Qe Tryz.prog Tryz.f168=some z0:=by kernel_rfl
def z3:aw:=⟨108,[.t 4],Zr (Zo (.box 2 1 28 (.t 0))<|
 Zo (.box 3 1 28 (.t 1))<|
 Zo (.mv 4 (.c .aa)) .nil)<|Zr (Zl 12 1 3<|
 Zn 13 12<|
 Zo (.alloc 5 1 3 (Zz 0))<|
 Zs 1 5 13 .nil)<|Zr (Zl 14 1 2<|
 Zn 15 14<|
 Zl 16 1 5<|
 Zb 17 .sub 15 16<|
 Zo (.mk 18 1 2 152 (.int .u16 0) (.t 17) (.t 17))<|
 Zm 6 18 .nil)<| .seq (Zr (Zl 19 1 2<|
 Zn 20 19<|
 Zl 21 1 5<|
 Zb 22 .sub 20 21<|
 Zk 23 .sub 22 1<|
 Zo (.alloc 7 1 3 (Zz 0))<|
 Zs 1 7 23 .nil)<| .block 0<| .loop<| .seq (Zr (Zl 24 1 7<|
 Zk 25 .geq 24 0 .nil)<| .cond (.t 25) .skip (.exit 0))<| .seq (.block 1<|Zr (Zl 28 1 2<|
 Zl 29 1 7<|
 Zl 30 1 5<|
 Zb 31 .add 29 30<|
 Zi 32 1 28 31<|
 Zl 33 1 32<|
 Zo (.conv 34 .u64 (.t 33))<|
 Zo (.bin 35 .shl false (.t 34) (.c (.int .u64 16)))<|
 Zl 36 1 2<|
 Zl 37 1 7<|
 Zl 38 1 5<|
 Zb 39 .add 37 38<|
 Zk 40 .sub 39 1<|
 Zi 41 1 36 40<|
 Zl 42 1 41<|
 Zo (.conv 43 .u64 (.t 42))<|
 Zb 44 .or 35 43<|
 Zm 8 44 .nil)<|Zr (Zm 45 8<|
 Zl 46 1 3<|
 Zl 47 1 5<|
 Zk 48 .sub 47 1<|
 Zi 49 1 46 48<|
 Zl 50 1 49<|
 Zo (.conv 51 .u64 (.t 50))<|
 Zb 52 .quo 45 51<|
 Zm 53 8<|
 .br (Zl 54 1 3<|
 .br (Zl 55 1 5<|
 Zk 56 .sub 55 1<|
 Zi 57 1 54 56<|
 .br (Zl 58 1 57<|
 Zo (.conv 59 .u64 (.t 58))<|
 Zb 60 .rem 53 59<|
 .br (Zo (.alloc 9 1 115 (.int .u64 0))<|
 Zo (.alloc 10 1 115 (.int .u64 0))<|
 Zs 1 9 52<|
 Zs 1 10 60 .nil) (Zo (.alloc 10 1 115 (.int .u64 0))<|
 Zo (.alloc 9 1 115 (.int .u64 0))<|
 Zs 1 9 52<|
 Zs 1 10 60 .nil)) (.br (Zo (.alloc 9 1 115 (.int .u64 0))<|
 .br (Zl 58 1 57<|
 Zo (.conv 59 .u64 (.t 58))<|
 Zb 60 .rem 53 59<|
 Zo (.alloc 10 1 115 (.int .u64 0))<|
 Zs 1 9 52<|
 Zs 1 10 60 .nil) (Zo (.alloc 10 1 115 (.int .u64 0))<|
 .br (Zl 58 1 57<|
 Zo (.conv 59 .u64 (.t 58))<|
 Zb 60 .rem 53 59<|
 Zs 1 9 52<|
 Zs 1 10 60 .nil) (Zs 1 9 52<|
 Zl 58 1 57<|
 Zo (.conv 59 .u64 (.t 58))<|
 Zb 60 .rem 53 59<|
 Zs 1 10 60 .nil))) (Zo (.alloc 10 1 115 (.int .u64 0))<|
 .br (Zl 58 1 57<|
 Zo (.conv 59 .u64 (.t 58))<|
 Zb 60 .rem 53 59<|
 Zo (.alloc 9 1 115 (.int .u64 0))<|
 Zs 1 9 52<|
 Zs 1 10 60 .nil) (Zo (.alloc 9 1 115 (.int .u64 0))<|
 .br (Zl 58 1 57<|
 Zo (.conv 59 .u64 (.t 58))<|
 Zb 60 .rem 53 59<|
 Zs 1 9 52<|
 Zs 1 10 60 .nil) (Zs 1 9 52<|
 Zl 58 1 57<|
 Zo (.conv 59 .u64 (.t 58))<|
 Zb 60 .rem 53 59<|
 Zs 1 10 60 .nil))))) (.br (Zo (.alloc 9 1 115 (.int .u64 0))<|
 .br (Zl 55 1 5<|
 Zk 56 .sub 55 1<|
 Zi 57 1 54 56<|
 .br (Zl 58 1 57<|
 Zo (.conv 59 .u64 (.t 58))<|
 Zb 60 .rem 53 59<|
 Zo (.alloc 10 1 115 (.int .u64 0))<|
 Zs 1 9 52<|
 Zs 1 10 60 .nil) (Zo (.alloc 10 1 115 (.int .u64 0))<|
 .br (Zl 58 1 57<|
 Zo (.conv 59 .u64 (.t 58))<|
 Zb 60 .rem 53 59<|
 Zs 1 9 52<|
 Zs 1 10 60 .nil) (Zs 1 9 52<|
 Zl 58 1 57<|
 Zo (.conv 59 .u64 (.t 58))<|
 Zb 60 .rem 53 59<|
 Zs 1 10 60 .nil))) (Zo (.alloc 10 1 115 (.int .u64 0))<|
 .br (Zl 55 1 5<|
 Zk 56 .sub 55 1<|
 Zi 57 1 54 56<|
 .br (Zl 58 1 57<|
 Zo (.conv 59 .u64 (.t 58))<|
 Zb 60 .rem 53 59<|
 Zs 1 9 52<|
 Zs 1 10 60 .nil) (Zs 1 9 52<|
 Zl 58 1 57<|
 Zo (.conv 59 .u64 (.t 58))<|
 Zb 60 .rem 53 59<|
 Zs 1 10 60 .nil)) (Zs 1 9 52<|
 Zl 55 1 5<|
 Zk 56 .sub 55 1<|
 Zi 57 1 54 56<|
 Zl 58 1 57<|
 Zo (.conv 59 .u64 (.t 58))<|
 Zb 60 .rem 53 59<|
 Zs 1 10 60 .nil))) (Zo (.alloc 10 1 115 (.int .u64 0))<|
 .br (Zl 55 1 5<|
 Zk 56 .sub 55 1<|
 Zi 57 1 54 56<|
 .br (Zl 58 1 57<|
 Zo (.conv 59 .u64 (.t 58))<|
 Zb 60 .rem 53 59<|
 Zo (.alloc 9 1 115 (.int .u64 0))<|
 Zs 1 9 52<|
 Zs 1 10 60 .nil) (Zo (.alloc 9 1 115 (.int .u64 0))<|
 .br (Zl 58 1 57<|
 Zo (.conv 59 .u64 (.t 58))<|
 Zb 60 .rem 53 59<|
 Zs 1 9 52<|
 Zs 1 10 60 .nil) (Zs 1 9 52<|
 Zl 58 1 57<|
 Zo (.conv 59 .u64 (.t 58))<|
 Zb 60 .rem 53 59<|
 Zs 1 10 60 .nil))) (Zo (.alloc 9 1 115 (.int .u64 0))<|
 .br (Zl 55 1 5<|
 Zk 56 .sub 55 1<|
 Zi 57 1 54 56<|
 .br (Zl 58 1 57<|
 Zo (.conv 59 .u64 (.t 58))<|
 Zb 60 .rem 53 59<|
 Zs 1 9 52<|
 Zs 1 10 60 .nil) (Zs 1 9 52<|
 Zl 58 1 57<|
 Zo (.conv 59 .u64 (.t 58))<|
 Zb 60 .rem 53 59<|
 Zs 1 10 60 .nil)) (Zs 1 9 52<|
 Zl 55 1 5<|
 Zk 56 .sub 55 1<|
 Zi 57 1 54 56<|
 Zl 58 1 57<|
 Zo (.conv 59 .u64 (.t 58))<|
 Zb 60 .rem 53 59<|
 Zs 1 10 60 .nil))))) (.br (Zl 55 1 5<|
 Zk 56 .sub 55 1<|
 .br (Zl 54 1 3<|
 Zi 57 1 54 56<|
 .br (Zl 58 1 57<|
 Zo (.conv 59 .u64 (.t 58))<|
 Zb 60 .rem 53 59<|
 .br (Zo (.alloc 9 1 115 (.int .u64 0))<|
 Zo (.alloc 10 1 115 (.int .u64 0))<|
 Zs 1 9 52<|
 Zs 1 10 60 .nil) (Zo (.alloc 10 1 115 (.int .u64 0))<|
 Zo (.alloc 9 1 115 (.int .u64 0))<|
 Zs 1 9 52<|
 Zs 1 10 60 .nil)) (.br (Zo (.alloc 9 1 115 (.int .u64 0))<|
 .br (Zl 58 1 57<|
 Zo (.conv 59 .u64 (.t 58))<|
 Zb 60 .rem 53 59<|
 Zo (.alloc 10 1 115 (.int .u64 0))<|
 Zs 1 9 52<|
 Zs 1 10 60 .nil) (Zo (.alloc 10 1 115 (.int .u64 0))<|
 .br (Zl 58 1 57<|
 Zo (.conv 59 .u64 (.t 58))<|
 Zb 60 .rem 53 59<|
 Zs 1 9 52<|
 Zs 1 10 60 .nil) (Zs 1 9 52<|
 Zl 58 1 57<|
 Zo (.conv 59 .u64 (.t 58))<|
 Zb 60 .rem 53 59<|
 Zs 1 10 60 .nil))) (Zo (.alloc 10 1 115 (.int .u64 0))<|
 .br (Zl 58 1 57<|
 Zo (.conv 59 .u64 (.t 58))<|
 Zb 60 .rem 53 59<|
 Zo (.alloc 9 1 115 (.int .u64 0))<|
 Zs 1 9 52<|
 Zs 1 10 60 .nil) (Zo (.alloc 9 1 115 (.int .u64 0))<|
 .br (Zl 58 1 57<|
 Zo (.conv 59 .u64 (.t 58))<|
 Zb 60 .rem 53 59<|
 Zs 1 9 52<|
 Zs 1 10 60 .nil) (Zs 1 9 52<|
 Zl 58 1 57<|
 Zo (.conv 59 .u64 (.t 58))<|
 Zb 60 .rem 53 59<|
 Zs 1 10 60 .nil))))) (.br (Zo (.alloc 9 1 115 (.int .u64 0))<|
 .br (Zl 54 1 3<|
 Zi 57 1 54 56<|
 .br (Zl 58 1 57<|
 Zo (.conv 59 .u64 (.t 58))<|
 Zb 60 .rem 53 59<|
 Zo (.alloc 10 1 115 (.int .u64 0))<|
 Zs 1 9 52<|
 Zs 1 10 60 .nil) (Zo (.alloc 10 1 115 (.int .u64 0))<|
 .br (Zl 58 1 57<|
 Zo (.conv 59 .u64 (.t 58))<|
 Zb 60 .rem 53 59<|
 Zs 1 9 52<|
 Zs 1 10 60 .nil) (Zs 1 9 52<|
 Zl 58 1 57<|
 Zo (.conv 59 .u64 (.t 58))<|
 Zb 60 .rem 53 59<|
 Zs 1 10 60 .nil))) (Zo (.alloc 10 1 115 (.int .u64 0))<|
 .br (Zl 54 1 3<|
 Zi 57 1 54 56<|
 .br (Zl 58 1 57<|
 Zo (.conv 59 .u64 (.t 58))<|
 Zb 60 .rem 53 59<|
 Zs 1 9 52<|
 Zs 1 10 60 .nil) (Zs 1 9 52<|
 Zl 58 1 57<|
 Zo (.conv 59 .u64 (.t 58))<|
 Zb 60 .rem 53 59<|
 Zs 1 10 60 .nil)) (Zs 1 9 52<|
 Zl 54 1 3<|
 Zi 57 1 54 56<|
 Zl 58 1 57<|
 Zo (.conv 59 .u64 (.t 58))<|
 Zb 60 .rem 53 59<|
 Zs 1 10 60 .nil))) (Zo (.alloc 10 1 115 (.int .u64 0))<|
 .br (Zl 54 1 3<|
 Zi 57 1 54 56<|
 .br (Zl 58 1 57<|
 Zo (.conv 59 .u64 (.t 58))<|
 Zb 60 .rem 53 59<|
 Zo (.alloc 9 1 115 (.int .u64 0))<|
 Zs 1 9 52<|
 Zs 1 10 60 .nil) (Zo (.alloc 9 1 115 (.int .u64 0))<|
 .br (Zl 58 1 57<|
 Zo (.conv 59 .u64 (.t 58))<|
 Zb 60 .rem 53 59<|
 Zs 1 9 52<|
 Zs 1 10 60 .nil) (Zs 1 9 52<|
 Zl 58 1 57<|
 Zo (.conv 59 .u64 (.t 58))<|
 Zb 60 .rem 53 59<|
 Zs 1 10 60 .nil))) (Zo (.alloc 9 1 115 (.int .u64 0))<|
 .br (Zl 54 1 3<|
 Zi 57 1 54 56<|
 .br (Zl 58 1 57<|
 Zo (.conv 59 .u64 (.t 58))<|
 Zb 60 .rem 53 59<|
 Zs 1 9 52<|
 Zs 1 10 60 .nil) (Zs 1 9 52<|
 Zl 58 1 57<|
 Zo (.conv 59 .u64 (.t 58))<|
 Zb 60 .rem 53 59<|
 Zs 1 10 60 .nil)) (Zs 1 9 52<|
 Zl 54 1 3<|
 Zi 57 1 54 56<|
 Zl 58 1 57<|
 Zo (.conv 59 .u64 (.t 58))<|
 Zb 60 .rem 53 59<|
 Zs 1 10 60 .nil))))) (.br (Zo (.alloc 9 1 115 (.int .u64 0))<|
 .br (Zl 54 1 3<|
 .br (Zl 55 1 5<|
 Zk 56 .sub 55 1<|
 Zi 57 1 54 56<|
 .br (Zl 58 1 57<|
 Zo (.conv 59 .u64 (.t 58))<|
 Zb 60 .rem 53 59<|
 Zo (.alloc 10 1 115 (.int .u64 0))<|
 Zs 1 9 52<|
 Zs 1 10 60 .nil) (Zo (.alloc 10 1 115 (.int .u64 0))<|
 .br (Zl 58 1 57<|
 Zo (.conv 59 .u64 (.t 58))<|
 Zb 60 .rem 53 59<|
 Zs 1 9 52<|
 Zs 1 10 60 .nil) (Zs 1 9 52<|
 Zl 58 1 57<|
 Zo (.conv 59 .u64 (.t 58))<|
 Zb 60 .rem 53 59<|
 Zs 1 10 60 .nil))) (Zo (.alloc 10 1 115 (.int .u64 0))<|
 .br (Zl 55 1 5<|
 Zk 56 .sub 55 1<|
 Zi 57 1 54 56<|
 .br (Zl 58 1 57<|
 Zo (.conv 59 .u64 (.t 58))<|
 Zb 60 .rem 53 59<|
 Zs 1 9 52<|
 Zs 1 10 60 .nil) (Zs 1 9 52<|
 Zl 58 1 57<|
 Zo (.conv 59 .u64 (.t 58))<|
 Zb 60 .rem 53 59<|
 Zs 1 10 60 .nil)) (Zs 1 9 52<|
 Zl 55 1 5<|
 Zk 56 .sub 55 1<|
 Zi 57 1 54 56<|
 Zl 58 1 57<|
 Zo (.conv 59 .u64 (.t 58))<|
 Zb 60 .rem 53 59<|
 Zs 1 10 60 .nil))) (.br (Zl 55 1 5<|
 Zk 56 .sub 55 1<|
 .br (Zl 54 1 3<|
 Zi 57 1 54 56<|
 .br (Zl 58 1 57<|
 Zo (.conv 59 .u64 (.t 58))<|
 Zb 60 .rem 53 59<|
 Zo (.alloc 10 1 115 (.int .u64 0))<|
 Zs 1 9 52<|
 Zs 1 10 60 .nil) (Zo (.alloc 10 1 115 (.int .u64 0))<|
 .br (Zl 58 1 57<|
 Zo (.conv 59 .u64 (.t 58))<|
 Zb 60 .rem 53 59<|
 Zs 1 9 52<|
 Zs 1 10 60 .nil) (Zs 1 9 52<|
 Zl 58 1 57<|
 Zo (.conv 59 .u64 (.t 58))<|
 Zb 60 .rem 53 59<|
 Zs 1 10 60 .nil))) (Zo (.alloc 10 1 115 (.int .u64 0))<|
 .br (Zl 54 1 3<|
 Zi 57 1 54 56<|
 .br (Zl 58 1 57<|
 Zo (.conv 59 .u64 (.t 58))<|
 Zb 60 .rem 53 59<|
 Zs 1 9 52<|
 Zs 1 10 60 .nil) (Zs 1 9 52<|
 Zl 58 1 57<|
 Zo (.conv 59 .u64 (.t 58))<|
 Zb 60 .rem 53 59<|
 Zs 1 10 60 .nil)) (Zs 1 9 52<|
 Zl 54 1 3<|
 Zi 57 1 54 56<|
 Zl 58 1 57<|
 Zo (.conv 59 .u64 (.t 58))<|
 Zb 60 .rem 53 59<|
 Zs 1 10 60 .nil))) (Zo (.alloc 10 1 115 (.int .u64 0))<|
 .br (Zl 54 1 3<|
 .br (Zl 55 1 5<|
 Zk 56 .sub 55 1<|
 Zi 57 1 54 56<|
 .br (Zl 58 1 57<|
 Zo (.conv 59 .u64 (.t 58))<|
 Zb 60 .rem 53 59<|
 Zs 1 9 52<|
 Zs 1 10 60 .nil) (Zs 1 9 52<|
 Zl 58 1 57<|
 Zo (.conv 59 .u64 (.t 58))<|
 Zb 60 .rem 53 59<|
 Zs 1 10 60 .nil)) (Zs 1 9 52<|
 Zl 55 1 5<|
 Zk 56 .sub 55 1<|
 Zi 57 1 54 56<|
 Zl 58 1 57<|
 Zo (.conv 59 .u64 (.t 58))<|
 Zb 60 .rem 53 59<|
 Zs 1 10 60 .nil)) (.br (Zl 55 1 5<|
 Zk 56 .sub 55 1<|
 .br (Zl 54 1 3<|
 Zi 57 1 54 56<|
 .br (Zl 58 1 57<|
 Zo (.conv 59 .u64 (.t 58))<|
 Zb 60 .rem 53 59<|
 Zs 1 9 52<|
 Zs 1 10 60 .nil) (Zs 1 9 52<|
 Zl 58 1 57<|
 Zo (.conv 59 .u64 (.t 58))<|
 Zb 60 .rem 53 59<|
 Zs 1 10 60 .nil)) (Zs 1 9 52<|
 Zl 54 1 3<|
 Zi 57 1 54 56<|
 Zl 58 1 57<|
 Zo (.conv 59 .u64 (.t 58))<|
 Zb 60 .rem 53 59<|
 Zs 1 10 60 .nil)) (Zs 1 9 52<|
 .br (Zl 54 1 3<|
 Zl 55 1 5<|
 Zk 56 .sub 55 1<|
 Zi 57 1 54 56<|
 Zl 58 1 57<|
 Zo (.conv 59 .u64 (.t 58))<|
 Zb 60 .rem 53 59<|
 Zs 1 10 60 .nil) (Zl 55 1 5<|
 Zk 56 .sub 55 1<|
 Zl 54 1 3<|
 Zi 57 1 54 56<|
 Zl 58 1 57<|
 Zo (.conv 59 .u64 (.t 58))<|
 Zb 60 .rem 53 59<|
 Zs 1 10 60 .nil)))))) (Zo (.alloc 10 1 115 (.int .u64 0))<|
 .br (Zl 54 1 3<|
 .br (Zl 55 1 5<|
 Zk 56 .sub 55 1<|
 Zi 57 1 54 56<|
 .br (Zl 58 1 57<|
 Zo (.conv 59 .u64 (.t 58))<|
 Zb 60 .rem 53 59<|
 Zo (.alloc 9 1 115 (.int .u64 0))<|
 Zs 1 9 52<|
 Zs 1 10 60 .nil) (Zo (.alloc 9 1 115 (.int .u64 0))<|
 .br (Zl 58 1 57<|
 Zo (.conv 59 .u64 (.t 58))<|
 Zb 60 .rem 53 59<|
 Zs 1 9 52<|
 Zs 1 10 60 .nil) (Zs 1 9 52<|
 Zl 58 1 57<|
 Zo (.conv 59 .u64 (.t 58))<|
 Zb 60 .rem 53 59<|
 Zs 1 10 60 .nil))) (Zo (.alloc 9 1 115 (.int .u64 0))<|
 .br (Zl 55 1 5<|
 Zk 56 .sub 55 1<|
 Zi 57 1 54 56<|
 .br (Zl 58 1 57<|
 Zo (.conv 59 .u64 (.t 58))<|
 Zb 60 .rem 53 59<|
 Zs 1 9 52<|
 Zs 1 10 60 .nil) (Zs 1 9 52<|
 Zl 58 1 57<|
 Zo (.conv 59 .u64 (.t 58))<|
 Zb 60 .rem 53 59<|
 Zs 1 10 60 .nil)) (Zs 1 9 52<|
 Zl 55 1 5<|
 Zk 56 .sub 55 1<|
 Zi 57 1 54 56<|
 Zl 58 1 57<|
 Zo (.conv 59 .u64 (.t 58))<|
 Zb 60 .rem 53 59<|
 Zs 1 10 60 .nil))) (.br (Zl 55 1 5<|
 Zk 56 .sub 55 1<|
 .br (Zl 54 1 3<|
 Zi 57 1 54 56<|
 .br (Zl 58 1 57<|
 Zo (.conv 59 .u64 (.t 58))<|
 Zb 60 .rem 53 59<|
 Zo (.alloc 9 1 115 (.int .u64 0))<|
 Zs 1 9 52<|
 Zs 1 10 60 .nil) (Zo (.alloc 9 1 115 (.int .u64 0))<|
 .br (Zl 58 1 57<|
 Zo (.conv 59 .u64 (.t 58))<|
 Zb 60 .rem 53 59<|
 Zs 1 9 52<|
 Zs 1 10 60 .nil) (Zs 1 9 52<|
 Zl 58 1 57<|
 Zo (.conv 59 .u64 (.t 58))<|
 Zb 60 .rem 53 59<|
 Zs 1 10 60 .nil))) (Zo (.alloc 9 1 115 (.int .u64 0))<|
 .br (Zl 54 1 3<|
 Zi 57 1 54 56<|
 .br (Zl 58 1 57<|
 Zo (.conv 59 .u64 (.t 58))<|
 Zb 60 .rem 53 59<|
 Zs 1 9 52<|
 Zs 1 10 60 .nil) (Zs 1 9 52<|
 Zl 58 1 57<|
 Zo (.conv 59 .u64 (.t 58))<|
 Zb 60 .rem 53 59<|
 Zs 1 10 60 .nil)) (Zs 1 9 52<|
 Zl 54 1 3<|
 Zi 57 1 54 56<|
 Zl 58 1 57<|
 Zo (.conv 59 .u64 (.t 58))<|
 Zb 60 .rem 53 59<|
 Zs 1 10 60 .nil))) (Zo (.alloc 9 1 115 (.int .u64 0))<|
 .br (Zl 54 1 3<|
 .br (Zl 55 1 5<|
 Zk 56 .sub 55 1<|
 Zi 57 1 54 56<|
 .br (Zl 58 1 57<|
 Zo (.conv 59 .u64 (.t 58))<|
 Zb 60 .rem 53 59<|
 Zs 1 9 52<|
 Zs 1 10 60 .nil) (Zs 1 9 52<|
 Zl 58 1 57<|
 Zo (.conv 59 .u64 (.t 58))<|
 Zb 60 .rem 53 59<|
 Zs 1 10 60 .nil)) (Zs 1 9 52<|
 Zl 55 1 5<|
 Zk 56 .sub 55 1<|
 Zi 57 1 54 56<|
 Zl 58 1 57<|
 Zo (.conv 59 .u64 (.t 58))<|
 Zb 60 .rem 53 59<|
 Zs 1 10 60 .nil)) (.br (Zl 55 1 5<|
 Zk 56 .sub 55 1<|
 .br (Zl 54 1 3<|
 Zi 57 1 54 56<|
 .br (Zl 58 1 57<|
 Zo (.conv 59 .u64 (.t 58))<|
 Zb 60 .rem 53 59<|
 Zs 1 9 52<|
 Zs 1 10 60 .nil) (Zs 1 9 52<|
 Zl 58 1 57<|
 Zo (.conv 59 .u64 (.t 58))<|
 Zb 60 .rem 53 59<|
 Zs 1 10 60 .nil)) (Zs 1 9 52<|
 Zl 54 1 3<|
 Zi 57 1 54 56<|
 Zl 58 1 57<|
 Zo (.conv 59 .u64 (.t 58))<|
 Zb 60 .rem 53 59<|
 Zs 1 10 60 .nil)) (Zs 1 9 52<|
 .br (Zl 54 1 3<|
 Zl 55 1 5<|
 Zk 56 .sub 55 1<|
 Zi 57 1 54 56<|
 Zl 58 1 57<|
 Zo (.conv 59 .u64 (.t 58))<|
 Zb 60 .rem 53 59<|
 Zs 1 10 60 .nil) (Zl 55 1 5<|
 Zk 56 .sub 55 1<|
 Zl 54 1 3<|
 Zi 57 1 54 56<|
 Zl 58 1 57<|
 Zo (.conv 59 .u64 (.t 58))<|
 Zb 60 .rem 53 59<|
 Zs 1 10 60 .nil)))))))))<|Zr (Zo (.fn 61 178 [] [.t 9,.t 3,.t 5,.t 10,.t 2,.t 7])<|
 Zm 11 61 .nil)<| .seq (.block 2<| .loop<| .seq (Zr (Zl 62 1 10<|
 Zo (.bin 63 .lss false (.t 62) (.c (.int .u64 65536)))<|
 Zm 64 63<|
 Zg 64 true (.mv 65 (.t 11))<|
 Zg 64 true (.call (some 66) false (.t 65) [])<|
 Zo (.pick 67 (.t 64) (.t 66) (.c (.bool false))) .nil)<| .cond (.t 67) .skip (.exit 2))<| .block 3<|Zr (Zl 68 1 9<|
 Zo (.bin 69 .sub false (.t 68) (.c (.int .u64 1)))<|
 Zs 1 9 69 .nil)<| .rg (Zl 70 1 10<|
 Zl 71 1 3<|
 Zl 72 1 5<|
 Zk 73 .sub 72 1<|
 Zi 74 1 71 73<|
 Zl 75 1 74<|
 Zo (.conv 76 .u64 (.t 75))<|
 Zb 77 .add 70 76<|
 Zs 1 10 77 .nil))<| .seq (Zr (Zl 78 1 2<|
 Zl 79 1 7<|
 Zl 80 1 7<|
 Zl 81 1 5<|
 Zb 82 .add 80 81<|
 Zk 83 .add 82 1<|
 Zo (.sl 84 1 (.t 78) (some (.t 79)) (some (.t 83)) none)<|
 Zl 85 1 3<|
 Zl 86 1 9<|
 Zo (.conv 87 .u32 (.t 86))<|
 Zq 88 false 179 [.t 84,.t 85,.t 87] .nil)<| .cond (.t 88) (Zr (Zl 89 1 9<|
 Zo (.bin 90 .sub false (.t 89) (.c (.int .u64 1)))<|
 Zs 1 9 90 .nil)<| .rg (Zl 91 1 2<|
 Zl 92 1 7<|
 Zl 93 1 7<|
 Zl 94 1 5<|
 Zb 95 .add 93 94<|
 Zk 96 .add 95 1<|
 Zo (.sl 97 1 (.t 91) (some (.t 92)) (some (.t 96)) none)<|
 Zl 98 1 3<|
 Zq 99 false 180 [.t 97,.t 98] .nil)) .skip)<| .rg (Zm 100 6<|
 Zl 101 1 7<|
 Zl 102 1 9<|
 Zo (.conv 103 .u16 (.t 102))<|
 Zi 104 1 100 101<|
 Zs 1 104 103 .nil))<| .seq (Zr (Zl 105 1 7 .nil)<| .rg (Zo (.alloc 7 1 3 (Zz 0))<|
 Zs 1 7 105 .nil))<| .rg (Zl 26 1 7<|
 Zk 27 .sub 26 1<|
 Zs 1 7 27 .nil))<|Zr (Zm 106 6<|
 Zq 107 false 162 [.t 106]<|
 Zm 4 107 .nil) .ret⟩
theorem Sd:Qe Tryz.prog Tryz.f167=some z3:=by kernel_rfl
theorem eU{l:List Nat}(hv:Qj l)(hl:l.length<2^42):Qd Tryz.prog 162 [PV.nat l] (· =PV.num (val l)):=by
 refine Qf Qk Tryz.func162 rfl Jw (by simp[uv]) fun C hP=>?_;simp only[uv,Zo,Zg,Zm,Zc,Zf,Zl,Zh,Zs,Zi,Zb,Zk,Zn,Zu,Zq,Zr,Zz];refine Sz0 ?_;refine mD (fun m fr hp=>m<=l.length/\cut l m=aj (val l)/\fr 0=PV.nat l/\fr 3= .int .i64 m/\hp=au) l.length ?_ ?_
 ·exact⟨Kae _,tM hv,rfl,rfl,rfl⟩
 rintro n fr _ ⟨hn,hc,h0,h3,rfl⟩;refine Sz2 h0 h3 ?_;refine ep (fun hg=>?_) (fun hg=>?_)
 ·simp+decide (disch:=first|omega|rfl|(simp+decide only[go_sem,h0,h3,pI,lJ]<;>rfl)|fail) only[go_sem,h0,h3,pI,lJ];obtain _|n:=n
  ·omega
  have e:((n+1:Nat):Int)-1=n:=by omega
  simp only[cut]at hc;refine Qb (fun hz=>?_) (fun hz=>?_)
  ·rw[if_pos (by grind)]at hc;simp+decide (disch:=try exact D3 h0 h3 e) only[go_sem,h0,h3,e];refine jO (m:=n) (by omega) ⟨by omega,hc,?_⟩;exact Tz3 h0 @true_and @and_true
  ·refine Sz3 h0 h3 @Bx ?_;rw[if_neg (by grind)]at hc;exact Qc (by simp[hc]) rfl
 ·obtain rfl:n=0:=by omega
  refine Sz3 h0 h3 @Bx ?_;exact Qc (by simp[<-hc,cut]) rfl
theorem tv{l:List Nat}(hv:Qj l)(hl:l.length<2^42):Qd Tryz.prog 148 [PV.nat l] (· =PV.num (val l)):=by
 have hd:=bP hv;unfold nl at hd;refine Qf Qk Tryz.func148 rfl RE (by simp[zx]) fun C hP=>?_;simp only[zx,Zo,Zg,Zm,Zc,Zf,Zl,Zh,Zs,Zi,Zb,Zk,Zn,Zu,Zq,Zr,Zz];refine Sz0 ?_;refine Qa hP (eU hv hl) rfl rfl rfl ?_;refine Sz0 ?_;refine Qb (fun hz=>?_) (fun hz=>?_)
 ·refine Sz0 ?_;have:aj (val l)=[]:=Kas.1 (by omega);exact lE (by rw[PV.num,this];exact Ta) rfl
 ·refine Sz0 ?_;rw[QR rfl (by simp)];refine Sz0 ?_;exact iF rfl (by simp[Kai])
theorem w7{n:Nat}(hn:n<18446744073709551616):Qd Tryz.prog 150 [.int .u64 n] (· =PV.num n):=by
 have hlen:=nf hn;unfold nl at hlen;refine Qf Qk Tryz.func150 rfl RF (by simp[zy]) fun C hP=>?_;simp only[zy,Zo,Zg,Zm,Zc,Zf,Zl,Zh,Zs,Zi,Zb,Zk,Zn,Zu,Zq,Zr,Zz];refine Sz0 ?_;refine tl (fun m fr hp=>∃done:List Nat,aj n=done++aj m/\m<=n/\fr 0= .int .u64 m/\fr 3= .ms 12 done.length/\hp 12=some ⟨1,152,done.map fun(x:Nat)=>.int .u16 x,false⟩) n (Fl 3 12 1 152 (by omega) ?_) ?_ ?_
 ·exact Tz0
 ·refine⟨[],?_⟩;simp+decide (disch:=first|omega|rfl|(simp+decide only[go_sem,KaC,Kbf,Kbo,true_and,and_true,Kae]<;>rfl)|fail) only[go_sem,KaC,Kbf,Kbo,true_and,and_true,Kae]
 rintro m fr hp ⟨done,hd,hm,h0,h3,hh⟩;rw[hd,KaG]at hlen;refine Sz1 h0 ?_;refine Qb (fun hz=>?_) (fun hz=>?_)
 ·have a9:m≠0:=by omega
  have kW:aj n=(done++[m%65536])++aj (m/65536):=by rw[hd,om a9];simp
  refine Sz2 h0 h3 ?_;rw[BI (xs:=done.map fun(x:Nat)=>.int .u16 x) (Tz1 hh) rfl (by omega) (by simp) (by omega) (by omega)];refine Sz4 h0 h3 @Gt @HT ?_;refine jO (m:=m/65536) (by omega) ⟨done++[m%65536],kW,by omega,?_⟩;refine Sz3 h0 h3 hh ?_;simp
 ·obtain rfl:m=0:=by omega
  refine Sz1 h3 ?_;exact iF hh (by simp[PV.num,PV.nat,hd,ek,Kai])
theorem BQ{a b:List Nat}(ha:Qj a)(hb:Qj b)(bm:a.length<2^40)(dv:b.length<2^40):Qd Tryz.prog 163 [PV.nat a,PV.nat b] (· = .int .i64 (fP (val a) (val b))):=by
 have eB:=bP ha;have ft:=bP hb;have KB:= @Ij (val a) (val b);have KC:= @Ij (val b) (val a);have aaR:=Ql (val a);have aaS:=Ql (val b);have hva:=Qz (val a);have hvb:=Qz (val b);unfold nl at eB ft KB KC;refine Qf Qk Tryz.func163 rfl QW (by simp[zC]) fun C hP=>?_;simp only[zC,Zo,Zg,Zm,Zc,Zf,Zl,Zh,Zs,Zi,Zb,Zk,Zn,Zu,Zq,Zr,Zz];refine Sz0 ?_;refine Qa hP (eU ha (by omega)) rfl rfl rfl ?_;refine Sz0 ?_;refine Qa hP (eU hb (by omega)) rfl rfl rfl ?_;refine Sz0 ?_;generalize val a=x at *
 generalize val b=y at *
 refine Qb (fun hz=>?_) (fun hz=>?_)
 ·refine Sz0 ?_;refine Qb (fun hz=>?_) (fun hz=>?_)
  ·refine Sz0 ?_;exact Qc (by rw[Cf (KB (by omega))]) rfl
  ·refine Sz0 ?_;exact Qc (by rw[Cg (KC (by omega))]) rfl
 refine Sz0 ?_;refine mD (fun m fr hp=>m<=(aj x).length/\val ((aj x).drop m)=val ((aj y).drop m)/\fr 0=PV.num x/\fr 1=PV.num y/\fr 5= .int .i64 ((m:Int)-1)/\hp=au) (aj x).length ?_ ?_
 ·refine⟨Kae _,?_,?_⟩
  ·rw[Kak (Kae _),Kak (by omega)]
  ·exact Tz2 @true_and @and_true
 rintro m fr _ ⟨hm,hd,h0,h1,h5,rfl⟩;refine Sz3 h0 h1 h5 ?_;refine Qb (fun hg=>?_) (fun hg=>?_)
 ·obtain _|m:=m
  ·omega
  have e:((m+1:Nat):Int)-1=m:=by omega
  have En:m<(aj x).length:=by omega
  have uX:m<(aj y).length:=by omega
  simp+decide (disch:=try exact D4 h0 h1 h5 e) only[go_sem,h0,h1,h5,e];refine Qb (fun hq=>?_) (fun hq=>?_)
  ·refine Sz0 ?_;exact Qc (by rw[Cf];have:=HV aaR En uX (by omega) hd;omega) rfl
  simp+decide (disch:=try exact D4 h0 h1 h5 e) only[go_sem,h0,h1,h5,e];refine Qb (fun lg=>?_) (fun lg=>?_)
  ·refine Sz0 ?_;exact Qc (by rw[Cg];have:=HV aaS uX En (by omega) hd.symm;omega) rfl
  refine Sz4 h0 h1 h5 e ?_;refine jO (m:=m) (by omega) ⟨by omega,?_,?_⟩
  ·rw[iD En,iD uX,hd];omega
  ·exact Tz4 h0 h1 @true_and @and_true
 ·obtain rfl:m=0:=by omega
  refine Sz0 ?_;refine Qc ?_ rfl;rw[Jq];simp at hd;omega
theorem Pr{a b:List Nat}(ha:Qj a)(hb:Qj b)(bm:a.length<2^40)(dv:b.length<2^40):Qd Tryz.prog 197 [PV.nat a,PV.nat b] (· =PV.num (val a+val b)):=by
 have eB:=bP ha;have ft:=bP hb;unfold nl at eB ft;refine Qf Qk Tryz.func197 rfl QX (by simp[zD]) fun C hP=>?_;simp only[zD,Zo,Zg,Zm,Zc,Zf,Zl,Zh,Zs,Zi,Zb,Zk,Zn,Zu,Zq,Zr,Zz];refine Sz0 ?_;refine Qa hP (eU ha (by omega)) rfl rfl rfl ?_;refine Sz0 ?_;refine Qa hP (eU hb (by omega)) rfl rfl rfl ?_;refine Sz0 ?_;generalize val a=x0 at *
 generalize val b=y0 at *
 refine tp (fun fr hp=>∃x y,x+y=x0+y0/\(aj x).length<2^40/\(aj y).length<=(aj x).length/\fr 0=PV.num x/\fr 1=PV.num y/\hp=au) ?_ ?_
 ·refine Qb (fun hz=>?_) (fun hz=>?_)
  ·refine Sz0 ?_;refine⟨y0,x0,by omega,by omega,by omega,?_⟩;exact Tz2 @true_and @and_true
  ·refine Sz0 ?_;refine⟨x0,y0,by omega,by omega,by omega,?_⟩;exact Tz2 @true_and @and_true
 rintro fr _ ⟨x,y,mi,hx,hy,h0,h1,rfl⟩;rw[<-mi];clear mi eB ft;have dM:=Ql x;have iv:=Ql y;refine Sz2 h0 h1 ?_;refine mD (fun m fr hp=>∃i c done,m=(aj x).length-i/\i<=(aj x).length/\c<=1/\done.length=i/\done++fC ((aj x).drop i) ((aj y).drop i) c=aj (x+y)/\
  fr 1=PV.num y/\fr 5= .ms 25 (aj x).length/\fr 6= .int .u32 c/\fr 26=PV.num x/\fr 27= .int .i64 (aj x).length/\fr 28= .int .i64 i/\hp=Qi au 25 ⟨1,152,bD (done++List.replicate ((aj x).length-i) 0),false⟩) (aj x).length ?_ ?_
 ·refine⟨0,0,[],rfl,by omega,by omega,rfl,by simpa using OS hy,?_⟩;simp+decide (disch:=first|omega|rfl|(simp+decide only[go_sem,h0,h1,true_and,and_true,KbX,KaC]<;>rfl)|fail) only[go_sem,h0,h1,true_and,and_true,KbX,KaC];simp
 rintro _ fr _ ⟨i,c,done,rfl,hi,hc,dK,hd,h1,h5,h6,oO,oP,oQ,rfl⟩;refine Sz3 oO oP oQ ?_;refine Qb (fun hg=>?_) (fun hg=>?_)
 ·have aA:i<(aj x).length:=by omega
  have dU:=cY dM aA;rw[MG aA]at hd;have hlen:=BK (n:=(aj x).length-i) dK (by omega:_=(aj x).length);simp+decide (disch:=try exact D6 h1 h5 h6 oO oP oQ) only[go_sem,h1,h5,h6,oO,oP,oQ];refine Qb (fun hq=>?_) (fun hq=>?_)
  ·have fw:i<(aj y).length:=by omega
   have o8:=cY iv fw;rw[et fw]at hd;simp+decide (disch:=try exact D6 h1 h5 h6 oO oP oQ) only[go_sem,h1,h5,h6,oO,oP,oQ];refine jO (m:=(aj x).length-(i+1)) (by omega) ⟨i+1,_,_,rfl,by omega,?_,?_,(Kbw ..).symm.trans hd,?_⟩
   ·omega
   ·simp[dK]
   ·exact Tz10 h1 h5 h6 oO oP oQ @true_and @and_true @tH @Nat.sub_sub
  ·rw[eu (by omega)]at hd;refine Sz6 h1 h5 h6 oO oP oQ ?_;refine jO (m:=(aj x).length-(i+1)) (by omega) ⟨i+1,_,_,rfl,by omega,?_,?_,(Kbw ..).symm.trans hd,?_⟩
   ·omega
   ·simp[dK]
   ·exact Tz11 h1 h5 h6 oO oP oQ @true_and @and_true @tH @Nat.sub_sub @Nat.add_zero
 ·obtain rfl:i=(aj x).length:=by omega
  rw[Kak (Kae _),Kak hy]at hd;simp+decide (disch:=first|omega|rfl|(simp+decide only[go_sem,h5,h6,KbA,KaU,Kan]<;>rfl)|fail) only[go_sem,h5,h6,KbA,KaU,Kan];refine Qb (fun hq=>?_) (fun hq=>?_)
  ·refine Sz2 h5 h6 ?_;rw[BI (xs:=bD done) Tz0 rfl (by omega) (by simp[dK]) (by omega) (by omega)];refine Sz1 h5 ?_;refine iF rfl ?_;rw[fC,if_neg (by omega)]at hd;rw[PV.num,<-hd];simp[bD,dK,Kai];omega
  ·refine Sz1 h5 ?_;refine iF rfl ?_;rw[fC,if_pos (by omega)]at hd;rw[PV.num,<-hd];simp[bD,dK,Kai]
theorem IW{a b:List Nat}(ha:Qj a)(hb:Qj b)(bm:a.length<2^40)(dv:b.length<2^40)(hle:val b<=val a):Qd Tryz.prog 198 [PV.nat a,PV.nat b] (· = .aJ [PV.num (val a-val b),.int .i64 0]):=by
 have eB:=bP ha;have ft:=bP hb;have iX:=eX hle;unfold nl at eB ft iX;refine Qf Qk Tryz.func198 rfl QY (by simp[zE]) fun C hP=>?_;simp only[zE,Zo,Zg,Zm,Zc,Zf,Zl,Zh,Zs,Zi,Zb,Zk,Zn,Zu,Zq,Zr,Zz];refine Sz0 ?_;refine Qa hP (BQ ha hb bm dv) rfl rfl rfl ?_;have aam:¬fP (val a) (val b)<0:=by unfold fP;split<;>(try split)<;>omega
 refine Sz0 ?_;refine Qb (fun hz=>absurd hz aam) (fun hz=>?_);refine Sz0 ?_;refine Qa hP (eU ha (by omega)) rfl rfl rfl ?_;refine Sz0 ?_;refine Qa hP (eU hb (by omega)) rfl rfl rfl ?_;refine Sz0 ?_;generalize val a=x at *
 generalize val b=y at *
 have dM:=Ql x;have iv:=Ql y;have dz:=Il (aj x) (aj y) 0 (by omega) dM iv iX (by rw[Qz,Qz];exact hle);rw[Qz,Qz,KaJ]at dz;have jd:=G1 (aj x) (aj y) 0;have yt:=GA (aj x) (aj y) 0;refine mD (fun m fr hp=>∃i c done,m=(aj x).length-i/\i<=(aj x).length/\c<=1/\done.length=i/\done++iO ((aj x).drop i) ((aj y).drop i) c=iO (aj x) (aj y) 0/\
  fr 1=PV.num y/\fr 6= .ms 21 (aj x).length/\fr 7= .int .i32 (c:Nat)/\fr 22=PV.num x/\fr 23= .int .i64 (aj x).length/\fr 24= .int .i64 i/\hp=Qi au 21 ⟨1,152,bD (done++List.replicate ((aj x).length-i) 0),false⟩) (aj x).length ?_ ?_
 ·refine⟨0,0,[],rfl,by omega,by omega,rfl,rfl,?_⟩;simp+decide (disch:=first|omega|rfl|(simp+decide only[go_sem,true_and,and_true,KbX,KaC]<;>rfl)|fail) only[go_sem,true_and,and_true,KbX,KaC];simp
 rintro _ fr _ ⟨i,c,done,rfl,hi,hc,dK,hd,h1,h6,h7,iQ,iR,iS,rfl⟩;refine Sz3 iQ iR iS ?_;refine Qb (fun hg=>?_) (fun hg=>?_)
 ·have aA:i<(aj x).length:=by omega
  have dU:=cY dM aA;rw[MH aA]at hd;have hlen:=BK (n:=(aj x).length-i) dK (by omega:_=(aj x).length);simp+decide (disch:=try exact D6 h1 h6 h7 iQ iR iS) only[go_sem,h1,h6,h7,iQ,iR,iS];refine tp (fun fr hp=>fr 1=PV.num y/\fr 6= .ms 21 (aj x).length/\fr 8= .int .i64 i/\fr 10= .int .i32 ((aj x)[i]-(c:Int)-((aj y).getD i 0:Nat))/\(aj y).getD i 0<65536/\fr 22=PV.num x/\fr 23= .int .i64 (aj x).length/\fr 24= .int .i64 i/\hp=Qi au 21 ⟨1,152,bD (done++List.replicate ((aj x).length-i) 0),false⟩) ?_ ?_
  ·refine Qb (fun hq=>?_) (fun hq=>?_)
   ·have fw:i<(aj y).length:=by omega
    have o8:=cY iv fw;simp+decide (disch:=first|omega|rfl|(simp+decide only[go_sem,h1,h6,h7,iQ,iR,iS,et fw,true_and,and_true]<;>rfl)|fail) only[go_sem,h1,h6,h7,iQ,iR,iS,et fw,true_and,and_true];exact o8
   ·simp+decide (disch:=first|omega|rfl|(simp+decide only[go_sem,h1,h6,h7,iQ,iR,iS,true_and,and_true,eu (by omega:¬i<(aj y).length)]<;>rfl)|fail) only[go_sem,h1,h6,h7,iQ,iR,iS,true_and,and_true,eu (by omega:¬i<(aj y).length)];simp
  clear h1 h6 iQ iR iS;rintro fr _ ⟨h1,h6,h8,bx,o8,iQ,iR,iS,rfl⟩;generalize hw:(aj y).getD i 0=yi at *
  refine Sz1 bx ?_;refine tp (fun fr hp=>fr 1=PV.num y/\fr 6= .ms 21 (aj x).length/\fr 8= .int .i64 i/\fr 10= .int .i32 (((aj x)[i]+65536-c-yi)%65536:Nat)/\fr 7= .int .i32 ((if(aj x)[i]<c+yi then 1 else 0):Nat)/\fr 22=PV.num x/\fr 23= .int .i64 (aj x).length/\fr 24= .int .i64 i/\hp=Qi au 21 ⟨1,152,bD (done++List.replicate ((aj x).length-i) 0),false⟩) ?_ ?_
  ·refine Qb (fun hq=>?_) (fun hq=>?_)
   ·rw[if_pos (by omega)];refine Sz9 h1 h6 h8 bx iQ iR iS @true_and @and_true ?_;simp;omega
   ·rw[if_neg (by omega)];refine Sz9 h1 h6 h8 bx iQ iR iS @true_and @and_true ?_;simp;omega
  clear h1 h6 h8 bx iQ iR iS;rintro fr _ ⟨h1,h6,h8,bx,h7,iQ,iR,iS,rfl⟩;refine Sz8 h1 h6 h7 h8 bx iQ iR iS ?_;refine jO (m:=(aj x).length-(i+1)) (by omega) ⟨i+1,_,_,rfl,by omega,?_,?_,(Kbw ..).symm.trans hd,?_⟩
  ·split<;>omega
  ·simp[dK]
  ·exact Tz13 h1 h6 h7 h8 bx iQ iR iS @true_and @and_true @tH @Nat.sub_sub @Nat.mod_mod
 ·obtain rfl:i=(aj x).length:=by omega
  rw[Kak (Kae _),iO,Kan]at hd;simp+decide (disch:=first|omega|rfl|(simp+decide only[go_sem,h6,KbA,KaU,Kan]<;>rfl)|fail) only[go_sem,h6,KbA,KaU,Kan];rw[hd];refine pB hP (eU jd (by omega)) (tw rfl yt.symm) rfl fun hp'=>?_;refine Sz0 ?_;exact lP rfl rfl rfl (od (by rw[show val (iO (aj x) (aj y) 0)=x-y by omega])) (cf _)
theorem wY{a b:List Nat}(ha:Qj a)(hb:Qj b)(bm:a.length<2^40)(dv:b.length<2^40):Qd Tryz.prog 183 [PV.nat a,PV.nat b] (· =PV.num (val a*val b)):=by
 have eB:=bP ha;have ft:=bP hb;unfold nl at eB ft;refine Qf Qk Tryz.func183 rfl QZ (by simp[zf]) fun C hP=>?_;simp only[zf,Zo,Zg,Zm,Zc,Zf,Zl,Zh,Zs,Zi,Zb,Zk,Zn,Zu,Zq,Zr,Zz];refine Sz0 ?_;refine Qa hP (eU ha (by omega)) rfl rfl rfl ?_;refine Sz0 ?_;refine Qa hP (eU hb (by omega)) rfl rfl rfl ?_;refine Sz0 ?_;generalize val a=x at *
 generalize val b=y at *
 have dM:=Ql x;have iv:=Ql y;refine Q6 (fun hz=>?_) (fun hz=>?_)
 ·refine Sz0 ?_;have:=lA (by omega:(aj x).length=0);rw[iA]at this;exact lE (tN (by simp[this])) rfl
 refine Sz0 ?_;refine Qb (fun yI=>?_) (fun yI=>?_)
 ·refine Sz0 ?_;have:=lA (by omega:(aj y).length=0);rw[iA]at this;exact lE (tN (by simp[this])) rfl
 refine Sz0 ?_;refine mD (fun m fr hp=>∃i lo,m=(aj x).length-i/\i<=(aj x).length/\Qj lo/\lo.length=i+(aj y).length/\val lo=val ((aj x).take i)*val (aj y)/\
  fr 1=PV.num y/\fr 5= .ms 28 ((aj x).length+(aj y).length)/\fr 29=PV.num x/\fr 30= .int .i64 (aj x).length/\fr 31= .int .i64 i/\hp=Qi au 28 ⟨1,152,bD (lo++List.replicate ((aj x).length-i) 0),false⟩) (aj x).length ?_ ?_
 ·refine⟨0,List.replicate (aj y).length 0,rfl,by omega,?_,by simp,by simp[HU,val],?_⟩
  ·intro z hz;rw[List.eq_of_mem_replicate hz];omega
  ·refine Sz3 @true_and @and_true @Nat.sub_zero ?_;simp[KbM]
 rintro _ fr _ ⟨i,lo,rfl,hi,mR,El,hv,h1,h5,lW,nI,nJ,rfl⟩;refine Sz3 lW nI nJ ?_;refine Qb (fun hg=>?_) (fun hg=>?_)
 ·have aA:i<(aj x).length:=by omega
  have dU:=cY dM aA;have mh:=OT aA El hv;have uW:Qj (lo.take i++gf (lo.drop i) (aj y) (aj x)[i] 0):=jQ.2 ⟨re mR i,He _ _ _ _ (by omega) dU (s7 mR i) iv⟩;have adk:(lo.take i++gf (lo.drop i) (aj y) (aj x)[i] 0).length=i+(aj y).length+1:=by rw[KaG,GB _ _ _ _ (by simp[El])];simp;omega
  generalize cL:(aj x)[i]=xi at *
  refine Sz6 h1 h5 lW nI nJ cL ?_;refine mD (fun m fr hp=>∃k c p rs,m=(aj y).length-k/\k<=(aj y).length/\c<65536/\Qj rs/\p.length=i+k/\rs.length=(aj y).length-k/\p++gf rs ((aj y).drop k) xi c=lo.take i++gf (lo.drop i) (aj y) xi 0/\
   fr 1=PV.num y/\fr 5= .ms 28 ((aj x).length+(aj y).length)/\fr 6= .int .i64 i/\fr 7= .int .u16 xi/\fr 8= .int .u32 c/\fr 29=PV.num x/\fr 30= .int .i64 (aj x).length/\fr 31= .int .i64 i/\fr 36=PV.num y/\fr 37= .int .i64 (aj y).length/\fr 38= .int .i64 k/\
   hp=Qi au 28 ⟨1,152,bD (p++(rs++List.replicate ((aj x).length-i) 0)),false⟩) (aj y).length ?_ ?_
  ·refine⟨0,0,lo.take i,lo.drop i,rfl,by omega,by omega,s7 mR i,by simp;omega,by simp;omega,rfl,?_⟩;refine Sz7 h1 h5 lW nI nJ @true_and @and_true ?_;rw[<-List.append_assoc,Kbh];simp
  clear h1 h5 lW nI nJ;rintro _ fr _ ⟨k,c,p,rs,rfl,hk,hc,ct,cK,qG,hinv,h1,h5,h6,h7,h8,lW,nI,nJ,xT,xU,xV,rfl⟩;refine Sz3 xT xU xV ?_;refine Qb (fun hq=>?_) (fun hq=>?_)
  ·have du:k<(aj y).length:=by omega
   have hyk:=cY iv du;rw[Kar du]at hinv;generalize La:(aj y)[k]=yk at *
   obtain _|⟨r,rs⟩:=rs
   ·simp at qG;omega
   rw[eM]at ct;have va:=ct.1;have vn:=oa dU hyk;rw[gf]at hinv;have ak:i+k<(p++r::(rs++List.replicate ((aj x).length-i) 0)).length:=by simp;omega
   have dj:=xh cK ak;simp+decide (disch:=first|omega|rfl|(simp+decide only[go_sem,h1,h5,h6,h7,h8,xT,xU,xV,La,KaE,dj]<;>rfl)|fail) only[go_sem,h1,h5,h6,h7,h8,xT,xU,xV,La,KaE,dj];refine jO (m:=(aj y).length-(k+1)) (by omega) ⟨k+1,_,_,_,rfl,by omega,?_,ct.2,?_,?_,(Kbw ..).symm.trans hinv,?_⟩
   ·omega
   ·simp[cK];omega
   ·simp at qG;omega
   ·refine Sz14 h1 h5 h6 h7 h8 lW nI nJ xT xU xV @true_and @and_true @jV ?_;simp
  ·obtain rfl:k=(aj y).length:=by omega
   obtain rfl:rs=[]:=Kas.1 (by omega);rw[Kak (Kae _),gf]at hinv
   rotate_left
   ·intros;simp_all
   obtain⟨z,hz⟩:∃z,(aj x).length-i=z+1:=⟨(aj x).length-i-1,by omega⟩
   have ak:i+(aj y).length<(p++0::(List.replicate z 0)).length:=by simp;omega
   simp+decide (disch:=first|omega|rfl|(simp+decide only[go_sem,h1,h5,h6,h8,lW,nI,nJ,KaC,hz,Kbv]<;>rfl)|fail) only[go_sem,h1,h5,h6,h8,lW,nI,nJ,KaC,hz,Kbv];refine jO (m:=(aj x).length-(i+1)) (by omega) ⟨i+1,lo.take i++gf (lo.drop i) (aj y) xi 0,rfl,by omega,uW,by omega,?_,?_⟩
   ·rw[mh]
   ·refine Sz8 h1 h5 lW nI nJ @true_and @and_true @jV ?_;rw[<-hinv,show(aj x).length-(i+1)=z by omega,Kaz hc];simp
 ·obtain rfl:i=(aj x).length:=by omega
  rw[Kbn,Qz,Qz]at hv;simp+decide (disch:=first|omega|rfl|(simp+decide only[go_sem,h5,KbA,KaU,Kan]<;>rfl)|fail) only[go_sem,h5,KbA,KaU,Kan];refine pB hP (eU mR (by omega)) (tw rfl El.symm) rfl fun hp'=>?_;refine Sz0 ?_;exact Qc (by rw[hv]) rfl
theorem XR{pre w post v:List Nat}{j m:Nat}(hw:Qj w)(hv:Qj v)(hj:pre.length=j)(hm:w.length=m)(hle:v.length<=w.length)(hlen:(pre++(w++post)).length<2^43):
  rD Tryz.prog 180 [.ao B0 j m,PV.nat v] 152 (bD (pre++(w++post))) (fun r xs'=>r= .aJ []/\xs'=bD (pre++(gF w v 0++post))):=by
 simp only[KaG]at hlen;refine wz Qk Tryz.func180 rfl Rf (by simp[zo]) fun C hP=>?_;simp only[zo,Zo,Zg,Zm,Zc,Zf,Zl,Zh,Zs,Zi,Zb,Zk,Zn,Zu,Zq,Zr,Zz];refine Sz0 ?_;refine mD (fun k fr hp=>∃i c done,k=w.length-i/\i<=w.length/\c<=1/\done.length=i/\done++gF (w.drop i) (v.drop i) c=gF w v 0/\
  fr 0= .ao 1000000 j m/\fr 1=PV.nat v/\fr 4= .int .u32 c/\fr 7= .int .i64 m/\fr 8= .int .i64 i/\hp=Qi au 1000000 ⟨1,152,bD ((pre++done)++(w.drop i++post)),false⟩) w.length ?_ ?_
 ·refine⟨0,0,[],rfl,by omega,by omega,rfl,rfl,?_⟩;simp+decide (disch:=first|omega|rfl|(simp+decide only[go_sem,true_and,and_true,Kan,Kbp]<;>rfl)|fail) only[go_sem,true_and,and_true,Kan,Kbp];simp
 rintro _ fr _ ⟨i,c,done,rfl,hi,hc,dK,hd,h0,h1,h4,h7,h8,rfl⟩;refine Sz2 h7 h8 ?_;refine Qb (fun hg=>?_) (fun hg=>?_)
 ·have aA:i<w.length:=by omega
  have hwi:=cY hw aA;rw[Ni aA]at hd;have cK:(pre++done).length=j+i:=by simp[hj,dK]
  rw[Kar aA];generalize hww:w[i]=wi at *
  have ak:j+i<((pre++done)++wi::(w.drop (i+1)++post)).length:=by simp;omega
  have dj:=xh cK ak;simp+decide (disch:=first|omega|rfl|(simp+decide only[go_sem,h0,h1,h4,h7,h8,KaE,dj]<;>rfl)|fail) only[go_sem,h0,h1,h4,h7,h8,KaE,dj];refine Qb (fun hq=>?_) (fun hq=>?_)
  ·have fw:i<v.length:=by omega
   have K3:=cY hv fw;rw[et fw]at hd;simp+decide (disch:=first|omega|rfl|(simp+decide only[go_sem,h0,h1,h4,h7,h8,jV]<;>rfl)|fail) only[go_sem,h0,h1,h4,h7,h8,jV];refine jO (m:=w.length-(i+1)) (by omega) ⟨i+1,_,_,rfl,by omega,?_,?_,(Kbw ..).symm.trans hd,?_⟩
   ·omega
   ·simp[dK]
   ·refine Sz8 h0 h1 h4 h7 h8 @true_and @and_true @jV ?_;simp
  ·rw[eu (by omega)]at hd;refine Sz6 h0 h1 h4 h7 h8 @jV ?_;refine jO (m:=w.length-(i+1)) (by omega) ⟨i+1,_,_,rfl,by omega,?_,?_,(Kbw ..).symm.trans hd,?_⟩
   ·omega
   ·simp[dK]
   ·refine Sz8 h0 h1 h4 h7 h8 @true_and @and_true @jV ?_;simp
 ·obtain rfl:i=w.length:=by omega
  rw[Kak (Kae _),gF,Kan]at hd;refine Sz0 ?_;refine TV rfl (mE _) ?_ ⟨rfl,?_⟩
  ·simp[dK]
  ·rw[Kak (Kae _),hd];simp
theorem Xs{pre w post v:List Nat}{j m q:Nat}(hw:Qj w)(hv:Qj v)(hq:q<65536)(hj:pre.length=j)(hm:w.length=m)(hle:v.length<=w.length)(hlen:(pre++(w++post)).length<2^43):
  rD Tryz.prog 179 [.ao B0 j m,PV.nat v,.int .u32 q] 152 (bD (pre++(w++post))) (fun r xs'=>r= .bool (decide (0<(dH w v q 0 0).2.2))/\xs'=bD (pre++((dH w v q 0 0).1++post))):=by
 simp only[KaG]at hlen;refine wz Qk Tryz.func179 rfl Re (by simp[zn]) fun C hP=>?_;simp only[zn,Zo,Zg,Zm,Zc,Zf,Zl,Zh,Zs,Zi,Zb,Zk,Zn,Zu,Zq,Zr,Zz];refine Sz0 ?_;refine mD (fun k fr hp=>∃i c b done,k=w.length-i/\i<=w.length/\c<65536/\b<=1/\done.length=i/\done++(dH (w.drop i) (v.drop i) q c b).1=(dH w v q 0 0).1/\(dH (w.drop i) (v.drop i) q c b).2=(dH w v q 0 0).2/\
  fr 0= .ao 1000000 j m/\fr 1=PV.nat v/\fr 2= .int .u32 q/\fr 7= .int .u32 c/\fr 8= .int .i32 (b:Nat)/\fr 12= .int .i64 m/\fr 13= .int .i64 i/\hp=Qi au 1000000 ⟨1,152,bD ((pre++done)++(w.drop i++post)),false⟩) w.length ?_ ?_
 ·refine⟨0,0,0,[],rfl,by omega,by omega,by omega,rfl,rfl,rfl,?_⟩;simp+decide (disch:=first|omega|rfl|(simp+decide only[go_sem,true_and,and_true,Kan,Kbp]<;>rfl)|fail) only[go_sem,true_and,and_true,Kan,Kbp];simp
 rintro _ fr _ ⟨i,c,b,done,rfl,hi,hc,hb,dK,hd,kW,h0,h1,h2,h7,h8,fR,fS,rfl⟩;refine Sz2 fR fS ?_;refine Qb (fun hg=>?_) (fun hg=>?_)
 ·have aA:i<w.length:=by omega
  have hwi:=cY hw aA;rw[Nj aA]at hd kW;simp only at hd kW;have cK:(pre++done).length=j+i:=by simp[hj,dK]
  rw[Kar aA];generalize hww:w[i]=wi at *
  have ak:j+i<((pre++done)++wi::(w.drop (i+1)++post)).length:=by simp;omega
  have dj:=xh cK ak;simp+decide (disch:=first|omega|rfl|(simp+decide only[go_sem,h0,h1,h2,h7,h8,fR,fS,KaE,dj]<;>rfl)|fail) only[go_sem,h0,h1,h2,h7,h8,fR,fS,KaE,dj];refine tp (fun fr hp=>c+q*v.getD i 0<=4294967295/\fr 0= .ao 1000000 j m/\fr 1=PV.nat v/\fr 2= .int .u32 q/\fr 7= .int .u32 (c+q*v.getD i 0:Nat)/\fr 8= .int .i32 (b:Nat)/\fr 9= .int .i64 i/\fr 12= .int .i64 m/\fr 13= .int .i64 i/\hp=Qi au 1000000 ⟨1,152,bD ((pre++done)++wi::(w.drop (i+1)++post)),false⟩) ?_ ?_
  ·refine Qb (fun mU=>?_) (fun mU=>?_)
   ·have fw:i<v.length:=by omega
    have K3:=cY hv fw;have mU:=oa hq K3;simp+decide (disch:=first|omega|rfl|(simp+decide only[go_sem,h0,h1,h2,h7,h8,fR,fS,et fw,true_and,and_true]<;>rfl)|fail) only[go_sem,h0,h1,h2,h7,h8,fR,fS,et fw,true_and,and_true];omega
   ·simp+decide (disch:=first|omega|rfl|(simp+decide only[go_sem,h0,h1,h2,h7,h8,fR,fS,true_and,and_true,eu (by omega:¬i<v.length),KbI,KaJ]<;>rfl)|fail) only[go_sem,h0,h1,h2,h7,h8,fR,fS,true_and,and_true,eu (by omega:¬i<v.length),KbI,KaJ];omega
  clear h0 h1 h2 h7 h8 fR fS;rintro fr _ ⟨qp,h0,h1,h2,h7,h8,h9,fR,fS,rfl⟩;generalize c+q*v.getD i 0=c1 at *
  refine Sz9 h0 h1 h2 h7 h8 h9 fR fS dj ?_;refine tp (fun fr hp=>fr 0= .ao 1000000 j m/\fr 1=PV.nat v/\fr 2= .int .u32 q/\fr 7= .int .u32 (c1/65536:Nat)/\fr 8= .int .i32 ((if wi<c1%65536+b then 1 else 0):Nat)/\fr 9= .int .i64 i/\fr 10= .int .i32 ((wi+65536-c1%65536-b)%65536:Nat)/\fr 12= .int .i64 m/\fr 13= .int .i64 i/\hp=Qi au 1000000 ⟨1,152,bD ((pre++done)++wi::(w.drop (i+1)++post)),false⟩) ?_ ?_
  ·refine Qb (fun hq=>?_) (fun hq=>?_)
   ·rw[if_pos (by omega)];refine uu h0 h1 h2 h7 h8 h9 fR fS @true_and @and_true ?_;simp;omega
   ·rw[if_neg (by omega)];refine uu h0 h1 h2 h7 h8 h9 fR fS @true_and @and_true ?_;simp;omega
  clear h0 h1 h2 h7 h8 h9 fR fS;rintro fr _ ⟨h0,h1,h2,h7,h8,h9,bx,fR,fS,rfl⟩;refine uu h0 h1 h2 h7 h8 h9 bx fR fS @jV ?_;refine jO (m:=w.length-(i+1)) (by omega) ⟨i+1,c1/65536,_,_,rfl,by omega,by omega,?_,?_,(Kbw ..).symm.trans hd,kW,?_⟩
  ·split<;>omega
  ·simp[dK]
  ·refine zt h0 h1 h2 h7 h8 h9 bx fR fS @true_and @and_true @jV @Nat.mod_mod ?_;simp
 ·obtain rfl:i=w.length:=by omega
  rw[Kak (Kae _),dH]at hd kW;simp only[Kan]at hd;refine Sz1 h8 ?_;refine Fs (p:=.bool (decide (0<(b:Int)))) rfl (mE _) ?_ Tz0 rfl ⟨?_,?_⟩
  ·simp[dK]
  ·rw[<-kW];simp
  ·rw[Kak (Kae _),hd];simp
theorem Xt{v u:List Nat}{dg n r j:Nat}(hv:Qj v)(hu:Qj u)(hn:2<=n)(eS:n=v.length)(hju:j+n<u.length)(hd:dg<4294967296)(hr:r<65536)(ED:u.length<2^43):
  Qd Tryz.prog 178 [.pt [.int .u64 dg],.pt [PV.nat v],.pt [.int .i64 n],.pt [.int .u64 r],.pt [PV.nat u],.pt [.int .i64 j]]
   (· = .bool (decide (65536<=dg∨r*65536+u.getD (j+n-2) 0<dg*v.getD (n-2) 0))):=by
 have h1:n-2<v.length:=by omega
 have h2:j+n-2<u.length:=by omega
 have sL:=cY hv h1;have K2:=cY hu h2;rw[et h1,et h2];refine Qf Qk Tryz.func178 rfl Rc (by simp[zk]) fun C hP=>?_;simp only[zk,Zo,Zg,Zm,Zc,Zf,Zl,Zh,Zs,Zi,Zb,Zk,Zn,Zu,Zq,Zr,Zz];refine Sz0 ?_;refine Q6 (fun hz=>?_) (fun hz=>?_)
 ·refine Sz0 ?_;exact Qc (by simp;omega) rfl
 ·have qq:dg<65536:=by omega
  have e1:(n:Int)-2=((n-2:Nat):Int):=by omega
  have e2:((j+n:Nat):Int)-2=((j+n-2:Nat):Int):=by omega
  generalize hvv:v[n-2]=vi at *
  generalize huu:u[j+n-2]=ui at *
  have hm:=oa qq sL;refine Sz6 e1 e2 hvv huu @Bp @BM ?_;exact Qc (congrArg PV.bool (decide_eq_decide.2 ⟨fun h=>.inr (by omega),fun h=>by rcases h with h|h<;>omega⟩)) rfl
theorem Ma{l post:List Nat}(hv:Qj l)(hl:(l++post).length<2^43)(hlen:0<l.length):
  rD Tryz.prog 162 [.ao B0 0 l.length] 152 (bD (l++post)) (fun r xs'=>r= .ao B0 0 (nl (val l))/\xs'=bD (l++post)):=by
 simp only[KaG]at hl;have adj:l.length<=(l++post).length:=by simp
 refine wz Qk Tryz.func162 rfl Jw (by simp[uv]) fun C hP=>?_;simp only[uv,Zo,Zg,Zm,Zc,Zf,Zl,Zh,Zs,Zi,Zb,Zk,Zn,Zu,Zq,Zr,Zz];refine Sz0 ?_;refine mD (fun m fr hp=>m<=l.length/\cut l m=aj (val l)/\fr 0= .ao 1000000 0 l.length/\fr 3= .int .i64 m/\hp=Qi au 1000000 ⟨1,152,bD (l++post),false⟩) l.length ?_ ?_
 ·exact⟨Kae _,tM hv,rfl,rfl,rfl⟩
 rintro n fr _ ⟨hn,hc,h0,h3,rfl⟩;refine Sz2 h0 h3 ?_;refine ep (fun hg=>?_) (fun hg=>?_)
 ·obtain _|n:=n
  ·omega
  have e:((n+1:Nat):Int)-1=n:=by omega
  have ak:n<(l++post).length:=by simp;omega
  have dj:(l++post)[n]=l[n]:=by simp[List.getElem_append,show n<l.length by omega]
  refine Sz4 h0 h3 e dj ?_;simp only[cut]at hc;refine Qb (fun hz=>?_) (fun hz=>?_)
  ·rw[if_pos (by grind)]at hc;refine Sz3 h0 h3 e ?_;refine jO (m:=n) (by omega) ⟨by omega,hc,?_⟩;exact Tz3 h0 @true_and @and_true
  ·rw[if_neg (by grind)]at hc;have iX:nl (val l)=n+1:=by rw[nl,<-hc];simp;omega
   refine Sz2 h0 h3 ?_;exact I9 rfl (mE _) (by simp) (Tz1 iX) ⟨rfl,rfl⟩
 ·obtain rfl:n=0:=by omega
  have iX:nl (val l)=0:=by rw[nl,<-hc,cut];rfl
  refine Sz2 h0 h3 ?_;exact I9 rfl (mE _) (by simp) (Tz1 iX) ⟨rfl,rfl⟩
theorem AL{a:List Nat}{s:Nat}(ha:Qj a)(bm:a.length<2^40)(hs:s<=15)(a9:val a≠0):tO Tryz.prog 166 [PV.nat a,.int .i64 s] 152 (fun ys=>ys=bD (aj (val a*2^s))):=by
 have eB:=bP ha;unfold nl at eB;have ku:(aj (val a)).length≠0:=by intro h;exact a9 (iA.1 (lA h))
 refine MK Qk Tryz.func166 rfl B3 (by simp[qb]) fun C hP=>?_;simp only[qb,Zo,Zg,Zm,Zc,Zf,Zl,Zh,Zs,Zi,Zb,Zk,Zn,Zu,Zq,Zr,Zz];refine Sz0 ?_;refine Qa hP (eU ha (by omega)) rfl rfl rfl ?_;refine Sz0 ?_;generalize val a=x at *
 have dM:=Ql x;have e1:s/16=0:=Kcc (by omega);have e2:s%16=s:=Kaz (by omega);refine Q6 (fun hz=>by omega) (fun hz=>?_);refine Sz0 ?_;refine Q6 (fun hz=>by omega) (fun hz=>?_);refine Sz0 ?_;refine Qb (fun hz=>by omega) (fun hz=>?_);refine Sz0 ?_;refine Qb (fun hz=>by omega) (fun hz=>?_);refine Sz4 @HY @HZ e1 e2 ?_;refine mD (fun k fr hp=>∃i c done,k=(aj x).length-i/\i<=(aj x).length/\c<2^s/\done.length=i/\done++ke s ((aj x).drop i) c=ke s (aj x) 0/\
  fr 5= .int .i64 (0:Nat)/\fr 6= .int .i64 s/\fr 7= .ms 44 ((aj x).length+1)/\fr 45=PV.num x/\fr 46= .int .i64 (aj x).length/\fr 47= .int .i64 i/\
  hp=Qi au 44 ⟨1,152,bD (done++c::List.replicate ((aj x).length-i) 0),false⟩) (aj x).length ?_ ?_
 ·refine⟨0,0,[],rfl,by omega,KbG (by omega),rfl,rfl,?_⟩;simp+decide (disch:=first|omega|rfl|(simp+decide only[go_sem,true_and,and_true,KaC,KbX]<;>rfl)|fail) only[go_sem,true_and,and_true,KaC,KbX];simp[Kbv]
 rintro _ fr _ ⟨i,c,done,rfl,hi,hc,dK,hd,h5,h6,h7,xW,xX,xY,rfl⟩;refine Sz3 xW xX xY ?_;have adq:2^s<=2^15:=KaV (by omega) hs;refine Qb (fun hg=>?_) (fun hg=>?_)
 ·have aA:i<(aj x).length:=by omega
  have dU:=cY dM aA;rw[Kar aA,ke]at hd;generalize cL:(aj x)[i]=xi at *
  obtain⟨z,hz⟩:∃z,(aj x).length-i=z+1:=⟨(aj x).length-i-1,by omega⟩
  have ak:i<(done++c::List.replicate (z+1) 0).length:=by simp;omega
  have dj:=xh dK ak;have fg:=Ir (x:=xi) (show s<=16 by omega) hc;have dt:=H0 (show s<=16 by omega) dU;have hl:=TX hs dU;refine zt h5 h6 h7 xW xX xY cL hz dj @Ja @TW fg.2 @jV ?_;have jG:∀v u,(done++v::List.replicate (z+1) 0).set (i+1) u=(done++[v])++u::List.replicate z 0:=fun v u=>by rw[Kbw,Kbv,jV (by simp[dK])]
  rw[Fh (by simp;omega),jG,Kaz (by omega:xi*2^s/65536<65536)];refine Sz6 h5 h6 h7 xW xX xY ?_;refine jO (m:=(aj x).length-(i+1)) (by omega) ⟨i+1,xi*2^s/65536,done++[xi*2^s%65536+c],rfl,by omega,dt,by simp[dK],(Kbw ..).symm.trans hd,?_⟩;refine Sz8 h5 h6 h7 xW xX xY @true_and @and_true ?_;rw[show(aj x).length-(i+1)=z by omega]
 ·obtain rfl:i=(aj x).length:=by omega
  rw[Kak (Kae _),ke]at hd;have mc:=Hj hs (aj x) 0 dM (KbG (by omega));have gL:=Iq s (aj x) 0;have yt:=GG s (aj x) 0;rw[Qz,KaJ]at gL;rw[<-hd]at mc gL yt;have ado:x*2^s≠0:=Nat.mul_ne_zero a9 (Nat.ne_of_gt (KbG (by omega)));simp+decide (disch:=first|omega|rfl|(simp+decide only[go_sem,h7,KbA,KaU]<;>rfl)|fail) only[go_sem,h7,KbA,KaU];have ht:=Ma (l:=done++[c]) (post:=[]) mc (by simp[dK];omega) (by simp);rw[Kan,gL]at ht;refine xw hP ht (β:=44) Tz0 (mE _) (by simp) (by simp[fJ,yt]) rfl ?_;rintro r xs' _ _ ⟨rfl,rfl⟩;simp+decide (disch:=first|omega|rfl|(simp+decide only[go_sem,jX]<;>rfl)|fail) only[go_sem,jX];refine⟨4,44,nl (x*2^s),_,rfl,by simp+decide (disch:=try exact D0) only[go_sem],rfl,by simp+decide (disch:=try exact D0) only[go_sem];rfl,mE _,?_,?_⟩
  ·have:= @Bk (x*2^s);omega
  ·rw[<-gL,<-List.map_take,OV mc]
theorem LJ{a:List Nat}{s:Nat}(ha:Qj a)(bm:a.length<2^42)(hs:s<=15):Qd Tryz.prog 177 [PV.nat a,.int .i64 s] (· =PV.num (val a/2^s)):=by
 have e1:s/16=0:=Kcc (by omega);have e2:s%16=s:=Kaz (by omega);refine Qf Qk Tryz.func177 rfl RS (by simp[zq]) fun C hP=>?_;simp only[zq,Zo,Zg,Zm,Zc,Zf,Zl,Zh,Zs,Zi,Zb,Zk,Zn,Zu,Zq,Zr,Zz];refine Sz4 @HY @HZ e1 e2 ?_;refine Qb (fun hz=>?_) (fun hz=>?_)
 ·have:a=[]:=Kas.1 (by omega);subst this;refine Sz0 ?_;exact lE (tN (by simp[val])) rfl
 have e3:((a.length:Int)-((0:Nat):Int))=((a.length:Nat):Int):=by omega
 refine Sz1 e3 ?_;refine Q5 (by repeat (first|exact Qx|exact Qq|exact Qr|exact Qt|exact Qu|apply Qp|apply Qw|apply Q3|apply Q8|apply Q9|apply Qn)) [(8,9),(25,60)] [] (fun k J hp=>∃i done,k=a.length-i/\i<=a.length/\done.length=i/\done++jx s (a.drop i)=jx s a/\J 25= .int .i64 i/\
  hp=Qi au 22 ⟨1,152,bD (done++List.replicate (a.length-i) 0),false⟩) a.length ?_ ?_
 ·refine⟨0,[],rfl,by omega,rfl,rfl,?_⟩;simp+decide (disch:=first|omega|rfl|(simp+decide only[go_sem,true_and,and_true,KaC,KbX]<;>rfl)|fail) only[go_sem,true_and,and_true,KaC,KbX];simp
 rintro _ J _ ⟨i,done,rfl,hi,dK,hd,qh,rfl⟩;refine Sz1 qh ?_;refine Qb (fun hg=>?_) (fun hg=>?_)
 ·have aA:i<a.length:=by omega
  have yj:=cY ha aA;rw[No aA]at hd;generalize cL:a[i]=xi at *
  have hlen:=BK (n:=a.length-i) dK (by omega:_=a.length);refine Sz2 qh cL ?_;refine Qb (fun hq=>?_) (fun hq=>?_)
  ·have fw:i+1<a.length:=by omega
   have haj:=cY ha fw;rw[et fw]at hd;simp+decide (disch:=first|omega|rfl|(simp+decide only[go_sem,qh,Bq,HX,Ch]<;>rfl)|fail) only[go_sem,qh,Bq,HX,Ch];refine Qm (a.length-(i+1)) (by omega) ⟨i+1,_,rfl,by omega,by simp[dK],(Kbw ..).symm.trans hd,?_⟩;exact Tz5 qh @true_and @and_true @tH @Nat.sub_sub
  ·rw[eu (by omega),Kb8,Ka0]at hd;refine Sz2 qh @Ch ?_;refine Qm (a.length-(i+1)) (by omega) ⟨i+1,_,rfl,by omega,by simp[dK],(Kbw ..).symm.trans hd,?_⟩;exact Tz5 qh @true_and @and_true @tH @Nat.sub_sub
 ·obtain rfl:i=a.length:=by omega
  rw[Kak (Kae _),jx,Kan]at hd;simp+decide (disch:=first|omega|rfl|(simp+decide only[go_sem,KbA,KaU,Kan]<;>rfl)|fail) only[go_sem,KbA,KaU,Kan];rw[hd];refine pB hP (eU (Hk s a) (by rw[AJ];exact bm)) (tw rfl (AJ s a).symm) rfl fun hp'=>?_;refine Sz0 ?_;exact Qc (by rw[Iu (by omega) a ha]) rfl
theorem XX{x V d q:Nat}(hd:0<d)(h:q=V/d):(V%d*65536+x)/d+65536*q=(x+65536*V)/d/\(V%d*65536+x)%d=(x+65536*V)%d:=by
 subst h;have e:x+65536*V=(V%d*65536+x)+d*(65536*(V/d)):=by
  have:=Ka9 V d
  calc x+65536*V=x+65536*(d*(V/d)+V%d):=by rw[this]
   _=_:=by rw[KaL,Kbt];omega
 rw[e,Kb4 _ _ hd,Kb2];exact⟨rfl,rfl⟩
theorem XY{a:List Nat}{d:Nat}(ha:Qj a)(bm:a.length<2^42)(hd:0<d)(kW:d<65536):Qd Tryz.prog 164 [PV.nat a,.int .u16 d] (· = .aJ [PV.num (val a/d),.int .u16 (val a%d:Nat)]):=by
 refine Qf Qk Tryz.func164 rfl Ra (by simp[zg]) fun C hP=>?_;simp only[zg,Zo,Zg,Zm,Zc,Zf,Zl,Zh,Zs,Zi,Zb,Zk,Zn,Zu,Zq,Zr,Zz];refine Sz0 ?_;refine Q5 (by repeat (first|exact Qx|exact Qq|exact Qr|exact Qt|exact Qu|apply Qp|apply Qw|apply Q3|apply Q8|apply Q9|apply Qn)) [(7,8),(15,38)] [] (fun k J hp=>∃qs,k<=a.length/\qs.length=a.length-k/\Qj qs/\val qs=val (a.drop k)/d/\J 7= .int .u32 (val (a.drop k)%d:Nat)/\J 8= .int .i64 ((k:Int)-1)/\
  hp=Qi au 11 ⟨1,152,bD (List.replicate k 0++qs),false⟩) a.length ?_ ?_
 ·refine⟨[],Kae _,by simp,jT,by simp[val],?_⟩;refine Sz2 @true_and @and_true ?_;simp[val]
 rintro k J _ ⟨qs,hk,KG,lh,hv,h7,h8,rfl⟩;refine Sz2 h7 h8 ?_;have hr:=Kbl (val (a.drop k)) hd;refine Qb (fun hg=>?_) (fun hg=>?_)
 ·obtain _|n:=k
  ·omega
  have hn:n<a.length:=by omega
  have DR:=cY ha hn;have e:((n+1:Nat):Int)-1=n:=by omega
  have aR:=XX (x:=a[n]) hd hv;rw[<-iD hn]at aR;have ak:(val (a.drop (n+1))%d*65536+a[n])/d<65536:=by rw[Ka5 hd];have:(val (a.drop (n+1))%d+1)*65536<=d*65536:=Kal _ hr;omega
  generalize cL:a[n]=xn at *
  generalize val (a.drop (n+1))%d=r at *
  have hlen:n<(List.replicate (n+1) 0++qs).length:=by simp;omega
  refine Sz8 h7 h8 e cL @Bq @OU @QA @mB ?_;refine Qm n (by omega) ⟨(r*65536+xn)/d::qs,by omega,?_,?_,?_,?_⟩
  ·simp;omega
  ·rw[eM];exact⟨ak,lh⟩
  ·rw[val,aR.1]
  ·refine Sz5 h7 h8 @true_and @and_true aR.2 ?_;rw[Kaz ak,List.replicate_succ',Kbs,List.singleton_append,jV (by simp)]
 ·obtain rfl:k=0:=by omega
  rw[Kbp]at hv h7;have ak:=Kbl (val a) hd;simp+decide (disch:=first|omega|rfl|(simp+decide only[go_sem,h7,h8,KaU,KaC]<;>rfl)|fail) only[go_sem,h7,h8,KaU,KaC];refine pB hP (eU lh (by omega)) (tw rfl (by omega)) rfl fun hp'=>?_;refine Sz1 h7 ?_;refine lP rfl rfl rfl (od (by rw[hv])) (od ?_);rw[Kaz (by omega)]
theorem Hr{x:Nat}(h:x<65536):Qd Tryz.prog 176 [.int .u16 x] (· = .int .i64 (Lib.bitLen x:Nat)):=
 Yi (by simp[kQ];exact⟨rfl,by decide⟩) (fun w=>XZ x w (by omega) (by omega)) (fun _ _=>Qo.int _ _)
theorem AM{x:Nat}(h:x<65536):Lib.bitLen x<=16:=Lib.bitLen_le x 16 (by omega) (by omega)
theorem Bo{x:Nat}(h:x<65536)(h0:x≠0):1<=Lib.bitLen x:=by have:=Lib.bitLen_half x h0 (by omega);omega
theorem X1:Lib.bitLen 0=0:=by decide
theorem LK:∀(n x:Nat),Lib.bitLen x=n->x≠0->x<65536->2^n<=2*x/\x<2^n:=by
 intro n;induction n with
 |zero=>intro x h h0 hx;have:=Bo hx h0;omega
 | succ n ih=>
  intro x h h0 hx;have e:=Lib.bitLen_half x h0 (by omega);by_cases h2:x/2=0
  ·have:x=1:=by omega
   subst this;have:n=0:=by rw[h]at e;simp[X1]at e;exact e
   subst this;simp
  ·have:=ih (x/2) (by omega) h2 (by omega);rw[Kbg];omega
theorem Xd{x:Nat}(h:x<65536):Qd Tryz.prog 165 [.int .u16 x] (· = .int .i64 (16-Lib.bitLen x:Nat)):=by have:=AM h;refine Qf Qk Tryz.func165 rfl RU (by simp[zr]) fun C hP=>?_;simp only[zr,Zo,Zg,Zm,Zc,Zf,Zl,Zh,Zs,Zi,Zb,Zk,Zn,Zu,Zq,Zr,Zz];refine Sz0 ?_;refine Qa hP (Hr h) rfl rfl rfl ?_;refine Sz0 ?_;exact Qc (by congr 1;omega) rfl
theorem HH{a:List Nat}(ha:Qj a)(bm:a.length<2^40):Qd Tryz.prog 187 [PV.nat a] (fun r=>∃n:Nat,r= .int .i64 n/\(n=0↔val a=0)):=by
 have hd:=bP ha;unfold nl at hd;refine Qf Qk Tryz.func187 rfl QV (by simp[zB]) fun C hP=>?_;simp only[zB,Zo,Zg,Zm,Zc,Zf,Zl,Zh,Zs,Zi,Zb,Zk,Zn,Zu,Zq,Zr,Zz];refine Sz0 ?_;refine Qa hP (eU ha (by omega)) rfl rfl rfl ?_;refine Sz0 ?_;refine Qb (fun hz=>?_) (fun hz=>?_)
 ·refine Sz0 ?_;have:val a=0:=iA.1 (Kas.1 (by omega));exact⟨rfl,_,cf _,0,rfl,by simp[this]⟩
 ·have a9:val a≠0:=fun h=>by rw[h,ek]at hz;simp at hz
  have sA:=BJ (val a);have yu:=Ql (val a);generalize val a=x at *
  obtain⟨k,hk⟩:∃k,(aj x).length=k+1:=⟨(aj x).length-1,by omega⟩
  have ak:k<(aj x).length:=by omega
  have nT:=cY yu ak;have ku:(aj x)[k]≠0:=by intro h;apply sA;rw[Ka6,hk,Nat.add_sub_cancel,Kaf ak,h]
  have e:((k+1:Nat):Int)-1=k:=by omega
  generalize cL:(aj x)[k]=xi at *
  have hb:=AM nT;have aX:=Bo nT ku;refine Sz3 hk e cL ?_;refine Qa hP (Hr nT) rfl rfl rfl ?_;have e2:(16:Int)*(k:Int)=((16*k:Nat):Int):=by omega
  refine Sz1 e2 ?_;exact⟨rfl,_,cf _,16*k+Lib.bitLen xi,rfl,by omega⟩
theorem WM(i:Nat):2^(16*i)=65536^i:=by rw[Nat.pow_mul]
theorem BA{a:List Nat}(ha:Qj a)(bm:a.length<2^40):Qd Tryz.prog 149 [PV.nat a] (· =if nl (val a)<=4 then .aJ [.int .u64 (val a),.bool true]else .aJ [.int .u64 0,.bool false]):=by
 have hd:=bP ha;unfold nl at hd;refine Qf Qk Tryz.func149 rfl RG (by simp[zA]) fun C hP=>?_;simp only[zA,Zo,Zg,Zm,Zc,Zf,Zl,Zh,Zs,Zi,Zb,Zk,Zn,Zu,Zq,Zr,Zz];refine Sz0 ?_;refine Qa hP (eU ha (by omega)) rfl rfl rfl ?_;refine Sz0 ?_;have yu:=Ql (val a);have dz:=Qz (val a);unfold nl;generalize val a=x at *
 refine Qb (fun hz=>?_) (fun hz=>?_)
 ·refine Sz0 ?_;rw[if_neg (by omega)];exact lP rfl rfl rfl (cf _) (cf _)
 ·refine Sz0 ?_;rw[if_pos (by omega)];refine Q5 (by repeat (first|exact Qx|exact Qq|exact Qr|exact Qt|exact Qu|apply Qp|apply Qw|apply Q3|apply Q8|apply Q9|apply Qn)) [(4,6),(14,26)] [] (fun k J hp=>∃i,k=(aj x).length-i/\i<=(aj x).length/\J 14= .int .i64 i/\J 4= .int .u64 (val ((aj x).take i))/\hp=au) (aj x).length ?_ ?_
  ·refine⟨0,rfl,by omega,?_⟩;simp+decide (disch:=first|omega|rfl|(simp+decide only[go_sem,true_and,and_true,Kb0]<;>rfl)|fail) only[go_sem,true_and,and_true,Kb0];simp[val]
  rintro _ J _ ⟨i,rfl,hi,gj,h4,rfl⟩;refine Sz2 gj h4 ?_;refine Qb (fun hg=>?_) (fun hg=>?_)
  ·have aA:i<(aj x).length:=by omega
   have dU:=cY yu aA;have ir:=sZ aA;have o7:=n7 yu i (by omega);generalize cL:(aj x)[i]=xi at *
   have e2:(16:Int)*(i:Int)=((16*i:Nat):Int):=by omega
   have hb:xi*2^(16*i)+2^(16*i)<=18446744073709551616:=by have h3:2^(16*i)<=2^48:=KaV (by omega) (by omega);have:(xi+1)*2^(16*i)<=65536*2^48:=KbS (by omega) h3;rw[Kax]at this;omega
   have hpp:0<2^(16*i):=KbG (by omega);rw[<-WM]at ir o7;have sG:(val ((aj x).take i)|||xi*2^(16*i))=val ((aj x).take (i+1)):=by rw[Nat.or_comm,tU o7,ir,KaP,KbM]
   refine Sz7 gj h4 cL e2 @I' @Ft sG ?_;refine Qm ((aj x).length-(i+1)) (by omega) ⟨i+1,rfl,by omega,?_⟩;exact Tz3 gj @true_and @and_true
  ·obtain rfl:i=(aj x).length:=by omega
   rw[Kbn,dz]at h4;refine Sz1 h4 ?_;exact lP rfl rfl rfl (cf _) (cf _)
set_option maxHeartbeats 2000000 in
theorem NK{u v ex:List Nat}(hu:Qj u)(hv:Qj v)(hn:2<=v.length)(ak:v.length<u.length)(K1:32768<=v.getD (v.length-1) 0)(aaI:val (u.drop (u.length-v.length))<val v)(ED:u.length+ex.length<2^42):
  rD Tryz.prog 167 [.ao B0 0 u.length,PV.nat v] 152 (bD (u++ex)) (fun r xs'=>r=PV.num (val u/val v)/\∃l,xs'=bD (l++ex)/\Qj l/\l.length=u.length/\val l=val u%val v):=by
 obtain⟨n,eS⟩:∃n,v.length=n+2:=⟨v.length-2,by omega⟩
 have e1:(u.length:Int)-(v.length:Int)=((u.length-v.length:Nat):Int):=by omega
 have o7:=Jd eS;have vg:=n7 hv n (by omega);have abx:=kJ hv;have sL:=cY hv (show n+1<v.length by omega);have qJ:=cY hv (show n<v.length by omega);have su:v[n+1]'(by omega)=v.getD (n+1) 0:=(et _).symm;have gm:v[n]'(by omega)=v.getD n 0:=(et _).symm;have abn:32768<=v.getD (n+1) 0:=by rw[eS]at K1;exact K1
 rw[su]at sL;rw[gm]at qJ;rw[eS]at abx;have hvp:0<val v:=by rw[o7];have:0<65536^n:=KbG (by omega);have:0<(v.getD (n+1) 0*65536+v.getD n 0)*65536^n:=Nat.mul_pos (by omega) this;omega
 refine wz Qk Tryz.func167 rfl Sd (by simp[z3]) fun C hP=>?_;simp only[z3,Zo,Zg,Zm,Zc,Zf,Zl,Zh,Zs,Zi,Zb,Zk,Zn,Zu,Zq,Zr,Zz];refine Sz1 e1 ?_;refine IL (by repeat (first|exact Qx|exact Qq|exact Qr|exact Qt|exact Qu|apply Qp|apply Qw|apply Q3|apply Q8|apply Q9|apply Qn)) [(7,11),(24,105)] [7,9,10] (fun k J hp=>∃l qs,k+qs.length=u.length-v.length/\Qj l/\l.length=u.length/\Qj qs/\val (l.drop k)<val v/\val u=val l+val v*(65536^k*val qs)/\J 7= .mp 7 0 0/\
  hp 7=some ⟨1,3,[.int .i64 ((k:Int)-1)],false⟩/\hp 1000000=some ⟨1,152,bD (l++ex),false⟩/\hp 18=some ⟨1,152,bD (List.replicate k 0++qs),false⟩/\
  hp 3=some ⟨1,28,[PV.nat v],false⟩/\hp 5=some ⟨1,3,[.int .i64 v.length],false⟩) (u.length-v.length) ?_ ?_
 ·refine⟨u,[],rfl,hu,rfl,jT,aaI,by simp[val],?_⟩;refine Sz2 @true_and @and_true ?_;simp
 intro F hF;have ik:F 2= .rb 1000000 0 u.length:=by rw[hF];simp+decide (disch:=try exact D0) only[go_sem]
 have fE:F 3= .mp 3 0 0:=by rw[hF];simp+decide (disch:=try exact D0) only[go_sem]
 have fF:F 5= .mp 5 0 0:=by rw[hF];simp+decide (disch:=try exact D0) only[go_sem]
 have il:F 6= .ms 18 (u.length-v.length):=by rw[hF];simp+decide (disch:=try exact D0) only[go_sem]
 have yq:∀β,[7,9,10].contains β=true->bI β F=F:=fun β h=>by rw[hF];exact vY h
 have hk9:=yq 9 rfl;have ade:=yq 10 rfl;have yp:=yq 7 rfl;have hkk:bX [9,10] F=F:=by rw[hF];exact Xr rfl
 clear yq hF;rintro k J h ⟨l,qs,mi,hl,sC,lh,yB,dz,eA,jD,im,l7,bj,fu⟩;refine uu @eA jD @im l7 bj fu @ik @fE @fF @il ?_;refine Qb (fun hg=>?_) (fun hg=>?_)
 ·obtain _|j:=k
  ·omega
  have e2:((j+1:Nat):Int)-1=j:=by omega
  have e3:((n+2:Nat):Int)-1=((n+1:Nat):Int):=by omega
  have e4:((j+(n+2):Nat):Int)-1=((j+(n+1):Nat):Int):=by omega
  obtain⟨pre,w,post,Em,cK,iu,sI,hw,eT,Ew,hdj,K5,w0,yD,yF⟩:=TZ (n:=n) hl (by omega) (by omega) yB;have mb:=cY hl (show j+(n+2)<l.length by omega);have nN:=cY hl (show j+(n+1)<l.length by omega);have ma:=cY hl (show j+n<l.length by omega);have adi:(l++ex).length=u.length+ex.length:=by rw[KaG,sC]
  have Km:(l++ex)[j+(n+2)]'(by omega)=l.getD (j+(n+2)) 0:=by rw[Kcl (by omega)];exact(et _).symm
  have Kl:(l++ex)[j+(n+1)]'(by omega)=l.getD (j+(n+1)) 0:=by rw[Kcl (by omega)];exact(et _).symm
  rw[<-et (by omega)]at mb nN;have abm:(bD (l++ex)).take u.length=bD l:=by rw[<-List.map_take,<-sC,List.take_left]
  have KA:l++ex=pre++(w++(post++ex)):=by rw[Em];simp
  generalize l.getD (j+(n+2)) 0=w2 at *
  generalize l.getD (j+(n+1)) 0=w1 at *
  simp+decide (disch:=first|omega|rfl|(simp+decide only[go_sem,eA,jD,im,l7,bj,fu,ik,fE,fF,il,eS,e2,e3,e4,Km,Kl,su,Bp,BM,tP,mB]<;>rfl)|fail) only[go_sem,eA,jD,im,l7,bj,fu,ik,fE,fF,il,eS,e2,e3,e4,Km,Kl,su,Bp,BM,tP,mB];have adA:w.length=n+3:=iu;have aas:=LX o7 yF yD (by rw[<-et (show j+n<l.length by omega)]at ma;omega) (by omega:0<v.getD (n+1) 0);have oX:=O4 o7 yF vg K5 (KbG (by omega));have oS:=Ka9 (w2*65536+w1) (v.getD (n+1) 0);have ac6:(w2*65536+w1)/v.getD (n+1) 0<131072:=by rw[Ka5 (by omega)];omega
  have adt:=Kbl (w2*65536+w1) (by omega:0<v.getD (n+1) 0);rw[KaP]at oS;generalize hd0:(w2*65536+w1)/v.getD (n+1) 0=d0 at *
  generalize va:(w2*65536+w1)%v.getD (n+1) 0=r0 at *
  have DZ:∀(h:HP) v w,Qi (Qi h 10 v) 9 w=Qi (Qi h 9 w) 10 v:=fun h v w=>Nr 10 9 (by decide) h v w;refine QE (fun J=>J 7= .mp 7 0 0/\J 52= .int .u64 d0/\J 53= .int .u64 (w2*65536+w1:Nat)) (Tz3 @eA @true_and @and_true) ?_;clear eA;rintro J ⟨eA,DK,DL⟩;refine O5 (by repeat (first|exact Qx|exact Qq|exact Qr|exact Qt|exact Qu|apply Qp|apply Qw|apply Q3|apply Q8|apply Q9|apply Qn)) [9,10] (fun J2 bc=>J2 7= .mp 7 0 0/\J2 9= .mp 9 0 0/\J2 10= .mp 10 0 0/\bc=Qi (Qi h 9 ⟨1,115,[.int .u64 d0],false⟩) 10 ⟨1,115,[.int .u64 r0],false⟩) ?_ ?_
  ·intro F' uC;have J1:F' 3= .mp 3 0 0:=by rw[uC];simp+decide (disch:=try exact D1 fE) only[go_sem,fE]
   have J4:F' 5= .mp 5 0 0:=by rw[uC];simp+decide (disch:=try exact D1 fF) only[go_sem,fF]
   have Kw:bI 9 F'=F':=by rw[uC];exact vY rfl
   have Kv:bI 10 F'=F':=by rw[uC];exact vY rfl
   clear uC
   repeat' (first|refine iE ?_ ?_|simp+decide (disch:=first|omega|rfl|(simp+decide only[go_sem,eA,DK,DL,bj,fu,J1,J4,Kw,Kv,eS,e3,su,mB]<;>rfl)|fail) only[go_sem,eA,DK,DL,bj,fu,J1,J4,Kw,Kv,eS,e3,su,mB])
   all_goals refine Cl (J:=_) ?_
   all_goals simp+decide (disch:=try exact D5 eA va DZ true_and and_true) only[go_sem,eA,va,DZ,true_and,and_true]
  clear eA DK DL J;rintro J _ ⟨eA,kk,kj,rfl⟩;simp+decide (disch:=first|omega|rfl|(simp+decide only[go_sem,eA,kk,kj,ik,fE,fF,il,JN,List.all_cons,List.all_nil,KaE,KaC,true_and]<;>rfl)|fail) only[go_sem,eA,kk,kj,ik,fE,fF,il,JN,List.all_cons,List.all_nil,KaE,KaC,true_and];refine IL (by repeat (first|exact Qx|exact Qq|exact Qr|exact Qt|exact Qu|apply Qp|apply Qw|apply Q3|apply Q8|apply Q9|apply Qn)) [(62,77)] [] (fun m J hp=>∃d r,m=d/\d*v.getD (n+1) 0+r=w2*65536+w1/\val w<(d+1)*val v/\hp=Qi (Qi h 9 ⟨1,115,[.int .u64 d],false⟩) 10 ⟨1,115,[.int .u64 r],false⟩) d0 ?_ ?_
  ·exact⟨d0,r0,rfl,oS,aas,rfl⟩
  intro F1 sj;have yc:F1 9= .mp 9 0 0:=by rw[sj,jS];simp+decide (disch:=try exact D1 kk) only[go_sem,kk]
  have yb:F1 10= .mp 10 0 0:=by rw[sj,jS];simp+decide (disch:=try exact D1 kj) only[go_sem,kj]
  have DI:F1 11= .fn 178 [] [.mp 9 0 0,.mp 3 0 0,.mp 5 0 0,.mp 10 0 0,.rb 1000000 0 u.length,.mp 7 0 0]:=by rw[sj,jS];simp+decide (disch:=try exact D0) only[go_sem]
  have ZJ:F1 3= .mp 3 0 0:=by rw[sj,jS];simp+decide (disch:=try exact D1 fE) only[go_sem,fE]
  have ZK:F1 5= .mp 5 0 0:=by rw[sj,jS];simp+decide (disch:=try exact D1 fF) only[go_sem,fF]
  rintro d J2 _ ⟨_,r,rfl,oT,D',rfl⟩;have ac4:d<131072:=by have:d*32768<=d*v.getD (n+1) 0:=Kbk _ abn;omega
  refine Sz3 @yc @yb @DI ?_;refine Yj (by repeat (first|exact Qx|exact Qq|exact Qr|exact Qt|exact Qu|apply Qp|apply Qw|apply Q3|apply Q8|apply Q9|apply Qn)) [(62,67)] [] (fun J hp=>J 67= .bool (decide (r<65536/\(65536<=d∨r*65536+l.getD (j+n) 0<d*v.getD n 0)))/\hp=Qi (Qi h 9 ⟨1,115,[.int .u64 d],false⟩) 10 ⟨1,115,[.int .u64 r],false⟩) ?_ ?_
  ·refine ep (fun hr=>?_) (fun hr=>?_)
   ·refine Sz3 @yc @yb @DI ?_;refine Nh hP (Xt (dg:=d) (r:=r) (j:=j) hv hl hn rfl (by omega) (by omega) (by omega) (by omega)) (by simp+decide (disch:=first|omega|rfl|(simp+decide only[go_sem,dP,im,bj,fu,jD,e2,Kan,KaC,List.getElem?_cons_zero,Kbp,Kai]<;>rfl)|fail) only[go_sem,dP,im,bj,fu,jD,e2,Kan,KaC,List.getElem?_cons_zero,Kbp,Kai];simp only[Kbp,abm]) rfl rfl ?_;refine Sz1 eS ?_;refine Cl ⟨?_,rfl⟩;refine Sz0 ?_;rw[show j+(n+2)-2=j+n by omega,show n+2-2=n by omega];exact congrArg PV.bool (decide_eq_decide.2 ⟨fun h=>⟨by omega,h⟩,fun h=>h.2⟩)
   ·refine Sz3 @yc @yb @DI ?_;refine Cl ⟨?_,rfl⟩;refine Sz0 ?_;simp;omega
  rintro J3 _ ⟨ZG,rfl⟩;simp (disch:=decide) only[jS,tQ];refine Sz1 ZG ?_;refine Qb (fun ht=>?_) (fun ht=>?_)
  ·obtain⟨hr,ht⟩:=ht;have qy:val w<d*val v:=by
    rcases ht with ht|ht
    ·exact Ka7 K5 (Kal _ ht)
    ·exact O2 o7 yF yD oT ht
   obtain _|d:=d
   ·omega
   have e5:((d+1:Nat):Int)-1=(d:Nat):=by omega
   refine vJ @yc @yb @ZJ @ZK bj fu eS e3 e5 su DZ ?_;refine Qm d (by omega) ⟨d,r+v.getD (n+1) 0,rfl,?_,qy,rfl⟩;rw[Kax]at oT;omega
  have qt:d<65536:=by apply Decidable.byContradiction;intro fc;apply ht;refine⟨?_,.inl (by omega)⟩;have:65536*v.getD (n+1) 0<=d*v.getD (n+1) 0:=Kal _ (by omega);omega
  have abl:¬r*65536+l.getD (j+n) 0<d*v.getD n 0:=by
   intro aaV;by_cases hr:r<65536
   ·exact ht ⟨hr,.inr aaV⟩
   ·have:=oa qt qJ;omega
  have e5:j+(n+2)+1-j=n+3:=by omega
  subst sj;simp (disch:=decide) only[jS,hkk,tQ];refine Sz14 @eA @kk @kj @ik @fE @fF @il bj fu jD @im e2 eS e5 ?_;have vf:=Ip w v d 0 0 hw (by omega) (by omega);have yl:=Hl w v d 0 0 (by omega) (by omega) qt hv;have aW:=Hi w v d 0 0;have KW:=GD w v d 0 0;have yE:=kJ hw;rw[iu]at vf yE;refine xw hP (Xs (pre:=pre) (w:=w) (post:=post++ex) (j:=j) (m:=n+3) (q:=d) hw hv qt cK iu (by omega) (by rw[<-KA];omega)) (β:=1000000) (Tz2 @im KA) (mE _) (by simp;omega) (by simp[fJ,B0]) rfl ?_;rintro _ _ _ _ ⟨rfl,rfl⟩;generalize dH w v d 0 0=sq at *
  obtain⟨⟨vf,aX⟩,yl⟩:=And.intro vf yl;have J6:=kJ aW;rw[KW,iu]at J6;have adr:pre.length+(w.length+post.length)=u.length:=by rw[<-sC,Em];simp
  have adv:j<(List.replicate (j+1) 0++qs).length:=by simp;omega
  have K4:val l=val pre+65536^j*val w:=by rw[Em,jk,jk,Ew,cK,KbI,KaJ]
  simp+decide (disch:=first|omega|rfl|(simp+decide only[go_sem,jX,eA,kk,kj,ik,fE,fF,il]<;>rfl)|fail) only[go_sem,jX,eA,kk,kj,ik,fE,fF,il];refine Qb (fun hb=>?_) (fun hb=>?_)
  ·have cl:sq.2.2=1:=by omega
   rw[yl,cl]at vf;obtain _|d:=d
   ·omega
   have Ki:=O3 o7 yF vg (by omega) qt oT abl;obtain⟨k,hk⟩:=Io sq.1 v 0 (by omega);have qG:=Hh sq.1 v 0;have KN:=GC sq.1 v 0;rw[KW,iu]at hk KN;have KJ:=kJ qG;rw[KN]at KJ;obtain⟨DM,DN⟩:=QF (B:=65536^(n+3)) (S:=val sq.1) (e:=d) (by omega) J6 Ki (by omega) KJ yE;have e6:((d+1:Nat):Int)-1=(d:Nat):=by omega
   simp+decide (disch:=first|omega|rfl|(simp+decide only[go_sem,eA,kk,kj,ik,fE,fF,il,bj,fu,jD,im,e2,e6,eS,e5]<;>rfl)|fail) only[go_sem,eA,kk,kj,ik,fE,fF,il,bj,fu,jD,im,e2,e6,eS,e5];refine xw hP (XR (pre:=pre) (w:=sq.1) (post:=post++ex) (j:=j) (m:=n+3) aW hv cK (by omega) (by omega) (by simp;omega)) (β:=1000000) Tz0 (mE _) (by simp;omega) (by simp[fJ,B0]) rfl ?_;rintro _ _ _ _ ⟨rfl,rfl⟩;have uI:=H2 (q:=d) (R:=gF sq.1 v 0) cK Ew dz K4 DN;simp+decide (disch:=first|omega|rfl|(simp+decide only[go_sem,jX,eA,kk,kj,ik,fE,fF,il,bj,fu,jD,im,l7,e2,e6,eS,e5,xj,Kaz (by omega:d<65536),yp]<;>rfl)|fail) only[go_sem,jX,eA,kk,kj,ik,fE,fF,il,bj,fu,jD,im,l7,e2,e6,eS,e5,xj,Kaz (by omega:d<65536),yp];refine Qm j (by omega) ⟨pre++(gF sq.1 v 0++post),d::qs,by simp;omega,?_,?_,?_,?_,uI.2,?_⟩
   ·rw[jQ,jQ];exact⟨sI,qG,eT⟩
   ·simp;omega
   ·rw[eM];exact⟨by omega,lh⟩
   ·rw[uI.1];exact DM
   ·simp+decide (disch:=first|omega|rfl|(simp+decide only[go_sem,bj,fu,true_and,and_true,eS,Kbs]<;>rfl)|fail) only[go_sem,bj,fu,true_and,and_true,eS,Kbs]
  ·have cl:sq.2.2=0:=by omega
   rw[yl,cl]at vf;obtain⟨DM,DN⟩:=Ua (S:=val sq.1) (d:=d) (by omega) D';have uI:=H2 (q:=d) (R:=sq.1) cK Ew dz K4 DN;simp+decide (disch:=first|omega|rfl|(simp+decide only[go_sem,jX,eA,kk,kj,ik,fE,fF,il,bj,fu,jD,im,l7,e2,eS,e5,xj,Kaz qt,yp]<;>rfl)|fail) only[go_sem,jX,eA,kk,kj,ik,fE,fF,il,bj,fu,jD,im,l7,e2,eS,e5,xj,Kaz qt,yp];refine Qm j (by omega) ⟨pre++(sq.1++post),d::qs,by simp;omega,?_,?_,?_,?_,uI.2,?_⟩
   ·rw[jQ,jQ];exact⟨sI,aW,eT⟩
   ·simp;omega
   ·rw[eM];exact⟨qt,lh⟩
   ·rw[uI.1];exact DM
   ·simp+decide (disch:=first|omega|rfl|(simp+decide only[go_sem,bj,fu,true_and,and_true,eS,Kbs]<;>rfl)|fail) only[go_sem,bj,fu,true_and,and_true,eS,Kbs]
 ·obtain rfl:k=0:=by omega
  rw[Kbp]at yB;rw[Nat.pow_zero,Nat.one_mul]at dz;have hdiv:val u/val v=val qs:=by rw[dz,Kb4 _ _ hvp,Kcc yB,Ka0]
  have u3:val u%val v=val l:=by rw[dz,Kb2,Kaz yB]
  simp+decide (disch:=first|omega|rfl|(simp+decide only[go_sem,eA,jD,im,l7,bj,fu,ik,fE,fF,il,KaU,KaC]<;>rfl)|fail) only[go_sem,eA,jD,im,l7,bj,fu,ik,fE,fF,il,KaU,KaC];refine gX hP (eU lh (by omega)) (tw (ty:=152) (fz:=false) (by simp+decide (disch:=first|omega|rfl|(simp+decide only[go_sem,l7,KaU,KaC]<;>rfl)|fail) only[go_sem,l7,KaU,KaC]) (by omega)) rfl ?_;refine Sz0 ?_;refine Fs (xs':=bD (l++ex)) (p:=PV.num (val qs)) ?_ (mE _) (by simp;omega) Tz0 rfl ⟨by rw[hdiv],l,rfl,hl,sC,u3.symm⟩;show FW.bq h [18] 1000000=_;simp only[FW.bq];rw[if_neg (by decide),im]
theorem LL{a:List Nat}{s:Nat}(ha:Qj a)(bm:a.length<2^40)(hs:s<=15):Qd Tryz.prog 166 [PV.nat a,.int .i64 (-(s:Int))] (· =PV.num (val a/2^s)):=by
 have eB:=bP ha;unfold nl at eB;by_cases h0:val a=0
 ·refine Qf Qk Tryz.func166 rfl B3 (by simp[qb]) fun C hP=>?_;simp only[qb,Zo,Zg,Zm,Zc,Zf,Zl,Zh,Zs,Zi,Zb,Zk,Zn,Zu,Zq,Zr,Zz];refine Sz0 ?_;refine Qa hP (eU ha (by omega)) rfl rfl rfl ?_;refine Sz0 ?_;refine Q6 (fun hz=>by omega) (fun hz=>?_);refine Sz0 ?_;refine Q6 (fun hz=>by omega) (fun hz=>?_);refine Sz0 ?_;refine Qb (fun hz=>?_) (fun hz=>absurd (by rw[h0,ek];rfl) hz);refine Sz0 ?_;exact lE (tN (by simp[h0])) rfl
 by_cases qH:s=0
 ·subst qH;have:=(AL (s:=0) ha bm (by omega) h0).Lw;rw[Nat.pow_zero,Kb1]at this;rw[Nat.pow_zero,Nat.div_one];exact this
 have ku:(aj (val a)).length≠0:=fun h=>h0 (iA.1 (lA h));refine Qf Qk Tryz.func166 rfl B3 (by simp[qb]) fun C hP=>?_;simp only[qb,Zo,Zg,Zm,Zc,Zf,Zl,Zh,Zs,Zi,Zb,Zk,Zn,Zu,Zq,Zr,Zz];refine Sz0 ?_;refine Qa hP (eU ha (by omega)) rfl rfl rfl ?_;refine Sz0 ?_;refine Q6 (fun hz=>by omega) (fun hz=>?_);refine Sz0 ?_;refine Q6 (fun hz=>by omega) (fun hz=>?_);refine Sz0 ?_;refine Qb (fun hz=>by omega) (fun hz=>?_);refine Sz0 ?_;refine Qb (fun hz=>?_) (fun hz=>by omega);have e:(0:Int)- -(s:Int)=(s:Nat):=by omega
 refine Sz1 e ?_;refine Qa hP (LJ (Ql (val a)) (by omega) hs) rfl rfl rfl ?_;refine Sz1 @Qz ?_;exact Qc rfl rfl
theorem LM{x d:Nat}(hx:(aj x).length<2^42)(hd:0<d)(kW:d<65536):Qd Tryz.prog 164 [PV.num x,.int .u16 d] (· = .aJ [PV.num (x/d),.int .u16 (x%d:Nat)]):=by
 have:=XY (Ql x) hx hd kW
 rwa[Qz]at this
theorem AN{a b:List Nat}(ha:Qj a)(hb:Qj b)(bm:a.length<2^38)(dv:b.length<2^38):Qd Tryz.prog 151 [PV.nat a,PV.nat b]
  (· =if val b=0 then .aJ [PV.num 0,PV.num 0,.int .i64 3]else .aJ [PV.num (val a/val b),PV.num (val a%val b),.int .i64 0]):=by
 have eB:=bP ha;have ft:=bP hb;unfold nl at eB ft;refine Qf Qk Tryz.func151 rfl Rb (by simp[zj]) fun C hP=>?_;simp only[zj,Zo,Zg,Zm,Zc,Zf,Zl,Zh,Zs,Zi,Zb,Zk,Zn,Zu,Zq,Zr,Zz];refine Sz0 ?_;refine Qa hP (eU ha (by omega)) rfl rfl rfl ?_;refine Sz0 ?_;refine Qa hP (eU hb (by omega)) rfl rfl rfl ?_;refine Sz0 ?_;have dM:=Ql (val a);have iv:=Ql (val b);have mm:=Qz (val a);have qK:=Qz (val b);have abO:=BJ (val b);generalize val a=x at *
 generalize val b=y at *
 refine Qb (fun hz=>?_) (fun hz=>?_)
 ·have cz:y=0:=iA.1 (lA (by omega));refine Sz0 ?_;rw[if_pos cz];exact oC rfl rfl rfl rfl rA rA (cf _)
 have cz:y≠0:=fun h=>by rw[h,ek]at hz;simp at hz
 rw[if_neg cz];refine Sz0 ?_;refine Qa hP (BQ dM iv (by omega) (by omega)) rfl rfl rfl ?_;refine Sz2 mm qK ?_;refine Qb (fun hc=>?_) (fun hc=>?_)
 ·have ak:x<y:=by
   unfold fP at hc;split at hc
   ·assumption
   ·split at hc<;>omega
  refine Sz0 ?_;refine Qa hP (tv dM (by omega)) rfl rfl rfl ?_;refine Sz1 mm ?_;exact oC rfl rfl rfl rfl (tN (Kcc ak)) (od (by rw[Kaz ak])) (cf _)
 have fc:y<=x:=by unfold fP at hc;split at hc<;>omega
 refine Sz0 ?_;refine Qb (fun h1=>?_) (fun h1=>?_)
 ·obtain⟨d,hd⟩:∃d,aj y=[d]:=by
   match h:aj y,h1 with
   | [d],_=>exact⟨d,rfl⟩
   | [],h1=>simp at h1
   |_::_::_,h1=>simp at h1;omega
  have hyd:y=d:=by rw[<-qK,hd];simp[val]
  have uM:d<65536:=by rw[hd]at iv;exact iv d (by simp)
  simp+decide (disch:=first|omega|rfl|(simp+decide only[go_sem,hd,Ka3,Kbf,KaW,Kbo]<;>rfl)|fail) only[go_sem,hd,Ka3,Kbf,KaW,Kbo];refine Qa hP (LM (x:=x) (d:=d) (by omega) (by omega) uM) (by rw[PV.num];rfl) rfl rfl ?_;have hm:x%d<18446744073709551616:=by have:=Kbl x (show 0<d by omega);omega
  refine Sz0 ?_;refine Qa hP (w7 hm) rfl rfl rfl ?_;refine Sz0 ?_;rw[hyd];exact oC rfl rfl rfl rfl (cf _) (cf _) (cf _)
 obtain⟨n,hn⟩:∃n,(aj y).length=n+2:=⟨(aj y).length-2,by omega⟩
 obtain⟨m,hm⟩:∃m,(aj x).length=m+2:=by have:=eX fc;unfold nl at this;exact⟨(aj x).length-2,by omega⟩
 have e1:((n+2:Nat):Int)-1=((n+1:Nat):Int):=by omega
 have sA:(aj y)[n+1]'(by omega)≠0:=by
  intro h;apply abO;have:(aj y).getLast? =some ((aj y)[n+1]'(by omega)):=by rw[Ka6,show(aj y).length-1=n+1 by omega];exact Kaf _
  rw[this,h]
 have yH:=cY iv (show n+1<(aj y).length by omega);have ac7:val (aj y)=y:=Qz y;generalize o8:(aj y)[n+1]'(by omega)=yi at *
 have sr:=AM yH;have hbp:=Bo yH sA;obtain⟨dD,abo⟩:=LK _ yi rfl sA yH;obtain⟨s,hs,o6⟩:∃s,16-Lib.bitLen yi=s/\s<=15:=⟨_,rfl,by omega⟩
 refine Sz3 hn e1 o8 ?_;refine Qa hP (Xd yH) rfl rfl rfl ?_;refine Sz1 hs ?_;have hso:=AL (a:=aj x) (s:=s) dM (by omega) o6 (by rw[mm];omega);refine TU hP hso rfl rfl rfl (by decide) ?_;rintro _ _ rfl;rw[mm];have hDl:(aj (x*2^s)).length<=m+3:=by have h1:=lK x (2^s);have h2:nl (2^s)<=1:=jr.2 (by have:2^s<=2^15:=KaV (by omega) o6;omega);unfold nl at h1 h2;omega
 have acS:m+2<=(aj (x*2^s)).length:=by have:=eX (show x<=x*2^s from Nat.le_mul_of_pos_right _ (KbG (by omega)));unfold nl at this;omega
 refine Sz1 hm ?_;rw[Bj (ys:=bD [0,0]) (xs:=bD (aj (x*2^s))) (by simp+decide (disch:=first|omega|rfl|(simp+decide only[go_sem,fK]<;>rfl)|fail) only[go_sem,fK];rfl) Tz0 (by omega) (by simp) (by simp;omega) (by simp;omega)];rw[Kai (by simp),<-List.map_append];simp+decide (disch:=first|omega|rfl|(simp+decide only[go_sem,hm,KaW,Kbo]<;>rfl)|fail) only[go_sem,hm,KaW,Kbo];have KY:=(AL (a:=aj y) (s:=s) iv (by omega) o6 (by rw[qK];omega)).Lw;rw[qK]at KY;refine Qa hP KY rfl rfl rfl ?_;obtain⟨g1,g2⟩:=Nu o6 (by rw[show 16-s=Lib.bitLen yi by omega];exact dD) (by rw[show 16-s=Lib.bitLen yi by omega];exact abo);obtain⟨J7,ZW,ZV⟩:=Yk hn o8 g1 g2;have eD:n<=m:=by have:=eX fc;unfold nl at this;omega
 obtain⟨u,ex,K2,EC,hu3,hu4,hu5,hu6⟩:=XV (s:=s) hm o6 eD ZV;have aat:x*2^s/(y*2^s)=x/y:=Nat.mul_div_mul_right _ _ (KbG (by omega));have aau:x*2^s%(y*2^s)=x%y*2^s:=Nat.mul_mod_mul_right _ _ _;rw[K2];refine Sz0 ?_;have Ky:=NK (u:=u) (v:=aj (y*2^s)) (ex:=ex) hu3 (Ql _) (by omega) (by omega) (by rw[J7];exact ZW) (by rw[J7,EC,Qz];exact hu6) (by omega);rw[EC,hu4,Qz,aat,aau]at Ky;refine xw hP Ky (β:=52) Tz0 (mE _) (by simp;omega) (by simp[fJ]) rfl ?_;rintro _ _ _ _ ⟨rfl,l,rfl,nN,mb,hl3⟩;have e5:IntKind.i64.wrap (0-(s:Int))= -(s:Int):=by rw[pE (by omega) (by omega)];omega
 have cy:(bD (l++ex)).take (m+2+1)=bD l:=by rw[<-List.map_take,show m+2+1=l.length by omega,List.take_left]
 simp+decide (disch:=first|omega|rfl|(simp+decide only[go_sem,jX]<;>rfl)|fail) only[go_sem,jX];refine gX hP (eU nN (by omega)) (by simp[Qy,bS,aF,Qi,<-List.map_append,cy]) rfl ?_;refine Sz1 e5 ?_;rw[hl3];have KS:=LL (a:=aj (x%y*2^s)) (s:=s) (Ql _) (by have:=eX (show x%y*2^s<=x*2^s from Kal _ (Nat.mod_le _ _));unfold nl at this;omega) o6;rw[Qz,Nat.mul_div_cancel _ (KbG (by omega))]at KS;refine Qa hP KS rfl rfl rfl ?_;refine Sz0 ?_;exact oC rfl rfl rfl rfl (cf _) (cf _) (cf _)
theorem IX{a b:List Nat}(ha:Qj a)(hb:Qj b)(bm:a.length<2^38)(dv:b.length<2^38):Qd Tryz.prog 113 [PV.nat a,PV.nat b] (· =PV.num (Nat.gcd (val a) (val b))):=by
 have eB:=bP ha;have ft:=bP hb;unfold nl at eB ft;refine Qf Qk Tryz.func113 rfl RR (by simp[zp]) fun C hP=>?_;simp only[zp,Zo,Zg,Zm,Zc,Zf,Zl,Zh,Zs,Zi,Zb,Zk,Zn,Zu,Zq,Zr,Zz];refine Sz0 ?_;refine Qa hP (tv ha (by omega)) rfl rfl rfl ?_;refine Sz0 ?_;refine Qa hP (tv hb (by omega)) rfl rfl rfl ?_;refine Sz0 ?_;refine Q5 (by repeat (first|exact Qx|exact Qq|exact Qr|exact Qt|exact Qu|apply Qp|apply Qw|apply Q3|apply Q8|apply Q9|apply Qn)) [(0,1),(4,11),(16,49)] [] (fun m J hp=>∃x y,m=y/\Nat.gcd x y=Nat.gcd (val a) (val b)/\(aj x).length<2^38/\(aj y).length<2^38/\J 0=PV.num x/\J 1=PV.num y/\hp=au) (val b) ?_ ?_
 ·refine⟨val a,val b,rfl,rfl,by omega,by omega,?_⟩;exact Tz2 @true_and @and_true
 rintro y J _ ⟨x,_,rfl,hg,hx,hy,h0,h1,rfl⟩;generalize Nat.gcd (val a) (val b)=g at *
 refine Sz2 h0 h1 ?_;refine Qb (fun hc=>?_) (fun hc=>?_)
 ·have cz:y≠0:=fun h=>by rw[h,ek]at hc;simp at hc
  have u3:(aj (x%y)).length<2^38:=by have:=eX (Nat.le_of_lt (Kbl x (Ka8 cz)));unfold nl at this;omega
  refine Sz2 h0 h1 ?_;refine Qa hP (BA (Ql x) (by omega)) rfl rfl rfl ?_;refine Sz2 h0 h1 ?_;rw[Qz];by_cases dT:nl x<=4
  ·have sM:=wy.1 dT;rw[if_pos dT];refine Sz2 h0 h1 ?_;refine Qa hP (BA (Ql y) (by omega)) rfl rfl rfl ?_;rw[Qz];by_cases dx:nl y<=4
   ·have mo:=wy.1 dx;rw[if_pos dx];refine Sz2 h0 h1 ?_;refine Q5 (by repeat (first|exact Qx|exact Qq|exact Qr|exact Qt|exact Qu|apply Qp|apply Qw|apply Q3|apply Q8|apply Q9|apply Qn)) [(5,5),(7,7),(33,38)] [] (fun m J hp=>∃p q,m=q/\Nat.gcd p q=g/\p<18446744073709551616/\q<18446744073709551616/\J 5= .int .u64 p/\J 7= .int .u64 q/\hp=au) y ?_ ?_
    ·refine⟨x,y,rfl,hg,sM,mo,?_⟩;exact Tz2 @true_and @and_true
    rintro q J2 _ ⟨p,_,rfl,gm,eJ,bc,h5,h7,rfl⟩;refine Sz2 h5 h7 ?_;refine Qb (fun hq=>?_) (fun hq=>?_)
    ·have gJ:0<q:=by omega
     refine Sz3 h5 h7 @mB ?_;refine Qm (p%q) (Kbl _ gJ) ⟨q,p%q,rfl,?_,bc,?_,?_⟩
     ·rw[<-gm,Kch p q,Nat.gcd_rec q p,Kch]
     ·have:=Kbl p gJ;omega
     ·exact Tz2 @true_and @and_true
    ·obtain rfl:q=0:=by omega
     refine Sz2 h5 h7 ?_;refine Qa hP (w7 eJ) rfl rfl rfl ?_;refine Sz0 ?_;exact Qc (by rw[<-gm,Kcn]) rfl
   ·rw[if_neg dx];refine Sz2 h0 h1 ?_;refine Qa hP (AN (Ql x) (Ql y) (by omega) (by omega)) rfl rfl rfl ?_;rw[Qz,Qz,if_neg cz];refine Sz2 h0 h1 ?_;refine Qm (x%y) (Kbl _ (Ka8 cz)) ⟨y,x%y,rfl,?_,hy,u3,?_⟩
    ·rw[<-hg,Kch x y,Nat.gcd_rec y x,Kch]
    ·exact Tz2 @true_and @and_true
  ·rw[if_neg dT];refine Sz2 h0 h1 ?_;refine Qa hP (BA (Ql y) (by omega)) rfl rfl rfl ?_;obtain⟨r1,r2,hr⟩:∃r1 r2,(if nl (val (aj y))<=4 then PV.aJ [.int .u64 (val (aj y)),.bool true]else .aJ [.int .u64 0,.bool false])= .aJ [.int .u64 r1,.bool r2]:=by split<;>exact⟨_,_,rfl⟩
   rw[hr];refine Sz2 h0 h1 ?_;refine Qa hP (AN (Ql x) (Ql y) (by omega) (by omega)) rfl rfl rfl ?_;rw[Qz,Qz,if_neg cz];refine Sz2 h0 h1 ?_;refine Qm (x%y) (Kbl _ (Ka8 cz)) ⟨y,x%y,rfl,?_,hy,u3,?_⟩
   ·rw[<-hg,Kch x y,Nat.gcd_rec y x,Kch]
   ·exact Tz2 @true_and @and_true
 ·have cz:y=0:=iA.1 (lA (by omega));subst cz;refine Sz1 h0 ?_;exact Qc (by rw[<-hg,Kcn]) rfl
theorem rf(n:Bool)(x:Nat):Qd Tryz.prog 155 [.bool n,PV.num x] (· =PV.zz (if n then -(x:Int)else x)):=by
 refine Qf Qk Tryz.func155 rfl RX (by simp[zL]) fun C hP=>?_;simp only[zL,Zo,Zg,Zm,Zc,Zf,Zl,Zh,Zs,Zi,Zb,Zk,Zn,Zu,Zq,Zr,Zz];refine Sz0 ?_;refine ra (fun hn=>?_) (fun hn=>?_)
 all_goals
  refine Sz0 ?_;refine cF ?_;refine Sz0 ?_;exact Qc (by rw[<-BY,hn];simp) rfl
theorem NL{n:Bool}{a:List Nat}(ha:Qj a)(bm:a.length<2^42):Qd Tryz.prog 196 [.bool n,PV.nat a] (· =PV.zz (zv n a)):=by
 refine Qf Qk Tryz.func196 rfl RW (by simp[zs]) fun C hP=>?_;simp only[zs,Zo,Zg,Zm,Zc,Zf,Zl,Zh,Zs,Zi,Zb,Zk,Zn,Zu,Zq,Zr,Zz];refine Sz0 ?_;refine Qa hP (tv ha bm) rfl rfl rfl ?_;refine Sz0 ?_;refine ra (fun hn=>?_) (fun hn=>?_)
 all_goals
  refine Sz0 ?_;refine cF ?_;refine Sz0 ?_;exact Qc (by have:=BY n (val a);rw[hn]at this;subst hn;simpa[zv]using this) rfl
theorem X2{n:Bool}{a:List Nat}(ha:Qj a)(bm:a.length<2^42):Qd Tryz.prog 194 [PV.zi n a] (· =PV.zz (zv n a)):=by refine Qf Qk Tryz.func194 rfl RZ (by simp[zN]) fun C hP=>?_;simp only[zN,Zo,Zg,Zm,Zc,Zf,Zl,Zh,Zs,Zi,Zb,Zk,Zn,Zu,Zq,Zr,Zz];refine Sz0 ?_;refine Qa hP (NL ha bm) rfl rfl rfl ?_;refine Sz0 ?_;refine cF ?_;refine Sz0 ?_;exact Qc rfl rfl
theorem X3{n:Bool}{a:List Nat}(ha:Qj a)(bm:a.length<2^40):Qd Tryz.prog 171 [PV.zi n a] (· = .int .i64 (gA (zv n a))):=by
 refine Qf Qk Tryz.func171 rfl R1 (by simp[zP]) fun C hP=>?_;simp only[zP,Zo,Zg,Zm,Zc,Zf,Zl,Zh,Zs,Zi,Zb,Zk,Zn,Zu,Zq,Zr,Zz];refine Sz0 ?_;refine gW hP (HH ha bm) rfl rfl rfl ?_;rintro _ ⟨k,rfl,hk⟩;refine Sz0 ?_;rw[Uc];refine Qb (fun hz=>?_) (fun hz=>?_)
 ·refine Sz0 ?_;rw[if_pos (hk.1 (by omega))];exact Qc rfl rfl
 ·rw[if_neg (fun h=>hz (by rw[hk.2 h];rfl))];refine Sz0 ?_;refine tk (fun hn=>?_) (fun hn=>?_)
  ·refine Sz0 ?_;exact Qc (by simp[hn]) rfl
  ·refine Sz0 ?_;exact Qc (by simp[hn]) rfl
theorem Hs{n m:Bool}{a b:List Nat}(ha:Qj a)(hb:Qj b)(bm:a.length<2^40)(dv:b.length<2^40):Qd Tryz.prog 195 [PV.zi n a,PV.zi m b] (· =PV.zz (zv n a+zv m b)):=by
 refine Qf Qk Tryz.func195 rfl R2 (by simp[zQ]) fun C hP=>?_;simp only[zQ,Zo,Zg,Zm,Zc,Zf,Zl,Zh,Zs,Zi,Zb,Zk,Zn,Zu,Zq,Zr,Zz];refine Sz0 ?_;refine tk (fun eD=>?_) (fun eD=>?_)
 ·have eD:n=m:=by simpa using eD
  subst eD;refine Sz0 ?_;refine Qa hP (Pr ha hb bm dv) rfl rfl rfl ?_;refine Sz0 ?_;refine Qa hP (rf n (val a+val b)) rfl rfl rfl ?_;refine Sz0 ?_;refine cF ?_;refine Sz0 ?_;exact Qc (congrArg PV.zz (by unfold zv;split<;>simp<;>omega)) rfl
 have eD:n= !m:=by cases n<;>cases m<;>simp_all
 subst eD;refine Sz0 ?_;refine Qa hP (BQ ha hb bm dv) rfl rfl rfl ?_;refine Sz0 ?_;refine Qb (fun hc=>?_) (fun hc=>?_)
 ·rw[wU]at hc;refine Sz0 ?_;refine Qa hP (IW hb ha dv bm (by omega)) rfl rfl rfl ?_;refine Sz0 ?_;refine Qa hP (rf m (val b-val a)) rfl rfl rfl ?_;refine Sz0 ?_;refine cF ?_;refine Sz0 ?_;exact Qc (congrArg PV.zz (by unfold zv;cases m<;>simp<;>omega)) rfl
 ·rw[wU]at hc;refine Sz0 ?_;refine Qa hP (IW ha hb bm dv (by omega)) rfl rfl rfl ?_;refine Sz0 ?_;refine Qa hP (rf (!m) (val a-val b)) rfl rfl rfl ?_;refine Sz0 ?_;refine cF ?_;refine Sz0 ?_;exact Qc (congrArg PV.zz (by unfold zv;cases m<;>simp<;>omega)) rfl
theorem te{n m:Bool}{a b:List Nat}(ha:Qj a)(hb:Qj b)(bm:a.length<2^40)(dv:b.length<2^40):Qd Tryz.prog 182 [PV.zi n a,PV.zi m b] (· =PV.zz (zv n a*zv m b)):=by refine Qf Qk Tryz.func182 rfl R3 (by simp[zR]) fun C hP=>?_;simp only[zR,Zo,Zg,Zm,Zc,Zf,Zl,Zh,Zs,Zi,Zb,Zk,Zn,Zu,Zq,Zr,Zz];refine Sz0 ?_;refine Qa hP (wY ha hb bm dv) rfl rfl rfl ?_;refine Sz0 ?_;refine Qa hP (rf (!(n==m)) (val a*val b)) rfl rfl rfl ?_;refine Sz0 ?_;refine cF ?_;refine Sz0 ?_;exact Qc (congrArg PV.zz (by unfold zv;cases n<;>cases m<;>simp[Int.neg_mul,Int.mul_neg])) rfl
theorem wZ{a:List Nat}(hl:a.length<2^43):Qd Tryz.prog 112 [PV.nat a] (· = .bool (decide (a=[1]))):=by
 refine Qf Qk Tryz.func112 rfl R4 (by simp[zS]) fun C hP=>?_;simp only[zS,Zo,Zg,Zm,Zc,Zf,Zl,Zh,Zs,Zi,Zb,Zk,Zn,Zu,Zq,Zr,Zz];refine Sz0 ?_;refine Qb (fun hz=>?_) (fun hz=>?_)
 ·obtain⟨x,xs,rfl⟩:∃x xs,a=x::xs:=by
   match a,hz with
   |x::xs,_=>exact⟨x,xs,rfl⟩
  simp+decide (disch:=first|omega|rfl|(simp+decide only[go_sem,Ka3,List.getElem_cons_zero]<;>rfl)|fail) only[go_sem,Ka3,List.getElem_cons_zero];refine Qc (congrArg PV.bool ?_) rfl;rw[<-Bool.decide_and];exact decide_eq_decide.2 ⟨fun⟨h1,h2⟩=>by
   have:xs=[]:=Kas.1 (by omega);subst this;congr 1;omega,fun h=>by
   injection h with h1 h2;subst h1 h2;simp⟩
 ·have:a=[]:=Kas.1 (by omega);subst this;refine Sz0 ?_;exact Qc rfl rfl
theorem GO(x:Nat):(aj x=[1])↔x=1:=⟨fun h=>by have:=Qz x;rw[h]at this;simpa[val]using this.symm,fun h=>by rw[h,ni]⟩
theorem B4{x:Nat}(hl:(aj x).length<2^43):Qd Tryz.prog 112 [PV.num x] (· = .bool (decide (x=1))):=by
 have:=wZ hl
 rwa[decide_eq_decide.2 (GO x)]at this
theorem wF:Qd Tryz.prog 119 [] (· =PV.nat [1]):=by refine Qf Qk Tryz.func119 rfl R5 (by simp[zT]) fun C hP=>?_;simp only[zT,Zo,Zg,Zm,Zc,Zf,Zl,Zh,Zs,Zi,Zb,Zk,Zn,Zu,Zq,Zr,Zz];refine Sz0 ?_;exact Qc rfl rfl
theorem Ht{x y:Nat}(hx:(aj x).length<2^38)(hy:(aj y).length<2^38)(h0:y≠0):Qd Tryz.prog 151 [PV.num x,PV.num y] (· = .aJ [PV.num (x/y),PV.num (x%y),.int .i64 0]):=by
 have:=AN (Ql x) (Ql y) hx hy
 rwa[Qz,Qz,if_neg h0]at this
theorem Se{x y:Nat}(hx:(aj x).length<2^38)(hy:(aj y).length<2^38):Qd Tryz.prog 113 [PV.num x,PV.num y] (· =PV.num (Nat.gcd x y)):=by
 have:=IX (Ql x) (Ql y) hx hy
 rwa[Qz,Qz]at this
theorem XS{n:Bool}{a d:List Nat}(ha:Qj a)(hd:Qj d)(bm:a.length<2^38)(qx:d.length<2^38):Qd Tryz.prog 181 [PV.zi n a,PV.nat d] (· =PV.rat (rv n a d)):=by
 have ks:=bP ha;have Es:=bP hd;rw[<-jU n a]at ks;unfold rv;unfold nl at ks Es;refine Qf Qk Tryz.func181 rfl R6 (by simp[zU]) fun C hP=>?_;simp only[zU,Zo,Zg,Zm,Zc,Zf,Zl,Zh,Zs,Zi,Zb,Zk,Zn,Zu,Zq,Zr,Zz];refine Sz0 ?_;refine Qa hP (tv hd (by omega)) rfl rfl rfl ?_;refine Sz0 ?_;refine Qa hP (X2 ha (by omega)) rfl rfl rfl ?_;refine Sz0 ?_;generalize zv n a=z at *
 generalize val d=D at *
 have hlen:∀x:Nat,((aj x).length:Int)=0↔x=0:=fun x=>by rw[<-iA,<-List.length_eq_zero_iff];omega
 have JU:∀ {fr:Fr} {hp:HP},(D=0∨z=0)->pU (· =PV.rat (mkRat z D)) (.agg [.bool false,.aa,PV.nat [1]]):=fun h=>by rw[GH h];exact lE Je rfl
 refine Q6 (fun hz=>?_) (fun hz=>?_)
 ·refine Sz0 ?_;refine Qa hP wF rfl rfl rfl ?_;refine Sz0 ?_;refine cF ?_;refine Sz0 ?_;exact JU (fr:=aY) (hp:=au) (.inl ((hlen _).1 hz))
 refine Sz0 ?_;refine Qb (fun yI=>?_) (fun yI=>?_)
 ·refine Sz0 ?_;refine Qa hP wF rfl rfl rfl ?_;refine Sz0 ?_;refine cF ?_;refine Sz0 ?_;exact JU (fr:=aY) (hp:=au) (.inr (Int.natAbs_eq_zero.1 ((hlen _).1 yI)))
 have hD:D≠0:=fun h=>hz ((hlen _).2 h);refine Sz0 ?_;refine Qa hP (B4 (by omega)) rfl rfl rfl ?_;refine Sz0 ?_;refine Qb (fun h1=>?_) (fun h1=>?_)
 ·subst h1;refine Sz0 ?_;refine cF ?_;refine Sz0 ?_;exact Qc (by rw[<-WG];simp only[ni]) rfl
 refine Sz0 ?_;refine Qa hP (Se (by omega) (by omega)) rfl rfl rfl ?_;have kZ:Nat.gcd z.natAbs D≠0:=fun h=>hD (Nat.eq_zero_of_gcd_eq_zero_right h);have qv:(aj (Nat.gcd z.natAbs D)).length<2^38:=by have:=eX (Kcs z.natAbs (Ka8 hD));unfold nl at this;omega
 have cM:=Fw (z:=z) hD;generalize Nat.gcd z.natAbs D=g at *
 refine Sz0 ?_;refine Qa hP (B4 (by omega)) rfl rfl rfl ?_;refine Sz0 ?_;refine tk (fun h2=>?_) (fun h2=>?_)
 ·refine Sz0 ?_;refine Qa hP (Ht (by omega) qv kZ) rfl rfl rfl ?_;refine Sz0 ?_;refine Qa hP (Ht (by omega) qv kZ) rfl rfl rfl ?_;refine Sz0 ?_;refine cF ?_;refine Sz0 ?_;exact Qc cM rfl
 ·have:g=1:=by simpa using h2
  subst this;rw[Nat.div_one,Nat.div_one]at cM;refine Sz0 ?_;refine cF ?_;refine Sz0 ?_;exact Qc cM rfl
theorem wh(a:List Nat):Qd Tryz.prog 191 [PV.nat a] (· =PV.zi false a):=by refine Qf Qk Tryz.func191 rfl R8 (by simp[zW]) fun C hP=>?_;simp only[zW,Zo,Zg,Zm,Zc,Zf,Zl,Zh,Zs,Zi,Zb,Zk,Zn,Zu,Zq,Zr,Zz];refine Sz0 ?_;refine cF ?_;refine Sz0 ?_;exact Qc rfl rfl
def UF(k:Nat)(q:Rat)(r:PV):Prop:=∃n a d,r= .aJ [PV.zi n a,PV.nat d]/\Qj a/\Qj d/\a.length<=k/\d.length<=k/\val d≠0/\rv n a d=q
theorem tf{n:Bool}{a d:List Nat}{k:Nat}(ha:Qj a)(hd:Qj d)(hk:1<=k)(bm:a.length<=k)(qx:d.length<=k)(oY:k<2^38):Qd Tryz.prog 170 [PV.rr n a d] (UF k (rv n a d)):=by
 refine Qf Qk Tryz.func170 rfl R7 (by simp[zV]) fun C hP=>?_;simp only[zV,Zo,Zg,Zm,Zc,Zf,Zl,Zh,Zs,Zi,Zb,Zk,Zn,Zu,Zq,Zr,Zz];refine Sz0 ?_;refine gW hP (HH hd (by omega)) rfl rfl rfl ?_;rintro _ ⟨b,rfl,hb⟩;refine Sz0 ?_;refine Qb (fun hz=>?_) (fun hz=>?_)
 ·have h0:val d=0:=hb.1 (by omega);refine Sz0 ?_;refine Qa hP wF rfl rfl rfl ?_;refine Sz0 ?_;refine uj ?_;refine Sz0 ?_;refine⟨⟨rfl,rfl⟩,.aJ [PV.zi false [],PV.nat [1]],⟨⟨rfl,trivial,trivial⟩,cf _,trivial⟩,false,[],[1],rfl,jT,by intro x hx;simp at hx;omega,by simp,by simpa using hk,by simp[val],?_⟩;unfold rv;rw[h0,Rat.mkRat_zero];rfl
 ·have h0:val d≠0:=fun h=>hz (by rw[hb.2 h];rfl);refine Sz0 ?_;refine iE ?_ ?_
  all_goals
   refine Sz0 ?_;refine uj ?_;refine Sz0 ?_;exact⟨⟨rfl,rfl⟩,.aJ [PV.zi n a,PV.nat d],⟨cf _,cf _,trivial⟩,n,a,d,rfl,ha,hd,bm,qx,h0,rfl⟩
theorem Ps{z:Int}{m:Bool}{b:List Nat}(hb:Qj b)(bm:nl z.natAbs<2^40)(dv:b.length<2^40):Qd Tryz.prog 195 [PV.zz z,PV.zi m b] (· =PV.zz (z+zv m b)):=by
 have:=Hs (n:=decide (z<0)) (a:=aj z.natAbs) (m:=m) (Ql _) hb bm dv
 rwa[kN]at this
theorem IY{n m:Bool}{a b:List Nat}(ha:Qj a)(hb:Qj b)(bm:a.length<2^39)(dv:b.length<2^39):Qd Tryz.prog 190 [.sl 2 [PV.zi n a,PV.zi m b]] (· =PV.zz (zv n a+zv m b)):=by
 have ks:=bP ha;rw[<-jU n a]at ks;refine Qf Qk Tryz.func190 rfl Sa (by simp[zY]) fun C hP=>?_;simp only[zY,Zo,Zg,Zm,Zc,Zf,Zl,Zh,Zs,Zi,Zb,Zk,Zn,Zu,Zq,Zr,Zz];refine Sz0 ?_;refine Q5 (by repeat (first|exact Qx|exact Qq|exact Qr|exact Qt|exact Qu|apply Qp|apply Qw|apply Q3|apply Q8|apply Q9|apply Qn)) [(5,5),(8,15)] [5] (fun k J hp=>∃i,k=2-i/\i<=2/\J 8= .int .i64 (i:Nat)/\hp 2=some ⟨2,30,[.agg [.bool false,.aa]],false⟩/\hp 3=some ⟨2,30,[if i=0 then .agg [.bool false,.aa]else if i=1 then PV.zz (zv n a)else PV.zz (zv n a+zv m b)],false⟩) 2 ?_ ?_
 ·refine⟨0,rfl,by omega,?_⟩;refine Sz0 ?_;simp
 rintro _ J h ⟨i,rfl,hi,h8,oW,bj⟩;refine Sz1 h8 ?_;refine Qb (fun hg=>?_) (fun hg=>?_)
 ·have kq:i=0∨i=1:=by have:i<2:=(by omega);omega
  rcases kq with rfl|rfl
  ·have uB:J 8= .int .i64 0:=h8;refine Sz3 uB oW bj ?_;refine Qa hP ((Hs (n:=false) (a:=[]) (m:=n) (b:=a) jT ha (by simp) (by omega)).le (args':=[.agg [.bool false,.aa],PV.zi n a]) ⟨⟨rfl,trivial,trivial⟩,cf _,trivial⟩) rfl rfl rfl ?_;refine Sz3 uB oW bj ?_;refine Qm 1 (by omega) ⟨1,rfl,by omega,?_⟩;refine Sz2 oW bj ?_;simp[zv,val]
  ·rw[if_neg (by omega),if_pos rfl]at bj;have uB:J 8= .int .i64 1:=h8;refine Sz3 uB oW bj ?_;refine Qa hP (Ps (z:=zv n a) hb (by omega) (by omega)) rfl rfl rfl ?_;refine Sz3 uB oW bj ?_;refine Qm 0 (by omega) ⟨2,rfl,by omega,?_⟩;refine Sz2 oW bj ?_;simp
 ·obtain rfl:i=2:=by simp at hg;omega
  rw[if_neg (by omega),if_neg (by omega)]at bj;refine Sz3 h8 oW bj ?_;refine cF ?_;refine Sz2 oW bj ?_;exact Qc rfl rfl
theorem wj{z:Int}{d:List Nat}(hd:Qj d)(hz:nl z.natAbs<2^38)(qx:d.length<2^38):Qd Tryz.prog 181 [PV.zz z,PV.nat d] (· =PV.rat (mkRat z (val d))):=by
 have:=XS (n:=decide (z<0)) (Ql z.natAbs) hd hz qx
 rwa[rv,kN]at this
theorem FG{x y:Int}(hx:nl x.natAbs<2^39)(hy:nl y.natAbs<2^39):Qd Tryz.prog 190 [.sl 2 [PV.zz x,PV.zz y]] (· =PV.zz (x+y)):=by
 have:=IY (n:=decide (x<0)) (m:=decide (y<0)) (Ql x.natAbs) (Ql y.natAbs) hx hy
 rwa[kN,kN]at this
structure Raw(k:Nat)(n:Bool)(a d:List Nat):Prop where
 la:Qj a
 ld:Qj d
 sa:a.length<=k
 sd:d.length<=k
 k1:1<=k
theorem jo{q:Rat}{k:Nat}(h:rs q<=k):Raw k (decide (q.num<0)) (aj q.num.natAbs) (aj q.den):=by
 have:=Fy q;unfold rs nl at *
 exact⟨Ql _,Ql _,by omega,by omega,by omega⟩
theorem Raw.rs{n:Bool}{a d:List Nat}{k:Nat}(h:Raw k n a d):FW.rs (rv n a d)<=k:=Uh (k:=k) (n:=k) h.la h.ld h.sa h.sd h.k1
theorem NM{n m:Bool}{a d b c:List Nat}{k:Nat}(hp:Raw k n a d)(hq:Raw k m b c)(hk:k<2^36):Qd Tryz.prog 173 [PV.rr n a d,PV.rr m b c] (· =PV.rat (rv n a d+rv m b c)):=by
 refine Qf Qk Tryz.func173 rfl Sb (by simp[zZ]) fun C hP=>?_;simp only[zZ,Zo,Zg,Zm,Zc,Zf,Zl,Zh,Zs,Zi,Zb,Zk,Zn,Zu,Zq,Zr,Zz];refine Sz0 ?_;refine gW hP (tf hp.la hp.ld hp.k1 hp.sa hp.sd (by omega)) rfl rfl rfl ?_;rintro _ ⟨n',a',d',rfl,g1,g2,g3,g4,g5,g6⟩;refine Sz0 ?_;refine gW hP (tf hq.la hq.ld hq.k1 hq.sa hq.sd (by omega)) rfl rfl rfl ?_;rintro _ ⟨m',b',c',rfl,e1,e2,e3,e4,e5,e6⟩;refine Sz0 ?_;refine Qa hP (wZ (by omega)) rfl rfl rfl ?_;have key:=Rat.mkRat_add_mkRat (zv n' a') (zv m' b') g5 e5;have hza:nl (zv n' a').natAbs<=k:=by rw[jU];exact KaY (bP g1) g3
 have hzb:nl (zv m' b').natAbs<=k:=by rw[jU];exact KaY (bP e1) e3
 have hvd:nl (val d')<=k:=KaY (bP g2) g4;have vj:nl (val c')<=k:=KaY (bP e2) e4;rw[<-g6,<-e6];unfold rv;rw[key];refine Sz0 ?_;refine ep (fun h1=>?_) (fun h1=>?_)
 ·refine Sz0 ?_;refine Qa hP (wZ (by omega)) rfl rfl rfl ?_;refine Sz0 ?_;refine Qb (fun h2=>?_) (fun h2=>?_)
  ·subst h1 h2;refine Sz0 ?_;refine gX hP (IY (n:=n') (m:=m') g1 e1 (by omega) (by omega)) ie rfl ?_;refine cC ?_;have hs:=s0 (zv n' a') (zv m' b');refine Qa hP (wj g2 (by omega) (by omega)) rfl rfl rfl ?_;refine cC ?_;refine cF ?_;refine cC ?_;exact Qc (congrArg PV.rat (by simp[val])) rfl
  ·refine Sz0 ?_;refine Qa hP (wh _) rfl rfl rfl ?_;refine Sz0 ?_;refine Qa hP (te (n:=n') (m:=false) g1 e2 (by omega) (by omega)) rfl rfl rfl ?_;refine Sz0 ?_;refine Qa hP (wh _) rfl rfl rfl ?_;refine Sz0 ?_;refine Qa hP (te (n:=m') (m:=false) e1 g2 (by omega) (by omega)) rfl rfl rfl ?_;rw[tx,tx];have h3:=jP (zv n' a') (val c');have h4:=jP (zv m' b') (val d');have h5:=s0 (zv n' a'*(val c':Int)) (zv m' b'*(val d':Int));have h6:=lK (val d') (val c');rw[KbN]at h3 h4;refine Sz0 ?_;refine gX hP (FG (x:=zv n' a'*(val c':Int)) (y:=zv m' b'*(val d':Int)) (by omega) (by omega)) ie rfl ?_;refine cC ?_;refine Qa hP (wY g2 e2 (by omega) (by omega)) rfl rfl rfl ?_;refine cC ?_;refine Qa hP (wj (z:=zv n' a'*(val c':Int)+zv m' b'*(val d':Int)) (Ql _) (by omega) (by show nl _<_;omega)) rfl rfl rfl ?_;refine cC ?_;refine cF ?_;refine cC ?_;exact Qc (by rw[Qz]) rfl
 · simp+decide (disch:=try exact D0) only[go_sem]
   refine Qa hP (wh _) rfl rfl rfl ?_;refine Sz0 ?_;refine Qa hP (te (n:=n') (m:=false) g1 e2 (by omega) (by omega)) rfl rfl rfl ?_;refine Sz0 ?_;refine Qa hP (wh _) rfl rfl rfl ?_;refine Sz0 ?_;refine Qa hP (te (n:=m') (m:=false) e1 g2 (by omega) (by omega)) rfl rfl rfl ?_;rw[tx,tx];have h3:=jP (zv n' a') (val c');have h4:=jP (zv m' b') (val d');have h5:=s0 (zv n' a'*(val c':Int)) (zv m' b'*(val d':Int));have h6:=lK (val d') (val c');rw[KbN]at h3 h4;refine Sz0 ?_;refine gX hP (FG (x:=zv n' a'*(val c':Int)) (y:=zv m' b'*(val d':Int)) (by omega) (by omega)) ie rfl ?_;refine cC ?_;refine Qa hP (wY g2 e2 (by omega) (by omega)) rfl rfl rfl ?_;refine cC ?_;refine Qa hP (wj (z:=zv n' a'*(val c':Int)+zv m' b'*(val d':Int)) (Ql _) (by omega) (by show nl _<_;omega)) rfl rfl rfl ?_;refine cC ?_;refine cF ?_;refine cC ?_;exact Qc (by rw[Qz]) rfl
end Go.Proofs.YtonjiljafkiikaaGreat
namespace Go.FW
open Go
variable {C : Ctx} {ρ : Nat -> Option Nat} {fr aq : Fr} {hp hp' : HP} {w w' : World} {K R : Qg}
theorem UG{P:Program}{pr:Bool}(hP:C.P=P){g:FuncId}{args aM:List PV}{d:Option Nat}{G:Fr}{au:HP}{aP:PV->Fr->HP->Prop}(h:rF P g aM G au aP)(gv:Nat->Option Nat)(τ:Nat->Nat)(hh:nF C hp au gv)
  (vo:∀β γ,gv β=some γ->τ γ=β) (cr:args.map (cd τ)=aM) (ks:∀x∈args,∀γ∈x.refs++x.aI,∃β,gv β=some γ)
  (hG:∀s,1000000<=s->G s= .undef∨∃s',1000000<=s'/\G s=cd τ (fr s')/\∀γ∈(fr s').refs++(fr s').aI,∃β,gv β=some γ) (cK:aM.length<=1000000) (Ex:pr=true->∀β,gn gv β=none)
  (hK:∀(ρ:Nat->Option Nat) (tmps:Array Value) (w:World),Qv C ρ fr hp tmps w->∀r F H,aP r F H->(∀jh C2 v w',Qv C2 jh (nD r F) H #[v] w'->(∀β,C2.fx β≠none->H β≠none->True)->True)->∃(eo:Nat->Option Nat) (σ:Nat->Nat) (dR:Fr) (bc:HP),
   (∀γ β,eo γ=some β->H β≠none/\σ β=γ/\bg γ=true/\((aF β=true/\gn gv β=some γ)∨(aF β=false/\aF γ=false/\(hp γ=none∨∃bd,gn gv bd=some γ))))/\
   (∀β γ,gn gv β=some γ->aF β=true->eo γ=some β)/\
   (∀γ β,eo γ=some β->bc γ=H β)/\(∀γ,eo γ=none->(∃β,gn gv β=some γ)->bc γ=none)/\(∀γ,eo γ=none->(¬∃β,gn gv β=some γ)->bc γ=hp γ)/\
   (∀s,dR s= .undef∨
    (d≠some s/\dR s=fr s/\(∀γ∈(fr s).refs++(fr s).aI,(¬∃β,gn gv β=some γ)∨∃β hb an,gn gv β=some γ/\aF β=true/\hp γ=some hb/\H β=some an/\an.e=hb.e/\hb.xs.length<=an.xs.length)/\∀γ e ty xs,fr s= .az γ e ty xs->¬∃β,gn gv β=some γ)∨
    (d=some s/\dR s=cd σ r/\∀β∈r.refs++r.aI,eo (σ β)=some β)∨
    (∃s',1000000<=s'/\(∃γ e ty xs,F s'= .az γ e ty xs)/\dR s=cd σ (F s')/\∀β∈(F s').refs++(F s').aI,eo (σ β)=some β))/\
   K dR bc):ez C pr (.fn g [] []) args d fr hp K:=by
 subst hP;refine⟨h.1,fun ρ tmps w fv cv av lZ hs h1 h2 h3 _ _ mf=>?_⟩;have e1:fv= #[]:=KbB (by simpa using h1);have e2:cv= #[]:=KbB (by simpa using h2);subst e1;subst e2;simp only[Array.empty_append,Array.append_empty];refine(h.2 (oF C ρ fr hp au tmps w gv hs hh aM.length cK) _ av w rfl rfl rfl (L' hs hh vo h3 cr mf ks hG cK)).mono ?_;rintro e w' ⟨v,ρ',r,F,H,rfl,dx,eT⟩;obtain⟨eo,σ,dR,bc,a1,a2,a3,a4,a5,a6,a7⟩:=hK ρ tmps w hs r F H eT (fun _ _ _ _ _ _=>trivial);exact⟨v,dR,bc,rfl,NI hs hh dx lZ a1 a2 a3 a4 a5 a6,fun hq=>NJ hs hh dx (Ex hq),a7⟩
def pS(r:PV):Prop:=(r.refs=[]/\r.aI=[])/\∀σ,cd σ r=r
theorem FH{gv:Nat->Option Nat}(h:∀β γ,gv β=some γ->dy β=false):gn gv=gv:=by
 funext β;cases hr:dy β with
 |false=>exact rN hr
 |true=>
  unfold gn;rw[if_pos hr];cases hq:gv β with
  |none=>rfl
  |some γ=>have:=h β γ hq;rw[hr]at this;cases this
def kR(nm:Nat->Bool)(p:PV):PV:=if(p.refs++p.aI).any nm then .undef else p
def e9(nm:Nat->Bool)(fr:Fr):Fr:=fun s=>kR nm (fr s)
def oN(nm ex:Nat->Bool)(H hp:HP):HP:=fun x=>if ex x then H x else if nm x then none else hp x
def sh(S:List Nat)(F fr:Fr):Fr:=fun s=>if S.contains s then F s else fr s
theorem FZ(p:PV):cw id p=p:=FF fun _ _=>rfl
theorem F2{p:PV}(h:∀γ e ty xs,p≠ .az γ e ty xs):cd id p=p:=by
 have hm:∀l:List PV,l.map (cw id)=l:=fun l=>by
  conv=>rhs;rw[<-List.map_id l]
  exact KaT fun x _=>FZ x
 cases p with
 |az γ e ty xs=>exact absurd rfl (h _ _ _ _)
 |fn f a b=>simp only[cd,hm]
 |aE cs=>simp only[cd,hm]
 |cW cs=>simp only[cd,hm]
 |cj cs q=>simp only[cd,hm]
 |_=>rfl
def z4(xs:List PV):Prop:=∀x∈xs,dX x.aL=x
theorem Jx{γ e ty:Nat}{xs:List PV}(h:z4 xs):cd id (.az γ e ty xs)= .az γ e ty xs:=by
 simp only[cd,id];congr 1;conv=>rhs;rw[<-List.map_id xs]
 refine KaT fun x hx=>?_;have:x.aL.map (cw id)=x.aL:=by
  conv=>rhs;rw[<-List.map_id x.aL]
  exact KaT fun y _=>FZ y
 rw[this];exact h x hx
theorem UH{P:Program}{pr:Bool}(hP:C.P=P){g:FuncId}{args aM:List PV}{d:Option Nat}{G:Fr}{eJ:HP}{aP:PV->Fr->HP->Prop}(h:rF P g aM G eJ aP)(nm ex:Nat->Bool)(S:List Nat)
  (eD:∀x,nm x=true->∃hb,hp x=some hb/\hb.fz=false/\2000000<=x) (KF:∀x,eJ x=if nm x then hp x else none) (cr:args=aM) (cK:aM.length<=1000000)
  (aR:∀x∈args,∀γ e ty xs,x≠ .az γ e ty xs) (ks:∀γ∈args.flatMap (fun x=>x.refs++x.aI),nm γ=true)
  (hG:∀s,1000000<=s->G s= .undef∨∃γ e ty xs,G s=fr s/\fr s= .az γ e ty xs/\z4 xs/\∀γ∈(fr s).refs++(fr s).aI,nm γ=true)
  (hex:∀x,ex x=true->(hp x=none∨nm x=true)/\2000000<=x) (Ex:pr=true->∀x,nm x=false)
  (hK:∀r F H,aP r F H->(∀x,ex x=true->H x≠none)/\(∀γ e ty xs,r≠ .az γ e ty xs)/\(∀β∈r.refs++r.aI,ex β=true)/\(∀s∈S,1000000<=s/\(∃γ e ty xs,F s= .az γ e ty xs/\z4 xs)/\∀β∈(F s).refs++(F s).aI,ex β=true)/\K (sh S F (ew (e9 nm fr) d r)) (oN nm ex H hp)):
  ez C pr (.fn g [] []) args d fr hp K:=by
 obtain⟨gv,Eg⟩:∃f:Nat->Option Nat,f=fun x=>if nm x then some x else none:=⟨_,rfl⟩
 have ga:∀β γ,gv β=some γ->β=γ/\nm γ=true:=fun β γ hq=>by
  rw[Eg]at hq;simp only at hq;split at hq
  ·cases hq;rename_i e;exact⟨rfl,e⟩
  ·cases hq
 have gb:∀γ,nm γ=true->gv γ=some γ:=fun γ af=>by rw[Eg];simp[af]
 have gN:∀γ,(∃β,gv β=some γ)->nm γ=true:=fun γ ⟨β,ah⟩=>(ga β γ ah).2;have gr:∀β γ,gv β=some γ->dy β=false:=fun β γ hq=>by obtain⟨rfl,hn⟩:=ga β γ hq;obtain⟨_,_,_,k3⟩:=eD β hn;simp[dy];omega
 refine UG hP h gv id ⟨fun β γ hq=>?_,fun β hq=>?_,fun β bd γ q1 q2=>?_⟩ (fun β γ hq=>(ga β γ hq).1.symm) ?_ (fun x hx γ af=>⟨γ,gb γ (ks γ (Kam.2 ⟨x,hx,af⟩))⟩) (fun s hs=>?_) cK (fun hq β=>by rw[FH gr,Eg];simp only;rw[Ex hq β];rfl) (fun ρ tmps w hs r F H eT _=>?_)
 ·obtain⟨rfl,hn⟩:=ga β γ hq;obtain⟨hb,k1,k2,k3⟩:=eD β hn;exact⟨hb,k1,by simp[bg];omega,(fun h=>by simp[dy]at h;omega),fun _=>⟨by rw[KF,if_pos hn];exact k1,k2,by simp[bg];omega,fun _=>by simp[aF];omega⟩⟩
 ·refine⟨β,gb β ?_⟩;cases hn:nm β with
  |true=>rfl
  |false=>rw[KF,hn]at hq;simp at hq
 ·rw[(ga β γ q1).1,(ga bd γ q2).1]
 ·rw[<-cr];conv=>rhs;rw[<-List.map_id args]
  exact KaT fun x hx=>F2 (aR x hx)
 ·rcases hG s hs with e|⟨γ,e,ty,xs,e1,e2,e3,e4⟩
  ·exact .inl e
  ·refine .inr ⟨s,hs,?_,fun γ af=>⟨γ,gb γ (e4 γ af)⟩⟩;rw[e1,e2,Jx e3]
 ·rw [FH gr];obtain⟨a1,a2,a3,a4,a5⟩:=hK r F H eT;obtain⟨eo,oU⟩:∃f:Nat->Option Nat,f=fun x=>if ex x then some x else none:=⟨_,rfl⟩
  have ea:∀γ β,eo γ=some β->γ=β/\ex γ=true:=fun γ β hq=>by
   rw[oU]at hq;simp only at hq;split at hq
   ·cases hq;rename_i e;exact⟨rfl,e⟩
   ·cases hq
  have eb:∀γ,ex γ=true->eo γ=some γ:=fun γ af=>by rw[oU];simp[af]
  have en:∀γ,eo γ=none->ex γ=false:=fun γ af=>by
   cases hq:ex γ with
   |false=>rfl
   |true=>rw[eb γ hq]at af;cases af
  refine⟨eo,id,sh S F (ew (e9 nm fr) d r),oN nm ex H hp,fun γ β hq=>?_,fun β γ hq hy=>?_,fun γ β hq=>?_,fun γ hq hg=>?_,fun γ hq hg=>?_,fun s=>?_,a5⟩
  ·obtain⟨rfl,he⟩:=ea γ β hq;obtain⟨k1,k2⟩:=hex γ he;exact⟨a1 γ he,rfl,by simp[bg];omega,.inr ⟨by simp[aF];omega,by simp[aF];omega,k1.imp id fun hn=>⟨γ,gb γ hn⟩⟩⟩
  ·obtain⟨rfl,hn⟩:=ga β γ hq;obtain⟨_,_,_,k3⟩:=eD β hn;simp[aF]at hy;omega
  ·obtain⟨rfl,he⟩:=ea γ β hq;simp[oN,he]
  ·simp[oN,en γ hq,gN γ hg]
  ·have:nm γ=false:=by
    cases hn:nm γ with
    |false=>rfl
    |true=>exact absurd ⟨γ,gb γ hn⟩ hg
   simp[oN,en γ hq,this]
  ·unfold sh;by_cases hS:S.contains s=true
   ·rw[if_pos hS];obtain⟨b1,⟨γ,e,ty,xs,b2,b3⟩,b4⟩:=a4 s (by simpa using hS);refine .inr (.inr (.inr ⟨s,b1,⟨γ,e,ty,xs,b2⟩,?_,fun β ah=>eb β (b4 β ah)⟩));rw[b2,Jx b3]
   ·rw[if_neg hS];have sQ:d≠some s->e9 nm fr s= .undef∨(d≠some s/\e9 nm fr s=fr s/\(∀γ∈(fr s).refs++(fr s).aI,(¬∃β,gv β=some γ)∨∃β hb an,gv β=some γ/\aF β=true/\hp γ=some hb/\H β=some an/\an.e=hb.e/\hb.xs.length<=an.xs.length)/\∀γ e ty xs,fr s= .az γ e ty xs->¬∃β,gv β=some γ):=fun hds=>by
     unfold e9 kR;split
     ·exact .inl rfl
     ·rename_i nQ;have KD:∀γ∈(fr s).refs++(fr s).aI,¬∃β,gv β=some γ:=fun γ af hg=>nQ (KaS.2 ⟨γ,af,gN γ hg⟩);exact .inr ⟨hds,rfl,fun γ af=>.inl (KD γ af),fun γ e ty xs e0=>KD γ (by rw[e0];simp[PV.aI])⟩
    cases d with
    |none=>
     simp only[ew];rcases sQ (by simp)with h|h
     ·exact .inl h
     ·exact .inr (.inl h)
    | some d=>
     by_cases e:s=d
     ·subst e;refine .inr (.inr (.inl ⟨rfl,?_,fun β ah=>eb β (a3 β ah)⟩));rw[F2 a2];simp[ew,ae]
     ·have e1:ew (e9 nm fr) (some d) r s=e9 nm fr s:=by simp[ew,ae,e]
      rw[e1];rcases sQ (by simp;exact fun h=>e h.symm)with h|h
      ·exact .inl h
      ·exact .inr (.inl h)
end Go.FW
namespace Go.FW
open Go
variable {C : Ctx} {ρ : Nat -> Option Nat} {fr aq : Fr} {hp : HP} {w : World} {K R : Qg}
theorem Pt{B:List Nat}{F:Fr}{β δ:Nat}(ah:B.contains β=true)(h2:β<1000000):mq β δ (dA B F)=dA B F:=RB (.inl ah) (.inl h2)
theorem acf:
  (∀(σ:Nat->Nat)(k:IntKind)(n:Int),cd σ (.int k n)= .int k n)/\
  (∀(σ:Nat->Nat)(b:Bool),cd σ (.bool b)= .bool b)/\
  (∀(σ:Nat->Nat)(e:Nat)(xs:List PV),cd σ (.sl e xs)= .sl e xs)/\
  (∀(σ:Nat->Nat)(cs:List PV),cd σ (.agg cs)= .agg cs)/\
  (∀(σ:Nat->Nat)(cs:List PV),cd σ (.aJ cs)= .aJ cs)/\
  (∀(σ:Nat->Nat)(cs:List PV),cd σ (.pt cs)= .pt cs)/\
  (∀(σ:Nat->Nat),cd σ .aa= .aa)/\
  (∀(σ:Nat->Nat),cd σ .undef= .undef)/\
  (∀(σ:Nat->Nat)(β o n:Nat),cd σ (.ao β o n)= .ao (σ β) o n)/\
  (∀(σ:Nat->Nat)(β o n:Nat),cd σ (.mp β o n)= .mp (σ β) o n)/\
  (∀(σ:Nat->Nat)(β o n:Nat),cd σ (.aB β o n)= .aB (σ β) o n)/\
  (∀(σ:Nat->Nat)(β o n:Nat),cd σ (.np β o n)= .np (σ β) o n)/\
  (∀(σ:Nat->Nat)(cs:List PV),cd σ (.aE cs)= .aE (cs.map (cw σ))):=by
 refine⟨?_,?_,?_,?_,?_,?_,?_,?_,?_,?_,?_,?_,?_⟩<;>intros<;>rfl
theorem ace:
  (∀(σ:Nat->Nat)(k:IntKind)(n:Int),cw σ (.int k n)= .int k n)/\
  (∀(σ:Nat->Nat)(b:Bool),cw σ (.bool b)= .bool b)/\
  (∀(σ:Nat->Nat)(e:Nat)(xs:List PV),cw σ (.sl e xs)= .sl e xs)/\
  (∀(σ:Nat->Nat),cw σ .aa= .aa)/\
  (∀(σ:Nat->Nat),cw σ .undef= .undef)/\
  (∀(σ:Nat->Nat)(β o n:Nat),cw σ (.ao β o n)= .ao (σ β) o n)/\
  (∀(σ:Nat->Nat)(β o n:Nat),cw σ (.aB β o n)= .aB (σ β) o n):=by
 refine⟨?_,?_,?_,?_,?_,?_,?_⟩<;>intros<;>rfl
theorem WN:
  (∀(γ:Nat)(k:IntKind)(n:Int),cE γ (.int k n)= .int k n)/\
  (∀(γ:Nat)(b:Bool),cE γ (.bool b)= .bool b)/\
  (∀(γ e:Nat)(xs:List PV),cE γ (.sl e xs)= .sl e xs)/\
  (∀(γ:Nat)(cs:List PV),cE γ (.agg cs)= .agg cs)/\
  (∀(γ:Nat)(cs:List PV),cE γ (.aJ cs)= .aJ cs)/\
  (∀(γ:Nat)(cs:List PV),cE γ (.pt cs)= .pt cs)/\
  (∀(γ:Nat),cE γ .aa= .aa)/\
  (∀(γ:Nat),cE γ .undef= .undef)/\
  (∀(γ β o n:Nat),cE γ (.ao β o n)=if β=γ then .aB γ o n else .ao β o n)/\
  (∀(γ β o n:Nat),cE γ (.mp β o n)=if β=γ then .np γ o n else .mp β o n)/\
  (∀(γ β o n:Nat),cE γ (.aB β o n)= .aB β o n)/\
  (∀(γ β o n:Nat),cE γ (.np β o n)= .np β o n):=by
 refine⟨?_,?_,?_,?_,?_,?_,?_,?_,?_,?_,?_,?_⟩<;>intros<;>rfl
theorem Sf{γ s:Nat}{x:PV}:rV γ x fr s=if s=γ then x else cE γ (fr s):=rfl
theorem Sg{args:List PV}{G:Fr}{s:Nat}:oE args G s=if s<1000000 then(args[s]?).getD .undef else G s:=rfl
theorem Sh{nm:Nat->Bool}{s:Nat}:e9 nm fr s=kR nm (fr s):=rfl
theorem Si{nm:Nat->Bool}{p:PV}:kR nm p=if(p.refs++p.aI).any nm then .undef else p:=rfl
theorem UI{nm ex:Nat->Bool}{H:HP}{x:Nat}:oN nm ex H hp x=if ex x then H x else if nm x then none else hp x:=rfl
theorem UJ{S:List Nat}{F:Fr}{s:Nat}:sh S F fr s=if S.contains s then F s else fr s:=rfl
attribute [go_sem] Ry Rz UA UB Uy Pt acf ace WN Sf Sg Sh Si UI UJ
end Go.FW
namespace Go.FW
open Go
variable {C : Ctx} {ρ : Nat -> Option Nat} {fr aq : Fr} {hp : HP} {w : World} {K R : Qg}
theorem RH{σ:Nat->Nat}{p:PV}(h:p= .aa∨∃β n,p= .ms β n)(nW:∀β n,p= .ms β n->σ β=β):dX (p.aL.map (cw σ))=p:=by
 rcases h with rfl|⟨β,n,rfl⟩
 ·rfl
 ·have:=nW β n rfl;simp[PV.aL,PV.cells,cw,dX,this]
def eQ(B n w:Nat)(π:Nat->Nat):List (Nat×Nat):=(List.range n).map fun r=>(B+π r,w)
theorem IZ{B n w r:Nat}{π:Nat->Nat}(h:r<(eQ B n w π).length):(eQ B n w π)[r]=(B+π r,w):=by simp[eQ]
def jA{α:Type}(p:α->PV)(f:Nat->α)(w:Nat):List PV:=(List.range w).map fun c=>p (f c)
theorem AO{α:Type}(p:α->PV)(f:Nat->α)(w:Nat):(jA p f w).length=w:=by simp[jA]
theorem BR{α:Type}{p:α->PV}{f:Nat->α}{w c:Nat}(h:c<(jA p f w).length):(jA p f w)[c]=p (f c):=by simp[jA]
theorem WO{by_ ty d:Nat}{k k':IntKind}{n c:Nat}(h2:n<=c)(h3:by_*c<=281474976710656)(h4:c<=9223372036854775807):
  jM 3 by_ ty (.agg [.bool false,.aa,.aa]) (.int k (n:Int)) (.int k' (c:Int)) d fr hp K=K (ae (bI d fr) d (.ms d n)) (Qi hp d ⟨3,ty,List.replicate n (.agg [.bool false,.aa,.aa]),false⟩):=by
 rw[xA (e:=3) (by omega) rfl (by omega) (by omega) (by omega) (by omega)];rfl
attribute [go_sem] WO
end Go.FW
namespace Go.FW
open Go
def b9(φ:List Int->Rat):List Tm->Rat
 | []=>0
 |t::p=>t.1*φ t.2+b9 φ p
theorem jW(φ:List Int->Rat):b9 φ []=0:=rfl
theorem eO(φ:List Int->Rat)(t:Tm)(p:List Tm):b9 φ (t::p)=t.1*φ t.2+b9 φ p:=rfl
theorem ob{φ ψ:List Int->Rat}:∀ {p:List Tm},(∀t∈p,φ t.2=ψ t.2)->b9 φ p=b9 ψ p
 | [],_=>rfl
 |t::p,h=>by rw[eO,eO,h t (by simp),ob (p:=p) (fun x hx=>h x (by simp[hx]))]
theorem Jy(φ ψ:List Int->Rat):∀(p:List Tm),b9 (fun m=>φ m+ψ m) p=b9 φ p+b9 ψ p
 | []=>by simp only[jW];grind
 |t::p=>by simp only[eO];rw[Jy φ ψ p];grind
theorem BS(c:Rat)(φ:List Int->Rat):∀(p:List Tm),b9 (fun m=>c*φ m) p=c*b9 φ p
 | []=>by simp only[jW];grind
 |t::p=>by simp only[eO];rw[BS c φ p];grind
theorem I0:∀(p:List Tm),b9 (fun _=>0) p=0
 | []=>rfl
 |t::p=>by simp only[eO];rw[I0 p];grind
theorem wL(ψ:List Int->List Int->Rat)(q:List Tm):∀(p:List Tm),b9 (fun m=>b9 (fun n=>ψ m n) q) p=b9 (fun n=>b9 (fun m=>ψ m n) p) q
 | []=>by simp only[jW];rw[I0]
 |t::p=>by simp only[eO];rw[wL ψ q p,Jy (fun n=>t.1*ψ t.2 n),BS]
def Can(p:List Tm):Prop:=∀t∈p,t.2.getLast? ≠some 0
def NZ(p:List Tm):Prop:=∀t∈p,t.1≠0
structure bu(p:List Tm):Prop where
 c:Can p
 z:NZ p
 s:gE p
theorem Can.cons{t:Tm}{p:List Tm}:Can (t::p)↔t.2.getLast? ≠some 0/\Can p:=by simp[Can]
theorem NZ.cons{t:Tm}{p:List Tm}:NZ (t::p)↔t.1≠0/\NZ p:=by simp[NZ]
theorem bu.nil:bu []:=⟨by simp[Can],by simp[NZ],trivial⟩
theorem bu.tail{t:Tm}{p:List Tm}(h:bu (t::p)):bu p:=⟨(Can.cons.1 h.c).2,(NZ.cons.1 h.z).2,h.s.2⟩
theorem bu.one{t:Tm}(h:t.1≠0)(hm:t.2.getLast? ≠some 0):bu [t]:=⟨by simpa[Can]using hm,by simpa[NZ]using h,⟨by simp,trivial⟩⟩
theorem wM{φ:List Int->Rat}:∀ {p q:List Tm},Can p->Can q->b9 φ (Q2 p q)=b9 φ p+b9 φ q:=by
 intro p q;induction p,q using Q2.induct with
 |case1 q=>rw[Q2,jW];intros;grind
 |case2 p h=>rw[jm,jW];intros;grind
 |case3 c m p d l q h ih=>intro hp hq;rw[Q2,if_pos h,eO,eO,ih (Can.cons.1 hp).2 hq];grind
 |case4 c m p d l q h1 h2 ih=>intro hp hq;rw[Q2,if_neg h1,if_pos h2,eO,ih hp (Can.cons.1 hq).2,eO φ (d,l)];grind
 |case5 c m p d l q h1 h2 h3 ih=>
  intro hp hq;have e:=Bm h1 h2 (Can.cons.1 hp).1 (Can.cons.1 hq).1;rw[Q2,if_neg h1,if_neg h2,if_pos h3,ih (Can.cons.1 hp).2 (Can.cons.1 hq).2,eO,eO];subst e;have:c*φ m+d*φ m=0:=by rw[<-Rat.add_mul,h3];grind
  grind
 |case6 c m p d l q h1 h2 h3 ih=>intro hp hq;have e:=Bm h1 h2 (Can.cons.1 hp).1 (Can.cons.1 hq).1;rw[Q2,if_neg h1,if_neg h2,if_neg h3,eO,ih (Can.cons.1 hp).2 (Can.cons.1 hq).2,eO,eO];subst e;grind
theorem rB:∀ {p q:List Tm} {t:Tm},t∈Q2 p q->(∃s∈p,s.2=t.2)∨(∃s∈q,s.2=t.2):=by
 intro p q;induction p,q using Q2.induct with
 |case1 q=>rw[Q2];intro t ht;exact Or.inr ⟨t,ht,rfl⟩
 |case2 p h=>rw[jm];intro t ht;exact Or.inl ⟨t,ht,rfl⟩
 | case3 c m p d l q h ih=>
  intro t ht;rw[Q2,if_pos h]at ht;rcases KaH.1 ht with rfl|ht
  ·exact Or.inl ⟨_,by simp,rfl⟩
  ·rcases ih ht with⟨s,h1,h2⟩|h1
   ·exact Or.inl ⟨s,by simp[h1],h2⟩
   ·exact Or.inr h1
 | case4 c m p d l q h1 h2 ih=>
  intro t ht;rw[Q2,if_neg h1,if_pos h2]at ht;rcases KaH.1 ht with rfl|ht
  ·exact Or.inr ⟨_,by simp,rfl⟩
  ·rcases ih ht with h3|⟨s,h3,h4⟩
   ·exact Or.inl h3
   ·exact Or.inr ⟨s,by simp[h3],h4⟩
 |case5 c m p d l q h1 h2 h3 ih=>
  intro t ht;rw[Q2,if_neg h1,if_neg h2,if_pos h3]at ht;rcases ih ht with⟨s,h4,h5⟩|⟨s,h4,h5⟩
  ·exact Or.inl ⟨s,by simp[h4],h5⟩
  ·exact Or.inr ⟨s,by simp[h4],h5⟩
 | case6 c m p d l q h1 h2 h3 ih=>
  intro t ht;rw[Q2,if_neg h1,if_neg h2,if_neg h3]at ht;rcases KaH.1 ht with rfl|ht
  ·exact Or.inl ⟨(c,m),by simp,rfl⟩
  ·rcases ih ht with⟨s,h4,h5⟩|⟨s,h4,h5⟩
   ·exact Or.inl ⟨s,by simp[h4],h5⟩
   ·exact Or.inr ⟨s,by simp[h4],h5⟩
theorem I1{p q:List Tm}(hp:Can p)(hq:Can q):Can (Q2 p q):=fun t ht=>by
 rcases rB ht with⟨s,h1,h2⟩|⟨s,h1,h2⟩
 ·rw[<-h2];exact hp s h1
 ·rw[<-h2];exact hq s h1
theorem RI:∀ {p q:List Tm},NZ p->NZ q->NZ (Q2 p q):=by
 intro p q;induction p,q using Q2.induct with
 |case1 q=>rw[Q2];exact fun _ h=>h
 |case2 p h=>rw[jm];exact fun h _=>h
 |case3 c m p d l q h ih=>intro hp hq;rw[Q2,if_pos h,NZ.cons];exact⟨(NZ.cons.1 hp).1,ih (NZ.cons.1 hp).2 hq⟩
 |case4 c m p d l q h1 h2 ih=>intro hp hq;rw[Q2,if_neg h1,if_pos h2,NZ.cons];exact⟨(NZ.cons.1 hq).1,ih hp (NZ.cons.1 hq).2⟩
 |case5 c m p d l q h1 h2 h3 ih=>intro hp hq;rw[Q2,if_neg h1,if_neg h2,if_pos h3];exact ih (NZ.cons.1 hp).2 (NZ.cons.1 hq).2
 |case6 c m p d l q h1 h2 h3 ih=>intro hp hq;rw[Q2,if_neg h1,if_neg h2,if_neg h3,NZ.cons];exact⟨h3,ih (NZ.cons.1 hp).2 (NZ.cons.1 hq).2⟩
theorem LN{a b c:List Int}(h:bh a b=0)(h2:0<bh b c):0<bh a c:=by
 have e:∀i,eN a i=eN b i:=by
  intro i;have:=(wD a b _).1 h;by_cases hi:i<max a.length b.length
  ·exact this i hi
  ·rw[gZ (by omega),gZ (by omega)]
 rw[L5 e (fun _=>rfl)];exact h2
theorem X4:∀ {p q:List Tm},gE p->gE q->gE (Q2 p q):=by
 intro p q;induction p,q using Q2.induct with
 |case1 q=>rw[Q2];exact fun _ h=>h
 |case2 p h=>rw[jm];exact fun h _=>h
 | case3 c m p d l q h ih=>
  intro hp hq;rw[Q2,if_pos h];refine⟨fun t ht=>?_,ih hp.2 hq⟩;rcases rB ht with⟨s,h1,h2⟩|⟨s,h1,h2⟩
  ·rw[<-h2];exact hp.1 s h1
  ·rw[<-h2];rcases KaH.1 h1 with rfl|h1
   ·exact h
   ·exact s3 h (hq.1 s h1)
 | case4 c m p d l q h1 h2 ih=>
  intro hp hq;rw[Q2,if_neg h1,if_pos h2];have iP:0<bh l m:=by have:=tA m l;omega
  refine⟨fun t ht=>?_,ih hp hq.2⟩;rcases rB ht with⟨s,h3,h4⟩|⟨s,h3,h4⟩
  ·rw[<-h4];rcases KaH.1 h3 with rfl|h3
   ·exact iP
   ·exact s3 iP (hp.1 s h3)
  ·rw[<-h4];exact hq.1 s h3
 |case5 c m p d l q h1 h2 h3 ih=>intro hp hq;rw[Q2,if_neg h1,if_neg h2,if_pos h3];exact ih hp.2 hq.2
 |case6 c m p d l q h1 h2 h3 ih=>
  intro hp hq;rw[Q2,if_neg h1,if_neg h2,if_neg h3];refine⟨fun t ht=>?_,ih hp.2 hq.2⟩;rcases rB ht with⟨s,h4,h5⟩|⟨s,h4,h5⟩
  ·rw[<-h5];exact hp.1 s h4
  ·rw[<-h5];exact LN (b:=l) (by show bh m l=0;omega) (hq.1 s h4)
theorem wN{p q:List Tm}(hp:bu p)(hq:bu q):bu (Q2 p q):=⟨I1 hp.c hq.c,RI hp.z hq.z,X4 hp.s hq.s⟩
def ind(m:List Int):List Int->Rat:=fun n=>if n=m then 1 else 0
theorem we{m:List Int}:∀ {p:List Tm},(∀t∈p,t.2≠m)->b9 (ind m) p=0
 | [],_=>rfl
 |t::p,h=>by rw[eO,we (p:=p) (fun x hx=>h x (by simp[hx])),ind,if_neg (h t (by simp))];grind
theorem uk{a b:List Int}(h:0<bh a b):b≠a:=by rintro rfl;rw[Bt]at h;omega
theorem rh{t:Tm}{p:List Tm}(h:gE (t::p)):b9 (ind t.2) (t::p)=t.1:=by rw[eO,we (fun s hs=>uk (h.1 s hs)),ind,if_pos rfl];grind
theorem nj:∀ {p q:List Tm},bu p->bu q->(∀φ,b9 φ p=b9 φ q)->p=q
 | [],[],_,_,_=>rfl
 | [],t::q,_,hq,h=>by have:=h (ind t.2);rw[rh hq.s,jW]at this;exact absurd this.symm (hq.z t (by simp))
 |t::p,[],hp,_,h=>by have:=h (ind t.2);rw[rh hp.s,jW]at this;exact absurd this (hp.z t (by simp))
 | s ::p,t::q,hp,hq,h=>by
  by_cases h1:0<bh s.2 t.2
  ·have:=h (ind s.2);rw[rh hp.s,we (fun x hx=>?_)]at this
   ·exact absurd this (hp.z s (by simp))
   ·rcases KaH.1 hx with rfl|hx
    ·exact uk h1
    ·exact uk (s3 h1 (hq.s.1 x hx))
  ·by_cases h2:bh s.2 t.2<0
   ·have iP:0<bh t.2 s.2:=by have:=tA s.2 t.2;omega
    have:=h (ind t.2);rw[rh hq.s,we (fun x hx=>?_)]at this
    ·exact absurd this.symm (hq.z t (by simp))
    ·rcases KaH.1 hx with rfl|hx
     ·exact uk iP
     ·exact uk (s3 iP (hp.s.1 x hx))
   ·have e:=Bm h1 h2 (hp.c s (by simp)) (hq.c t (by simp));have e2:=h (ind s.2);rw[rh hp.s,e,rh hq.s]at e2;have e3:s=t:=Prod.ext e2 e;subst e3;rw[nj hp.tail hq.tail (fun φ=>by have:=h φ;rw[eO,eO]at this;grind)]
theorem NN{φ:List Int->Rat}:∀(n:Nat)(l:List (List Tm)),l.length<=n->(∀p∈l,Can p)->Can (dp l)/\b9 φ (dp l)=(l.map (b9 φ)).sum:=by
 intro n;induction n with
 |zero=>intro l hl _;have:l=[]:=Kas.1 (by omega);subst this;rw[dp];exact⟨bu.nil.c,rfl⟩
 | succ n ih=>
  intro l hl h
  match l,h with
  | [],_=>rw[dp];exact⟨bu.nil.c,rfl⟩
  | [p],h=>rw[dp];exact⟨h p (by simp),by simp;grind⟩
  |p::q::r,h=>
   rw[tt (by simp)];generalize hL:p::q::r=L at *
   have hlen:2<=L.length:=by rw[<-hL];simp
   obtain⟨a1,a2⟩:=ih (L.take (L.length/2)) (by rw[Kau];omega) (fun x hx=>h x (Ka2 hx));obtain⟨b1,b2⟩:=ih (L.drop (L.length/2)) (by rw[KaX];omega) (fun x hx=>h x (Kby hx));refine⟨I1 a1 b1,?_⟩;rw[wM a1 b1,a2,b2,<-List.sum_append,<-List.map_append,Kbh]
theorem Pu:∀(n:Nat)(l:List (List Tm)),l.length<=n->(∀p∈l,bu p)->bu (dp l):=by
 intro n;induction n with
 |zero=>intro l hl _;have:l=[]:=Kas.1 (by omega);subst this;rw[dp];exact bu.nil
 | succ n ih=>
  intro l hl h
  match l,h with
  | [],_=>rw[dp];exact bu.nil
  | [p],h=>rw[dp];exact h p (by simp)
  | p::q::r,h=>
   rw[tt (by simp)];generalize hL:p::q::r=L at *
   have hlen:2<=L.length:=by rw[<-hL];simp
   exact wN (ih (L.take (L.length/2)) (by rw[Kau];omega) (fun x hx=>h x (Ka2 hx)))
    (ih (L.drop (L.length/2)) (by rw[KaX];omega) (fun x hx=>h x (Kby hx)))
theorem wm(φ:List Int->Rat)(t:Tm):∀(p:List Tm),b9 φ (aZ p t)=t.1*b9 (fun m=>φ (cH m t.2)) p
 | []=>by rw[aZ,List.filterMap_nil,jW,jW];grind
 | s::p=>by
  have ih:=wm φ t p;rw[aZ]at ih⊢;rw[List.filterMap_cons];by_cases h:s.1*t.1=0
  ·simp only[h,if_true,eO];rw[ih];have:t.1*(s.1*φ (cH s.2 t.2))=(s.1*t.1)*φ (cH s.2 t.2):=by grind
   rw[Rat.mul_add,this,h];grind
  ·simp only[h,if_false,eO];rw[ih];grind
theorem Bd(p:List Tm)(t:Tm):Can (aZ p t):=by
 intro x hx;simp only[aZ,KbZ]at hx;obtain⟨y,hy,h⟩:=hx;split at h
 ·cases h
 ·cases h;exact tq _ _
theorem NO(p:List Tm)(t:Tm):NZ (aZ p t):=by
 intro x hx;simp only[aZ,KbZ]at hx;obtain⟨y,hy,h⟩:=hx;split at h
 ·cases h
 ·rename_i h0;cases h;exact h0
theorem Gk(t:Tm):∀(p:List Tm),gE p->gE (aZ p t)
 | [],_=>trivial
 | s ::p,hp=>by
  have ih:=Gk t p hp.2;rw[aZ]at ih⊢;rw[List.filterMap_cons];split
  ·exact ih
  ·rename_i b hb;split at hb
   ·cases hb
   ·cases hb;refine⟨fun x hx=>?_,ih⟩;simp only[KbZ]at hx;obtain⟨y,hy,h⟩:=hx;split at h
    ·cases h
    ·cases h;simp only[O'];exact hp.1 y hy
theorem Be{p:List Tm}(t:Tm)(hp:gE p):bu (aZ p t):=⟨Bd _ _,NO _ _,Gk t p hp⟩
theorem Hu(φ:List Int->Rat)(q:List Tm):∀(p:List Tm),((p.map (aZ q)).map (b9 φ)).sum=b9 (fun m=>b9 (fun n=>φ (cH m n)) q) p
 | []=>rfl
 |t::p=>by rw[Ka3,Ka3,Kcu,Hu φ q p,wm,eO];congr 2;exact ob fun s _=>by rw[tr]
theorem HI(φ:List Int->Rat)(p q:List Tm):b9 φ (mI p q)=b9 (fun m=>b9 (fun n=>φ (cH m n)) q) p:=by rw[mI,(NN (φ:=φ) _ _ (Kae _) ?_).2,Hu];intro x hx;obtain⟨t,_,rfl⟩:=KaM.1 hx;exact Bd _ _
theorem tI(φ:List Int->Rat)(p q:List Tm):b9 φ (bU p q)=b9 (fun m=>b9 (fun n=>φ (cH m n)) q) p:=by
 unfold bU;split
 ·rw[HI,wL (fun m n=>φ (cH m n))];exact ob fun s _=>ob fun t _=>by rw[tr]
 ·exact HI φ p q
theorem H7{p q:List Tm}(hq:gE q):bu (mI p q):=Pu _ _ (Kae _) fun x hx=>by obtain⟨t,_,rfl⟩:=KaM.1 hx;exact Be t hq
theorem nh{p q:List Tm}(hp:gE p)(hq:gE q):bu (bU p q):=by
 unfold bU;split
 ·exact H7 hp
 ·exact H7 hq
theorem Bf(φ:List Int->Rat){p:List Tm}(hp:Can p)(a:Rat):b9 φ (er p a)=a*b9 φ p:=by
 unfold er;split
 ·rename_i h;rw[h,jW];grind
 ·rw[wm];congr 1;exact ob fun s hs=>by rw[IQ (hp s hs)]
theorem wo{p:List Tm}(hp:gE p)(a:Rat):bu (er p a):=by
 unfold er;split
 ·exact bu.nil
 ·exact Be _ hp
theorem rq(φ:List Int->Rat){p:List Tm}(hp:Can p):b9 φ (gH p)= -b9 φ p:=by rw[gH,Bf φ hp];grind
theorem BT(φ:List Int->Rat){p q:List Tm}(hp:Can p)(hq:bu q):b9 φ (b6 p q)=b9 φ p-b9 φ q:=by rw[b6,wM hp (show Can (gH q)from(wo hq.s _).c),rq φ hq.c];grind
theorem oe{p q:List Tm}(hp:bu p)(hq:bu q):bu (b6 p q):=wN hp (wo hq.s _)
theorem BB{p q:List Tm}(hp:bu p)(hq:bu q):bU p q=bU q p:=
 nj (nh hp.s hq.s) (nh hq.s hp.s) fun φ=>by rw[tI,tI,wL (fun m n=>φ (cH m n))];exact ob fun s _=>ob fun t _=>by rw[tr]
theorem LO(a:Rat):bu (kK a):=by
 unfold kK;split
 ·exact bu.nil
 ·rename_i h;exact bu.one h (by simp)
def kP(p q:List Tm):List Tm:=q.foldl (fun out t=>Q2 out (aZ p t)) []
theorem H8(p:List Tm)(hp:bu p):∀(q out:List Tm),bu out->bu (q.foldl (fun out t=>Q2 out (aZ p t)) out)/\
  ∀φ,b9 φ (q.foldl (fun out t=>Q2 out (aZ p t)) out)=b9 φ out+b9 (fun m=>b9 (fun n=>φ (cH n m)) p) q
 | [],out,h=>⟨h,fun φ=>by rw[List.foldl_nil,jW];grind⟩
 |t::q,out,h=>by obtain⟨h1,h2⟩:=H8 p hp q (Q2 out (aZ p t)) (wN h (Be t hp.s));refine⟨h1,fun φ=>?_⟩;rw[List.foldl_cons,h2,wM h.c (Bd _ _),wm,eO];grind
theorem Pv{p q:List Tm}(hp:bu p)(hq:bu q):kP p q=bU p q:=by obtain⟨h1,h2⟩:=H8 p hp q [] bu.nil;refine nj h1 (nh hp.s hq.s) fun φ=>?_;rw[kP,h2,tI,jW,wL (fun m n=>φ (cH m n))];grind
variable {C : Ctx} {fr : Fr} {hp : HP} {w : World} {K R : Qg}
theorem X5{e by_ ty d:Nat}(h0:0<e):fl e by_ ty .aa (.sl e []) d fr hp K=K (ae (bI d fr) d (.ms d 0)) (Qi hp d ⟨e,ty,[],false⟩):=by have:=Bi (fr:=fr) (hp:=hp) (K:=K) (e:=e) (by_:=by_) (ty:=ty) (d:=d) (x:=.sl e []) (ys:=[]) rfl h0 (by simp) (by simp);simpa using this
end Go.FW
namespace Go.FW
open Go
theorem B5{m:List Int}{c:Rat}:∀ {u v:List Tm},(∀t∈u,0<bh t.2 m)->(∀t∈v,bh t.2 m<0)->Q2 (u++v) [(c,m)]=u++(c,m)::v
 | [],[],_,_=>by rw[KaC,pF];rfl
 | [],t::v,_,hv=>by have h1:=hv t (by simp);rw[KaC,tu,if_neg (by show ¬0<bh t.2 m;omega),if_pos (by exact h1),jm];rfl
 |t::u,v,hu,hv=>by rw[KaE,tu,if_pos (by exact hu t (by simp)),B5 (fun s hs=>hu s (by simp[hs])) hv];rfl
theorem Jz{m:List Int}{c d:Rat}:∀ {u v:List Tm},(∀t∈u,0<bh t.2 m)->Q2 (u++(d,m)::v) [(c,m)]=u++(if d+c=0 then []else [(d+c,m)])++v
 | [],v,_=>by have h0:=Bt m;rw[KaC,tu,if_neg (by show ¬0<bh m m;omega),if_neg (by show ¬bh m m<0;omega)];show(if d+c=0 then Q2 v []else(d+c,m)::Q2 v [])=_;rw[jm];split<;>rfl
 |t::u,v,hu=>by rw[KaE,tu,if_pos (by exact hu t (by simp)),Jz (fun s hs=>hu s (by simp[hs]))];simp
def lO(p:List Tm)(c:Rat)(m:List Int):List Tm:=Q2 p (if c=0 then []else [(c,m)])
theorem XT{p:List Tm}(hs:gE p):∀ {i:Nat} (h:i<p.length),∀t∈p.take i,0<bh t.2 p[i].2:=by
 induction p with
 |nil=>intro i h;simp at h
 | cons s p ih=>
  intro i h t ht;cases i with
  |zero=>simp at ht
  |succ i=>
   simp only[List.take_succ_cons,KaH]at ht;have hi:i<p.length:=by simpa using h
   show 0<bh t.2 p[i].2;rcases ht with rfl|ht
   ·exact hs.1 _ (Kao hi)
   ·exact ih hs.2 hi t ht
def z5(a:Rat):Nat->Rat
 |0=>1
 |n+1=>z5 a n*a
def Lf(vs:List Rat)(m:List Int):Nat->Rat
 |0=>1
 |n+1=>Lf vs m n*z5 (vs.getD n 0) (eN m n).toNat
def mev(vs:List Rat)(m:List Int):Rat:=Lf vs m m.length
section
variable {C : Ctx} {fr : Fr} {hp : HP} {w : World} {K R : Qg}
end
def y5(m:List Int)(v:Nat):List Int:=nu (m.set v 0)
def um(p:List Tm)(v:Nat)(n:Int):List Tm:=p.filterMap fun t=>if eN t.2 v=n then some (t.1,y5 t.2 v)else none
theorem NP{p:List Tm}{v:Nat}{n:Int}{t:Tm}(h:t∈um p v n):∃s∈p,eN s.2 v=n/\t=(s.1,y5 s.2 v):=by
 simp only[um,KbZ]at h;obtain⟨s,h1,h2⟩:=h;split at h2
 ·rename_i h3;cases h2;exact⟨s,h1,h3,rfl⟩
 ·cases h2
end Go.FW
namespace Go.FW
open Go
def sG(p:List Tm)(v:Nat)(q:List Tm)(top:Nat):Nat->List Tm
 |0=>um p v top
 |k+1=>Q2 (bU (sG p v q top k) q) (um p v ((top:Int)-(k+1)))
def dz(vs:List Rat)(v:Nat)(b:Rat)(n:Int):List Tm->Rat
 | []=>0
 |t::p=>(if n<=eN t.2 v then t.1*mev vs (y5 t.2 v)*z5 b (eN t.2 v-n).toNat else 0)+dz vs v b n p
def ML(n:Nat)(p:List Tm):Prop:=∀t∈p,t.2.length<=n
theorem ML.ab8{n:Nat}{p q:List Tm}(hp:ML n p)(hq:ML n q):ML n (Q2 p q):=fun t ht=>by
 rcases rB ht with⟨s,h1,h2⟩|⟨s,h1,h2⟩
 ·rw[<-h2];exact hp s h1
 ·rw[<-h2];exact hq s h1
theorem Pw(a b:List Int):(cH a b).length<=max a.length b.length:=by
 have:=AF (gG (· + ·) a b)
 rwa[lv]at this
theorem LP{p:List Tm}{t x:Tm}(h:x∈aZ p t):∃s∈p,x.2=cH s.2 t.2:=by
 simp only[aZ,KbZ]at h;obtain⟨y,hy,h⟩:=h;split at h
 ·cases h
 ·cases h;exact⟨y,hy,rfl⟩
theorem Px:∀(n:Nat)(l:List (List Tm)),l.length<=n->∀ {t:Tm},t∈dp l->∃p∈l,∃s∈p,s.2=t.2:=by
 intro n;induction n with
 |zero=>intro l hl t ht;have:l=[]:=Kas.1 (by omega);subst this;rw[dp]at ht;cases ht
 | succ n ih=>
  intro l hl t ht
  match l,ht with
  | [],ht=>rw[dp]at ht;cases ht
  | [p],ht=>rw[dp]at ht;exact⟨p,by simp,t,ht,rfl⟩
  | p::q::r,ht=>
   rw[tt (by simp)]at ht;generalize hL:p::q::r=L at *
   have hlen:2<=L.length:=by rw[<-hL];simp
   rcases rB ht with⟨s,h1,h2⟩|⟨s,h1,h2⟩
   ·obtain⟨p',hp',s',dw,e⟩:=ih _ (by rw[Kau];omega) h1;exact⟨p',Ka2 hp',s',dw,e.trans h2⟩
   ·obtain⟨p',hp',s',dw,e⟩:=ih _ (by rw[KaX];omega) h1;exact⟨p',Kby hp',s',dw,e.trans h2⟩
theorem I2{p q:List Tm}{t:Tm}(h:t∈bU p q):∃a∈p,∃b∈q,t.2=cH a.2 b.2:=by
 have main:∀ {p q:List Tm},t∈mI p q->∃a∈p,∃b∈q,t.2=cH a.2 b.2:=fun {p q} h=>by obtain⟨x,hx,s,hs,e⟩:=Px _ _ (Kae _) h;obtain⟨a,ha,rfl⟩:=KaM.1 hx;obtain⟨b,hb,e2⟩:=LP hs;exact⟨a,ha,b,hb,by rw[<-e,e2,tr]⟩
 unfold bU at h;split at h
 ·obtain⟨a,ha,b,hb,e⟩:=main h;exact⟨b,hb,a,ha,by rw[e,tr]⟩
 ·exact main h
theorem ML.ab9{n:Nat}{p q:List Tm}(hp:ML n p)(hq:ML n q):ML n (bU p q):=fun t ht=>by obtain⟨a,ha,b,hb,e⟩:=I2 ht;have:=Pw a.2 b.2;have:=hp a ha;have:=hq b hb;rw[e];omega
theorem ML.JR{n:Nat}{p:List Tm}(hp:ML n p)(v:Nat)(k:Int):ML n (um p v k):=fun t ht=>by obtain⟨s,h1,_,rfl⟩:=NP ht;have:=AF (s.2.set v 0);rw[List.length_set]at this;exact KaY this (hp s h1)
theorem ML.sG{n:Nat}{p q:List Tm}(hp:ML n p)(hq:ML n q)(v top:Nat):∀k,ML n (sG p v q top k)
 |0=>hp.JR v _
 |k+1=>((ML.sG hp hq v top k).ab9 hq).ab8 (hp.JR v _)
def ic(v n:Nat):List Int:=List.replicate v 0++[(n:Int)]
theorem NQ{v n:Nat}(h:0<n):(ic v n).getLast? ≠some 0:=by unfold ic;rw[List.getLast?_append];simp;omega
theorem RJ{v n:Nat}(hv:v<64):MB n (ic v n):=by
 refine⟨by simp[ic];omega,fun x hx=>?_,fun x hx=>?_⟩
 all_goals
  simp only[ic,KaR,List.mem_replicate,KaQ]at hx;omega
variable {C : Ctx} {fr : Fr} {hp : HP} {w : World} {K R : Qg}
end Go.FW
namespace Go.FW
open Go
variable {C : Ctx} {fr : Fr} {hp : HP} {K : Qg}
theorem wq(q:List Tm):bU [] q=[]:=by rw[List.eq_nil_iff_forall_not_mem];intro t ht;obtain⟨a,ha,_⟩:=I2 ht;cases ha
end Go.FW
namespace Go.FW
open Go
theorem Hv:∀ {p:List Tm},gE p->∀n,gE (p.take n)
 |_,_,0=>trivial
 | [],_,n+1=>trivial
 |t::p,h,n+1=>⟨fun s hs=>h.1 s (Ka2 hs),Hv h.2 n⟩
theorem bu.take{p:List Tm}(h:bu p)(n:Nat):bu (p.take n):=⟨fun t ht=>h.c t (Ka2 ht),fun t ht=>h.z t (Ka2 ht),Hv h.s n⟩
abbrev MF:=Nat->Nat->Rat
end Go.FW
