/- Part 8 of the proof of DiscoverHolds: W6, CA, A1, DA, CJ, CK, J0, K0, CLW, K2, K4, K5, K6, AR, K1, K3, K7, K8, K10, K11, K12, K13, K14, K15, K16, FwUE, FwUF, FwUI, FwUJ, FwWA, FwWB, FwWC, FwWD, FwUH, FwUK, FwWE. Own lemmas; no conditions. -/
import Derived.Test.YtmkijkjaeljieaaGreatDiscoverHoldsPart7
set_option maxHeartbeats 1000000
set_option linter.unusedSimpArgs false
set_option linter.unusedVariables false
set_option linter.unnecessarySimpa false
set_option maxRecDepth 100000
namespace Go.Proofs.YtmkijkjaeljieaaGreat
open Tryz
open Go Go.FW
theorem afx{x:Int}(hx:nl x.natAbs<2^40):AC 202 [PV.zz x] (· =PV.zz (-x)):=by
 have hs:=wj (n:= !decide (x<0)) (a:=ak x.natAbs) (Ql _) (by show nl _<_;omega);have e:zv (!decide (x<0)) (ak x.natAbs)= -x:=by rw[uQ];by_cases h:x<0<;>simp[h]<;>omega
 rw[e]at hs;refine aw Qf func202 akC fun C hP=>?_;refine aq hP hs ?_;refine Sz0 ?_;refine bX ?_;refine Sz0 ?_;exact Qc rfl rfl
theorem aoc(n:Bool)(a d:List Nat):rv (!n) a d= -rv n a d:=by
 have e:zv (!n) a= -zv n a:=by unfold zv;cases n<;>simp
 unfold rv;rw[e,Rat.neg_mkRat]
theorem Raw.not{n:Bool}{a d:List Nat}{k:Nat}(h:Raw k n a d):Raw k (!n) a d:=⟨h.la,h.ld,h.sa,h.sd,h.k1⟩
theorem afy{n m:Bool}{a d b c:List Nat}{k:Nat}(hp:Raw k n a d)(hq:Raw k m b c)(hk:k<2^36):AC 160 [PV.rr n a d,PV.rr m b c] (· =PV.rat (rv n a d-rv m b c)):=by have h:=Wt hp hq.not hk;rw[aoc,<-Rat.sub_eq_add_neg]at h;refine aw Qf func160 akT fun C hP=>?_;refine aq hP h ?_;refine Sz0 ?_;refine bX ?_;refine Sz0 ?_;exact Qc rfl rfl
theorem tk{a b:Rat}{k:Nat}(ha:rs a<=k)(hb:rs b<=k)(hk:k<2^36):AC 160 [PV.rat a,PV.rat b] (· =PV.rat (a-b)):=by
 have:=afy (kC ha) (kC hb) hk
 rwa[kG,kG]at this
theorem ahY{a:Rat}{k:Nat}(ha:rs a<=k)(hk:k<2^35):AC 193 [PV.rat a] (· =PV.rat (-a)):=by
 have h1:nl a.num.natAbs<=k:=by unfold rs at ha;omega
 have h2:nl a.den<=k:=by unfold rs at ha;omega
 have h3:nl (-a.num).natAbs<=k:=by rw[Int.natAbs_neg];exact h1
 have e:mkRat (-a.num) a.den= -a:=by rw[<-Rat.neg_mkRat,KcL]
 have hn:=afx (x:=a.num) Oz;have ho:=G6 (z:= -a.num) (D:=a.den) Oz Oz;rw[e]at ho;refine aw Qf func193 ali fun C hP=>?_;refine aq hP hn ?_;refine aq hP ho ?_;refine Sz0 ?_;refine bX ?_;refine Sz0 ?_;exact Qc rfl rfl
theorem uE{a b:Rat}{k:Nat}(ha:rs a<=k)(hb:rs b<=k)(hk:k<2^34):AC 166 [PV.rat a,PV.rat b] (· =PV.rat (a-b)):=by have h:=C1 (a:=a) (b:= -b) ha (by rw[Kd];exact hb) hk;rw[<-Rat.sub_eq_add_neg]at h;refine aw Qf func166 alk fun C hP=>?_;refine aq hP (ahY hb Oz) ?_;refine aq hP h ?_;refine Sz0 ?_;refine bX ?_;refine Sz0 ?_;exact Qc rfl rfl
def arq:az:=⟨16,[.cell 8 3 true],Zr (j0 4 115<|dP 5 115 1<|dX 6 115 2<|YM 7 6 115 3<|Yd 8 .nil)<|Zr (lB 9 6 4 5 6 7<|Yf 11 186 9 10<|jH 14 186 12 13 187 11 3 8) .ret⟩
theorem aln:Qd Tryz.prog f158=some arq:=by kernel_rfl
def art:az:=⟨16,[.cell 8 3 true],Zr (j0 4 115<|dP 5 115 1<|dX 6 115 2<|YM 7 6 115 3<|Yd 8 .nil)<|Zr (lB 9 6 4 5 6 7<|Yf 11 186 9 10<|jH 14 186 12 13 188 11 3 8) .ret⟩
theorem alo:Qd Tryz.prog f159=some art:=by kernel_rfl
def arw:az:=⟨9,[.cell 4 3 true],Zr (tF 2 115<|Yd 4 .nil)<|Zr (Zh 5 6 2<|Zh 6 6 3<|Yr 7 186 5 6<|Yv 8 189 7<|Zs 3 4 8 .nil) .ret⟩
theorem alp:Qd Tryz.prog f161=some arw:=by kernel_rfl
def arV:az:=⟨16,[.cell 4 6 true],Zr (tF 2 115<|Zo (.alloc 4 6 213 (.agg [.bool false,.ab,.ab,.bool false,.ab,.ab])) .nil)<|Zr (YC 5 0 3 3<|YC 7 0 2 3<|YC 10 3 3 3<|YC 12 3 2 3<|Yf 9 160 6 8<|Yf 14 160 11 13<|Zo (.dY 15 [.bool false,.ab,.ab,.bool false,.ab,.ab] [(0,3,.t 9),(3,3,.t 14)])<|Zs 6 4 15 .nil) .ret⟩
theorem alq:Qd Tryz.prog f186=some arV:=by kernel_rfl
def arW:az:=⟨16,[.cell 4 3 true],Zr (tF 2 213<|Yd 4 .nil)<|Zr (wW 5 2 3 2 0 3 1<|wW 10 2 3 2 1 3 0<|Yf 9 118 6 8<|jH 14 118 11 13 160 9 3 4) .ret⟩
theorem alr:Qd Tryz.prog f187=some arW:=by kernel_rfl
def arX:az:=⟨16,[.cell 4 3 true],Zr (tF 2 213<|Yd 4 .nil)<|Zr (wW 5 2 3 2 0 3 0<|wW 10 2 3 2 1 3 1<|Yf 9 118 6 8<|jH 14 118 11 13 120 9 3 4) .ret⟩
theorem als:Qd Tryz.prog f188=some arX:=by kernel_rfl
def arY:az:=⟨6,[.cell 2 3 true],Zr (Zo (.box 1 6 213 (.t 0))<|tG 2)<|Zr (Zh 3 6 1<|Zh 4 6 1<|ja 5 188 3 4 3 2) .ret⟩
theorem alu:Qd Tryz.prog f189=some arY:=by kernel_rfl
def arz:az:=⟨16,[.cell 8 3 true],Zr (j0 4 115<|dP 5 115 1<|dX 6 115 2<|YM 7 6 115 3<|Yd 8 .nil)<|Zr (lB 9 6 4 5 6 7<|Yf 11 191 9 10<|jH 14 191 12 13 190 11 3 8) .ret⟩
theorem alv:Qd Tryz.prog f164=some arz:=by kernel_rfl
def arA:az:=⟨16,[.cell 8 3 true],Zr (j0 4 115<|dP 5 115 1<|dX 6 115 2<|YM 7 6 115 3<|Yd 8 .nil)<|Zr (lB 9 6 4 5 6 7<|Yf 11 191 9 10<|jH 14 191 12 13 192 11 3 8) .ret⟩
theorem alw:Qd Tryz.prog f165=some arA:=by kernel_rfl
def arC:az:=⟨12,[.cell 4 3 true],Zr (tF 2 115<|Yd 4 .nil)<|Zr (Zh 5 6 2<|Zh 6 6 3<|YO 8 6 2 6 3<|Yf 7 191 5 6<|jH 10 191 8 9 192 7 3 4) .ret⟩
theorem alx:Qd Tryz.prog f167=some arC:=by kernel_rfl
def ar0:az:=⟨16,[.cell 4 3 true],Zr (tF 2 115<|Yd 4 .nil)<|Zr (YC 5 0 2 3<|YC 7 3 3 3<|YC 10 3 2 3<|YC 12 0 3 3<|Yf 9 114 6 8<|jH 14 114 11 13 166 9 3 4) .ret⟩
theorem aly:Qd Tryz.prog f190=some ar0:=by kernel_rfl
def ar1:az:=⟨16,[.cell 4 6 true],Zr (tF 2 115<|Zo (.alloc 4 6 115 (.agg [.bool false,.ab,.ab,.bool false,.ab,.ab])) .nil)<|Zr (YC 5 0 3 3<|YC 7 0 2 3<|YC 10 3 3 3<|YC 12 3 2 3<|Yf 9 166 6 8<|Yf 14 166 11 13<|Zo (.dY 15 [.bool false,.ab,.ab,.bool false,.ab,.ab] [(0,3,.t 9),(3,3,.t 14)])<|Zs 6 4 15 .nil) .ret⟩
theorem alz:Qd Tryz.prog f191=some ar1:=by kernel_rfl
def ar2:az:=⟨16,[.cell 4 3 true],Zr (tF 2 115<|Yd 4 .nil)<|Zr (YC 5 0 2 3<|YC 7 0 3 3<|YC 10 3 2 3<|YC 12 3 3 3<|Yf 9 114 6 8<|jH 14 114 11 13 111 9 3 4) .ret⟩
theorem alA:Qd Tryz.prog f192=some ar2:=by kernel_rfl
def arp:az:=⟨4,[.t 2],Zr (YK 2)<|Zr (Zm 3 0<|Zm 2 3 .nil) .ret⟩
theorem alB:Qd Tryz.prog f157=some arp:=by kernel_rfl
def arx:az:=⟨6,[.cell 2 3 true],Zr (j0 1 57<|tG 2)<|Zr (Zh 4 3 1<|Zq 3 true 117 [.c (Zz 2)]<|YV 5 118 3 4 3 2) .ret⟩
theorem alC:Qd Tryz.prog f162=some arx:=by kernel_rfl
def ary:az:=⟨62,[.cell 2 3 true],Zr (tG 2)<|Zr (Zm 5 0<|Zo (.idx 6 6 (.t 5) (.c (Zz 0)))<|Zh 7 6 6<|Yq 8 0 6 1 2<|Ya 14 0 6 3<|Zh 16 6 15<|Yq 18 0 6 4 5<|Yq 24 0 6 6 7<| .br (YW 17 158 7 10 13 16<| .br (YW 30 159 20 23 26 29<| .br (Yf 31 118 17 30<|tI 3<|Zs 3 3 31 .nil) (tI 3<|YV 31 118 17 30 3 3)) (tI 3<|YW 30 159 20 23 26 29<|YV 31 118 17 30 3 3)) (tI 3<|YW 17 158 7 10 13 16<|YW 30 159 20 23 26 29<|YV 31 118 17 30 3 3))<|Zr (Yq 32 0 6 4 5<|Yq 38 0 6 6 7<|Yq 45 0 6 0 1<|Yq 51 0 6 2 3<| .br (YW 44 158 34 37 40 43<| .br (YW 57 159 47 50 53 56<| .br (Yf 58 118 44 57<|Yd 4<|Zs 3 4 58 .nil) (Yd 4<|YV 58 118 44 57 3 4)) (Yd 4<|YW 57 159 47 50 53 56<|YV 58 118 44 57 3 4)) (Yd 4<|YW 44 158 34 37 40 43<|YW 57 159 47 50 53 56<|YV 58 118 44 57 3 4))<|Zr (YO 59 3 3 3 4<|ja 61 160 59 60 3 2) .ret⟩
theorem alD:Qd Tryz.prog f163=some ary:=by kernel_rfl
def aqR:az:=⟨189,[.t 4],Zr (nC 2<|YK 4)<| .seq (Zr (Yb 5 0 2 .nil)<| .block 0<|Zr (Yn 8 6 1 7)<| .cond (.t 7) (Zr (wV 9 0 2 158 22<|Yv 23 157 22<|Ye 4 23) .ret) (Zr (Yn 25 6 2 24)<| .cond (.t 24) (Zr (wV 26 2 3 158 39<|Yv 40 157 39<|Ye 4 40) .ret) (Zr (Yn 42 6 3 41)<| .cond (.t 41) (Zr (wV 43 2 3 159 56<|Yv 57 157 56<|Ye 4 57) .ret) (Zr (Yn 59 6 4 58)<| .cond (.t 58) (Zr (Yq 60 1 6 0 1<|Yq 67 1 6 2 3<|Yf 66 161 62 65<|jb 73 161 69 72 160 66<|Zo (.bs 75 3 57 [.t 74])<|dJ 76 157 75<|Ye 4 76) .ret) (Zr (Yn 78 6 5 77)<| .cond (.t 77) (Zr (jc 79 1 0<|jc 83 2 0<|jc 88 0 0<|jc 94 1 3<|jc 98 2 3<|jc 103 0 3<|Yf 87 120 82 86<|dJ 92 162 91<|Yf 93 160 87 92<|Yf 102 120 97 101<|dJ 107 162 106<|Yf 108 160 102 107<|Zo (.bs 109 3 57 [.t 93,.t 108])<|dJ 110 157 109<|Ye 4 110) .ret) (Zr (Yn 112 6 6 111)<| .cond (.t 111) (Zr (Yq 113 1 6 1 0<|Yq 119 1 6 1 2<|Yq 125 1 6 3 0<|Yq 131 1 6 3 2<|Zo (.bs 137 6 115 [.t 115,.t 118,.t 121,.t 124,.t 127,.t 130,.t 133,.t 136])<|Yv 138 163 137<|Zo (.bs 139 3 57 [.t 138])<|Yv 140 157 139<|Ye 4 140) .ret) (Zr (Yn 142 6 7 141)<| .cond (.t 141) (Zr (YQ 143 1 163<|Zo (.bs 145 3 57 [.t 144])<|Zq 146 false 157 [.t 145]<|Ye 4 146) .ret) (Zr (Yn 148 6 8 147)<| .cond (.t 147) (Zr (jc 149 0 0<|jc 153 1 0<|jc 158 0 3<|jc 162 1 3<|Zq 157 true 160 [.t 152,.t 156]<|Yf 166 160 161 165<|Zo (.bs 167 3 57 [.t 157,.t 166])<|dJ 168 157 167<|Ye 4 168) .ret) .skip))))))))<|Zr (Yq 169 1 6 0 1<|YC 176 2 2 3<|Yq 178 1 6 2 3<|Yf 175 161 171 174<|jb 184 161 180 183 118 177<|Yf 186 160 175 185<|Zo (.bs 187 3 57 [.t 186])<|dJ 188 157 187<|Ye 4 188) .ret⟩
theorem uL:Qd Tryz.prog f125=some aqR:=by kernel_rfl
def c87:az:=⟨35,[.t 4,.t 5],Zr (nC 2<|fJ 4 0)<| .seq (Zr (Zh 10 5 2<|YB 11 1<|Yr 13 124 10 12<|Zm 6 13 .nil)<|Zr (YU 14 6)<| .cond (.t 15) (Zr (Zm 16 6<|Yk 4<|Zm 5 16 .nil) .ret) .skip)<|Zr (YK 7)<| .seq (Zr (YI 17 1 2<|Yj 20 0)<| .block 0<| .loop<|Zr (Yw 21 20 19)<| .seq (.cond (.t 21) .skip (.exit 0))<| .seq (.block 1<|Zr (Yz 22 18 20<|Ye 9 23)<| .rg (eG 24 7 1 9<|dW 27 6 25 26<|Yy 29 6 115 28 112 24<|Ye 7 30))<| .rg (YE 31 20 20))<|Zr (Zh 32 5 2<|Zm 33 7<|Yr 34 125 32 33<|jd 4 34) .ret⟩
theorem Su:Qd Tryz.prog f87=some c87:=by kernel_rfl
def c47:az:=⟨29,[.t 4,.t 5],Zr (nC 2<|Yl 4<|Yj 5 0)<|Zr (Zh 11 5 2<|Zm 12 1<|YZ 13 87 11 12 10<|Zm 6 14<|Zm 7 15 .nil)<| .seq (Zr (YU 16 7)<| .cond (.t 17) (Zr (Zm 18 7<|Yl 4<|Ye 5 18) .ret) .skip)<| .seq (Zr (ke 19 6)<| .block 0<| .loop<|Zr (Yw 22 21 20)<| .seq (.cond (.t 22) .skip (.exit 0))<| .seq (.block 1<|Zr (dW 23 3 19 21<|Yd 9<|Zs 3 9 24 .nil)<|Zr (Zh 25 3 9<|Yv 26 85 25<|Zk 27 .neq 26 0 .nil)<| .cond (.t 27) (Zr (Yl 4<|Yj 5 0) .ret) .skip)<| .rg (YE 28 21 21))<|Zr (Zo (.mv 4 (.c (.bool true)))<|Yj 5 0) .ret⟩
theorem aod:Qd Tryz.prog f47=some c47:=by kernel_rfl
def arD:az:=⟨14,[.cell 6 3 true],Zr (dX 3 57 0<|YM 4 3 57 1<|YM 5 3 57 2<|Yd 6 .nil)<|Zr (YO 7 3 4 3 5<|Zh 11 3 3<|Yf 9 111 7 8<|Zq 10 true 79 [.c (Zz 2)]<|jH 12 114 10 11 166 9 3 6) .ret⟩
theorem alE:Qd Tryz.prog f168=some arD:=by kernel_rfl
def arE:az:=⟨62,[.cell 2 3 true],Zr (tG 2)<|Zr (Zm 5 0<|Zo (.idx 6 6 (.t 5) (.c (Zz 0)))<|Zh 7 6 6<|Yq 8 0 6 1 2<|Ya 14 0 6 3<|Zh 16 6 15<|Yq 18 0 6 4 5<|Yq 24 0 6 6 7<| .br (YW 17 164 7 10 13 16<| .br (YW 30 165 20 23 26 29<| .br (Yf 31 114 17 30<|tI 3<|Zs 3 3 31 .nil) (tI 3<|YV 31 114 17 30 3 3)) (tI 3<|YW 30 165 20 23 26 29<|YV 31 114 17 30 3 3)) (tI 3<|YW 17 164 7 10 13 16<|YW 30 165 20 23 26 29<|YV 31 114 17 30 3 3))<|Zr (Yq 32 0 6 4 5<|Yq 38 0 6 6 7<|Yq 45 0 6 0 1<|Yq 51 0 6 2 3<| .br (YW 44 164 34 37 40 43<| .br (YW 57 165 47 50 53 56<| .br (Yf 58 114 44 57<|Yd 4<|Zs 3 4 58 .nil) (Yd 4<|YV 58 114 44 57 3 4)) (Yd 4<|YW 57 165 47 50 53 56<|YV 58 114 44 57 3 4)) (Yd 4<|YW 44 164 34 37 40 43<|YW 57 165 47 50 53 56<|YV 58 114 44 57 3 4))<|Zr (YO 59 3 3 3 4<|ja 61 166 59 60 3 2) .ret⟩
theorem alF:Qd Tryz.prog f169=some arE:=by kernel_rfl
def aqV:az:=⟨176,[.t 4],Zr (nC 2<|YK 4)<| .seq (Zr (Yb 5 0 2 .nil)<| .block 0<|Zr (Yn 8 6 1 7)<| .cond (.t 7) (Zr (wV 9 0 2 164 22<|Ye 4 22) .ret) (Zr (Yn 24 6 2 23)<| .cond (.t 23) (Zr (wV 25 2 3 164 38<|Ye 4 38) .ret) (Zr (Yn 40 6 3 39)<| .cond (.t 39) (Zr (wV 41 2 3 165 54<|Ye 4 54) .ret) (Zr (Yn 56 6 4 55)<| .cond (.t 55) (Zr (Yq 57 1 6 0 1<|Yq 64 1 6 2 3<|Yf 63 167 59 62<|jb 70 167 66 69 166 63<|Zo (.bs 72 3 57 [.t 71])<|Ye 4 72) .ret) (Zr (Yn 74 6 5 73)<| .cond (.t 73) (Zr (jc 75 0 0<|jc 79 1 0<|jc 83 2 0<|jc 88 0 3<|jc 92 1 3<|jc 96 2 3<|Zq 87 true 168 [.t 78,.t 82,.t 86]<|Zq 100 true 168 [.t 91,.t 95,.t 99]<|Zo (.bs 101 3 57 [.t 87,.t 100])<|Ye 4 101) .ret) (Zr (Yn 103 6 6 102)<| .cond (.t 102) (Zr (Yq 104 1 6 1 0<|Yq 110 1 6 1 2<|Yq 116 1 6 3 0<|Yq 122 1 6 3 2<|Zo (.bs 128 6 115 [.t 106,.t 109,.t 112,.t 115,.t 118,.t 121,.t 124,.t 127])<|Yv 129 169 128<|Zo (.bs 130 3 57 [.t 129])<|Ye 4 130) .ret) (Zr (Yn 132 6 7 131)<| .cond (.t 131) (Zr (YQ 133 1 169<|Zo (.bs 135 3 57 [.t 134])<|Ye 4 135) .ret) (Zr (Yn 137 6 8 136)<| .cond (.t 136) (Zr (jc 138 0 0<|jc 142 1 0<|jc 147 0 3<|jc 151 1 3<|Yf 146 166 141 145<|Zq 155 true 166 [.t 150,.t 154]<|Zo (.bs 156 3 57 [.t 146,.t 155])<|Ye 4 156) .ret) .skip))))))))<|Zr (Yq 157 1 6 0 1<|YC 164 2 2 3<|Yq 166 1 6 2 3<|Zq 163 true 167 [.t 159,.t 162]<|jb 172 167 168 171 114 165<|Yf 174 166 163 173<|Zo (.bs 175 3 57 [.t 174])<|Ye 4 175) .ret⟩
theorem uM:Qd Tryz.prog f129=some aqV:=by kernel_rfl
def c93:az:=⟨35,[.t 4,.t 5],Zr (nC 2<|fJ 4 0)<|Zr (Zh 10 5 2<|YB 11 1<|Yr 13 34 10 12<|Zm 6 13 .nil)<| .seq (Zr (YU 14 6)<| .cond (.t 15) (Zr (Zm 16 6<|Yk 4<|Zm 5 16 .nil) .ret) .skip)<|Zr (YK 7)<| .seq (Zr (YI 17 1 2<|Yj 20 0)<| .block 0<| .loop<|Zr (Yw 21 20 19)<| .seq (.cond (.t 21) .skip (.exit 0))<| .seq (.block 1<|Zr (Yz 22 18 20<|Ye 9 23)<| .rg (eG 24 7 1 9<|dW 27 6 25 26<|Yy 29 6 115 28 112 24<|Ye 7 30))<| .rg (YE 31 20 20))<|Zr (Zh 32 5 2<|Zm 33 7<|Yr 34 129 32 33<|jd 4 34) .ret⟩
theorem Sv:Qd Tryz.prog f93=some c93:=by kernel_rfl
def c52:az:=⟨29,[.t 4,.t 5],Zr (nC 2<|Yl 4<|Yj 5 0)<|Zr (Zh 11 5 2<|Zm 12 1<|YZ 13 93 11 12 10<|Zm 6 14<|Zm 7 15 .nil)<| .seq (Zr (YU 16 7)<| .cond (.t 17) (Zr (Zm 18 7<|Yl 4<|Ye 5 18) .ret) .skip)<| .seq (Zr (ke 19 6)<| .block 0<| .loop<|Zr (Yw 22 21 20)<| .seq (.cond (.t 22) .skip (.exit 0))<| .seq (.block 1<|Zr (dW 23 3 19 21<|Yd 9<|Zs 3 9 24 .nil)<|Zr (Zh 25 3 9<|Yv 26 90 25<|Zk 27 .neq 26 0 .nil)<| .cond (.t 27) (Zr (Yl 4<|Yj 5 0) .ret) .skip)<| .rg (YE 28 21 21))<|Zr (Zo (.mv 4 (.c (.bool true)))<|Yj 5 0) .ret⟩
theorem aoe:Qd Tryz.prog f52=some c52:=by kernel_rfl
def rZ:az:=⟨33,[.t 4,.t 5],Zr (nC 2<|Yl 4<|Yj 5 0)<|Zr (YX 6)<| .seq (Zr (ke 11 1)<| .block 0<| .loop<|Zr (Yw 14 13 12)<| .seq (.cond (.t 14) .skip (.exit 0))<| .seq (.block 1<|Zr (dW 15 3 11 13<|Zo (.alloc 8 3 50 (.agg [.ab,.ab,.ab]))<|Zs 3 8 16 .nil)<|Zr (Zh 18 5 2<|Yb 19 2 8<|YZ 21 47 18 20 17<|et 9 22 23)<| .seq (Zr (YU 24 10)<| .cond (.t 25) (Zr (Zm 26 10<|Yl 4<|Ye 5 26) .ret) .skip)<| .rg (Zm 27 6<|j' 28 27 9<|Yp 30 28 29<|Ye 6 30))<| .rg (jZ 31 13))<|Zr (Zm 32 6<|jd 4 32) .ret⟩
theorem aof:Qd Tryz.prog f22=some rZ:=by kernel_rfl
def c24:az:=⟨34,[.t 4,.t 5],Zr (nC 2<|Yl 4<|Yj 5 0)<|Zr (YX 6)<| .seq (Zr (Yj 7 0)<| .block 0<| .loop<| .seq (Zr (YN 10 7 1)<| .cond (.t 13) .skip (.exit 0))<| .seq (.block 1<|Zr (Zh 17 5 2<|l0 18 1 7 3<|Yb 21 2 20<|YZ 23 52 17 22 16<|et 8 24 25)<| .seq (Zr (YU 26 9)<| .cond (.t 27) (Zr (Zm 28 9<|Yl 4<|Ye 5 28) .ret) .skip)<| .rg (Zm 29 6<|j' 30 29 8<|Yp 32 30 31<|Ye 6 32))<| .rg (kO 14 7 7))<|Zr (Zm 33 6<|jd 4 33) .ret⟩
theorem aog:Qd Tryz.prog f24=some c24:=by kernel_rfl
def c53:az:=⟨38,[.t 2],Zr (bP 2)<| .seq (Zr (YB 4 0<|Zk 6 .gtr 5 12 .nil)<| .cond (.t 6) (Zr (bP 2) .ret) .skip)<| .seq (Zr (Yj 3 0)<| .block 0<| .loop<| .seq (Zr (YN 7 3 0)<| .cond (.t 10) .skip (.exit 0))<| .seq (.block 1<|Zr (l0 13 0 3 3<|Zf 16 0 15<|YI 17 1 16<|Zk 20 .gtr 19 2<|YP 21 20 0<|Zg 21 false (.mv 23 (.t 3))<|Zg 21 false (.idx 24 3 (.t 22) (.t 23))<|Zg 21 false (.bG 25 2 (.t 24))<|Zg 21 false (.ld 26 1 false (.t 25))<|Zg 21 false (.len 27 (.t 26))<|Zg 21 false (.bin 28 .gtr false (.t 27) (.c (Zz 2)))<|Yo 29 21 28<|YP 30 29 0<|Zg 30 false (.mv 32 (.t 3))<|Zg 30 false (.idx 33 3 (.t 31) (.t 32))<|Zg 30 false (.ld 34 3 true (.t 33))<|Zg 30 false (.call (some 35) false (.c (.fn 54 [] [])) [.t 34])<|Zg 30 false (.un 36 .not (.t 35))<|Yo 37 30 36 .nil)<| .cond (.t 37) (Zr (bP 2) .ret) .skip)<| .rg (kO 11 3 3))<|Zr (YX 2) .ret⟩
theorem aoh:Qd Tryz.prog f53=some c53:=by kernel_rfl
def aq3:az:=⟨6,[.t 2],Zr (YK 2)<|Zr (fU 3 0 0 78<|Zm 2 5 .nil) .ret⟩
theorem alG:Qd Tryz.prog f136=some aq3:=by kernel_rfl
def c41:az:=⟨18,[.t 4,.t 5],Zr (dX 2 33 0<|Yk 4<|YK 5)<|Zr (Zh 7 2 2<|Zm 8 1<|Yr 9 77 7 8<|Yv 10 76 9<|Zm 6 10 .nil)<|Zr (Zq 11 false 79 [.c (Zz 1)]<|Yv 12 51 11<|fU 13 6 6 75<|Yr 16 78 12 15<|Zm 17 6<|Zm 4 16<|Zm 5 17 .nil) .ret⟩
theorem aoi:Qd Tryz.prog f41=some c41:=by kernel_rfl
def c77:az:=⟨22,[.t 4],Zr (dX 2 33 0<|Yj 4 0)<| .seq (Zr (Yj 5 0)<| .block 0<| .loop<| .seq (Zr (mF 6 5 1 2)<| .cond (.t 10) .skip (.exit 0))<| .seq (.block 1<|Zr (lZ 13 1 2 5 3<|eu 17 1 16 1<|Zb 20 .eql 18 19 .nil)<| .cond (.t 20) (Zr (gU 21 5 4) .ret) .skip)<| .rg (kO 11 5 5))<|Zr (Yj 4 0) .ret⟩
theorem aoj:Qd Tryz.prog f77=some c77:=by kernel_rfl
def aqD:az:=⟨55,[.t 10],Zr (YM 5 2 33 0<|YM 7 2 98 2<|YM 8 2 98 3<|YM 9 2 98 4<|YK 10)<|Zr (Zh 15 2 5<|Zm 16 1<|YZ 17 41 15 16 14<|Zm 11 18<|Zm 12 19 .nil)<|Zr (cV 20 0 7 0 8<|Zm 25 12<|cV 26 1 7 1 8<|Yf 24 50 21 23<|jb 30 50 27 29 75 25<|Yf 32 78 24 31<|dJ 33 136 32<|Ye 13 33)<|Zr (Zm 34 11<|cV 35 0 9 0 8<|Zm 41 13<|Zm 43 11<|cV 44 1 9 1 8<|Ym 50 12 13<|Zq 39 true 50 [.t 36,.t 38]<|Yf 40 75 34 39<|Zq 42 true 50 [.t 40,.t 41]<|Zq 48 true 50 [.t 45,.t 47]<|Yf 49 75 43 48<|jb 52 75 50 51 50 49<|Zo (.bs 54 1 61 [.t 42,.t 53])<|Ye 10 54) .ret⟩
theorem alH:Qd Tryz.prog f107=some aqD:=by kernel_rfl
def aqE:az:=⟨51,[.t 8],Zr (YM 4 2 98 0<|YM 5 2 98 1<|YM 6 2 98 2<|YM 7 2 98 3<|YK 8)<|Zr (lB 11 2 4 5 4 6<|YO 16 2 4 2 5<|Yf 13 39 11 12<|YW 18 74 14 15 16 17<|dJ 19 136 18<|Zm 9 13<|Zm 10 19 .nil)<|Zr (Zm 20 9<|cV 21 0 7 0 4<|Zm 27 10<|cV 28 0 5 0 4<|Zm 35 9<|cV 36 1 7 1 4<|Zm 42 10<|cV 43 1 5 1 4<|jb 25 50 22 24 75 20<|jb 32 50 29 31 75 27<|Yf 34 50 26 33<|Zq 40 true 50 [.t 37,.t 39]<|Yf 41 75 35 40<|Zq 47 true 50 [.t 44,.t 46]<|Yf 48 75 42 47<|Zq 49 true 50 [.t 41,.t 48]<|Zo (.bs 50 1 61 [.t 34,.t 49])<|Ye 8 50) .ret⟩
theorem alI:Qd Tryz.prog f108=some aqE:=by kernel_rfl
def c67:az:=⟨149,[.t 16],Zr (YM 8 2 25 0<|YM 9 2 33 1<|YM 11 2 98 3<|YM 12 2 98 4<|YM 13 2 98 5<|YM 14 2 98 6<|YM 15 2 98 7<|YK 16)<| .seq (Zr (lZ 17 0 8 2 6<|Yb 21 0 20 .nil)<| .block 0<|Zr (Yn 24 22 6 23)<| .cond (.t 23) (Zr (Zh 25 2 9<|Zm 26 2<|YO 27 2 11 2 12<|Zh 29 2 15<|Zq 30 false 107 [.t 25,.t 26,.t 27,.t 28,.t 29]<|Ye 16 30) .ret) (Zr (Yn 32 22 7 31)<| .cond (.t 31) (Zr (YO 33 2 12 2 13<|lB 35 2 12 15 12 13<|YO 40 2 11 2 15<|Zq 37 true 40 [.t 33,.t 34,.t 35,.t 36]<|YW 42 74 38 39 40 41<|Zo (.bs 43 1 61 [.t 37,.t 42])<|Ye 16 43) .ret) (Zr (Yn 45 22 8 44)<| .cond (.t 44) (Zr (YO 46 2 12 2 13<|lB 48 2 11 15 12 13<|lB 53 2 12 11 12 13<|YO 58 2 12 2 15<|YW 50 74 46 47 48 49<|YW 55 40 51 52 53 54<|YW 60 40 56 57 58 59<|Yf 61 78 55 60<|Zo (.bs 62 1 61 [.t 50,.t 61])<|Ye 16 62) .ret) (Zr (Yn 64 22 9 63)<| .cond (.t 63) (Zr (YO 65 2 11 2 12<|lB 67 2 11 15 13 14<|YO 72 2 13 2 15<|YW 69 40 65 66 67 68<|YW 74 40 70 71 72 73<|Zo (.bs 75 1 61 [.t 69,.t 74])<|Ye 16 75) .ret) (Zr (Yn 77 22 10 76)<| .cond (.t 76) (Zr (YO 78 2 11 2 12<|YO 80 2 13 2 15<|Zq 82 false 108 [.t 78,.t 79,.t 80,.t 81]<|Ye 16 82) .ret) (Zr (Yn 84 22 11 83)<| .cond (.t 83) (Zr (lB 85 2 11 15 12 15<|lB 92 2 11 15 13 15<|DQ 87 85 86) .ret) (Zr (Yn 101 22 12 100)<| .cond (.t 100) (Zr (YO 102 2 11 2 12<|lB 104 2 11 15 13 15<|YO 110 2 13 2 14<|YW 106 40 102 103 104 105<|Yf 109 39 107 108<|jb 112 39 110 111 50 109<|Zo (.bs 114 1 61 [.t 106,.t 113])<|Ye 16 114) .ret) (Zr (Yn 116 22 13 115)<| .cond (.t 115) (Zr (lB 117 2 11 15 11 12<|lB 124 2 13 15 13 14<|DQ 119 117 118) .ret) (Zr (Yn 133 22 14 132)<| .cond (.t 132) (Zr (lB 134 2 11 15 11 12<|lB 141 2 12 15 11 12<|DQ 136 134 135) .ret) .skip)))))))))<|Zr (YK 16) .ret⟩
theorem tf:Qd Tryz.prog f67=some c67:=by kernel_rfl
def c35:az:=⟨73,[.t 6,.t 7],Zr (YM 3 2 25 0<|YM 4 2 33 1<|fJ 6 0)<| .seq (Zr (Zm 10 2<|Zk 11 .lss 10 0<|YP 12 11 2<|Zg 12 false (.bG 14 0 (.t 3))<|Zg 12 false (.ld 15 1 false (.t 14))<|Zg 12 false (.len 16 (.t 15))<|Zg 12 false (.bin 17 .geq false (.t 13) (.t 16))<|Yo 18 12 17<|YP 19 18 2<|Zg 19 false (.bG 21 0 (.t 4))<|Zg 19 false (.ld 22 1 false (.t 21))<|Zg 19 false (.len 23 (.t 22))<|Zg 19 false (.bin 24 .geq false (.t 20) (.t 23))<|Yo 25 19 24 .nil)<| .cond (.t 25) (Zr (fJ 6 2) .ret) .skip)<|Zr (Zo (.alloc 8 8 128 (.agg [.ab,.ab,.ab,.ab,.ab,.ab,.ab,.ab])) .nil)<| .seq (Zr (Yj 9 0)<| .block 0<| .loop<| .seq (Zr (Zm 26 9<|lZ 27 0 3 2 6<|YI 31 2 30<|Zb 34 .lss 26 33<|j' 35 34 9<|Zg 35 true (.bin 37 .lss false (.t 36) (.c (Zz 4)))<|Yp 38 35 37 .nil)<| .cond (.t 38) .skip (.exit 0))<| .seq (.block 1<| .rg (Zm 41 9<|Yb 42 0 4<|lZ 44 0 3 2 6<|eu 48 2 47 9<|Yz 51 49 50<|dW 53 2 43 52<|Zo (.xI 55 4 2 (.t 8) (.t 41))<|Zs 2 55 54 .nil))<| .rg (YA 39 9))<|Zr (YO 56 2 3 2 4<|Zm 58 2<|wW 59 4 2 8 0 8 1<|wW 63 4 2 8 2 8 3<|eu 67 0 4 2<|dW 70 2 68 69<|Zq 72 false 67 [.t 56,.t 57,.t 58,.t 60,.t 62,.t 64,.t 66,.t 71]<|jd 6 72) .ret⟩
theorem aok:Qd Tryz.prog f35=some c35:=by kernel_rfl
def c16:az:=⟨49,[.t 2,.t 3],Zr (dP 1 25 0<|fJ 2 0)<|Zr (Zh 12 2 1<|Zq 13 false 17 [.t 12]<|Zm 11 13<|Yh 14 11<|YT 4 33<|Zs 2 4 14<|Zm 5 15 .nil)<| .seq (Zr (YU 16 5)<| .cond (.t 17) (Zr (Zm 18 5<|Yk 2<|Ye 3 18) .ret) .skip)<|Zr (YK 6)<| .seq (Zr (Yj 7 0)<| .block 0<| .loop<| .seq (Zr (mF 19 7 0 1)<| .cond (.t 23) .skip (.exit 0))<| .seq (.block 1<|Zr (YO 27 2 1 2 4<|Zm 29 7<|Zq 30 false 35 [.t 27,.t 28,.t 29]<|Zm 26 30<|Yh 31 26<|et 8 31 32)<| .seq (Zr (Yj 10 0)<| .block 2<| .loop<| .seq (Zr (YN 33 10 8)<| .cond (.t 36) .skip (.exit 2))<| .seq (.block 3<|Zr (j1 39 8 10<|Zn 43 42<|Zk 44 .gtr 43 4000 .nil)<| .cond (.t 44) (Zr (fJ 2 4) .ret) .skip)<| .rg (YA 37 10))<| .rg (Ym 45 6 8<|Zo (.app 47 1 24 61 (.t 45) (.t 46))<|Ye 6 47))<| .rg (YA 24 7))<|Zr (Zm 48 6<|jd 2 48) .ret⟩
theorem aol:Qd Tryz.prog f16=some c16:=by kernel_rfl
def c73:az:=⟨45,[.t 4],Zr (dP 2 75 0<|dX 3 75 1<|bP 4)<| .seq (Zr (cV 6 0 2 0 3<|Zb 10 .neq 7 9<|Yu 11 10 2 2<|Zg 11 false (.bG 14 2 (.t 3))<|Zg 11 false (.ld 15 1 false (.t 14))<|Zg 11 false (.bin 16 .neq false (.t 13) (.t 15))<|Yo 17 11 16<|Yu 18 17 1 2<|Zg 18 false (.len 21 (.t 20))<|Zg 18 false (.bG 22 1 (.t 3))<|Zg 18 false (.ld 23 1 false (.t 22))<|Zg 18 false (.len 24 (.t 23))<|Zg 18 false (.bin 25 .neq false (.t 21) (.t 24))<|Yo 26 18 25 .nil)<| .cond (.t 26) (Zr (bP 4) .ret) .skip)<| .seq (Zr (Yj 5 0)<| .block 0<| .loop<| .seq (Zr (mF 27 5 1 2)<| .cond (.t 31) .skip (.exit 0))<| .seq (.block 1<|Zr (eu 34 1 2 5<|Yz 37 35 36<|eu 39 1 3 5<|Yz 42 40 41<|Zb 44 .neq 38 43 .nil)<| .cond (.t 44) (Zr (bP 4) .ret) .skip)<| .rg (YA 32 5))<|Zr (YX 4) .ret⟩
theorem aom:Qd Tryz.prog f73=some c73:=by kernel_rfl
def c38:az:=⟨31,[.t 4],Zr (dP 2 75 0<|YM 3 2 25 1<|bP 4)<| .seq (Zr (Yb 7 2 2<|Zk 9 .lss 8 0<|Yu 10 9 2 2<|Zg 10 false (.bG 13 0 (.t 3))<|Zg 10 false (.ld 14 1 false (.t 13))<|Zg 10 false (.len 15 (.t 14))<|Zg 10 false (.bin 16 .geq false (.t 12) (.t 15))<|Yo 17 10 16 .nil)<| .cond (.t 17) (Zr (bP 4) .ret) .skip)<|Zr (Zh 19 2 3<|Yb 20 2 2<|YZ 22 37 19 21 18<|Zo (.alloc 5 3 75 (.agg [Zz 0,.ab,Zz 0]))<|Zs 3 5 23<|Ye 6 24)<|Zr (Zm 25 6<|Zm 26 25<|Zg 26 true (.ld 27 3 true (.t 2))<|Zg 26 true (.ld 28 3 true (.t 5))<|Zg 26 true (.call (some 29) false (.c (.fn 73 [] [])) [.t 27,.t 28])<|Yp 30 26 29<|Ye 4 30) .ret⟩
theorem anO:Qd Tryz.prog f38=some c38:=by kernel_rfl
def c19:az:=⟨106,[.t 6,.t 7],Zr (dX 3 75 0<|YM 4 2 25 1<|YM 5 2 33 2<|fJ 6 0)<| .seq (Zr (YO 11 3 3 2 4<|Yr 13 38 11 12<|Zu 14 13 .nil)<| .cond (.t 14) (Zr (fJ 6 1) .ret) .skip)<|Zr (Yb 15 0 5<|Zm 8 16 .nil)<| .seq (Zr (Yb 17 0 3 .nil)<| .block 0<|Zr (Yn 20 18 1 19)<| .cond (.t 19) (Zr (YD 21 0<|YD 28 1<|Zq 35 false 39 [.t 27,.t 34]<|jd 6 35) .ret) (Zr (Yn 37 18 2 36)<| .cond (.t 36) (Zr (YD 38 0<|YD 45 1<|YD 52 0<|YD 59 2<|Zq 66 false 40 [.t 44,.t 51,.t 58,.t 65]<|jd 6 66) .ret) (Zr (Yn 68 18 3 67)<| .cond (.t 67) (Zr (YD 69 0<|YD 76 1<|YD 83 2<|YD 90 3<|Zq 97 false 40 [.t 75,.t 82,.t 89,.t 96]<|jd 6 97) .ret) .skip)))<|Zr (Zh 99 2 5<|Yb 100 2 3<|YZ 102 41 99 101 98<|et 9 103 104)<|Zr (Zm 105 9<|jd 6 105) .ret⟩
theorem Ib:Qd Tryz.prog f19=some c19:=by kernel_rfl
def wZ:az:=⟨5,[.t 2],Zr (dP 1 25 0<|bP 2)<|Zr (Zh 3 2 1<|Yv 4 26 3<|Zm 2 4 .nil) .ret⟩
theorem anP:Qd Tryz.prog f12=some wZ:=by kernel_rfl
def c5:az:=⟨51,[.t 2],Zr (dP 1 25 0<|bP 2)<| .seq (Zr (Zh 8 2 1<|Zq 9 false 12 [.t 8]<|Zu 10 9 .nil)<| .cond (.t 10) (Zr (bP 2) .ret) .skip)<|Zr (oE 12 2 1 7 11<|Zo (.alloc 3 7 37 (.agg [.ab,.ab,.ab,.ab,.ab,.ab,.ab]))<|Zs 7 3 14<|Zm 4 15 .nil)<| .seq (Zr (YU 16 4)<| .cond (.t 17) (Zr (bP 2) .ret) .skip)<|Zr (Yb 19 4 3<|Zf 22 5 3<| .br (Zo (.bs 18 1 61 [])<| .br (Zo (.app 21 1 24 61 (.t 18) (.t 20))<|Zl 23 1 22<|Zo (.app 24 1 24 61 (.t 21) (.t 23))<|Ye 5 24) (Zl 23 1 22<|Zo (.app 21 1 24 61 (.t 18) (.t 20))<|Zo (.app 24 1 24 61 (.t 21) (.t 23))<|Ye 5 24)) (Zl 23 1 22<|Zo (.bs 18 1 61 [])<|Zo (.app 21 1 24 61 (.t 18) (.t 20))<|Zo (.app 24 1 24 61 (.t 21) (.t 23))<|Ye 5 24))<| .seq (Zr (Yj 6 0)<| .block 0<| .loop<| .seq (Zr (mF 25 6 6 3)<| .cond (.t 29) .skip (.exit 0))<| .seq (.block 1<| .rg (Zm 32 5<|eu 33 6 3 6<|Yz 36 34 35<|Zo (.app 38 1 24 61 (.t 32) (.t 37))<|Ye 5 38))<| .rg (YA 30 6))<| .seq (Zr (Yj 7 0)<| .block 2<| .loop<| .seq (Zr (YN 39 7 5)<| .cond (.t 42) .skip (.exit 2))<| .seq (.block 3<|Zr (j1 45 5 7<|Zn 49 48<|Zk 50 .gtr 49 60 .nil)<| .cond (.t 50) (Zr (bP 2) .ret) .skip)<| .rg (YA 43 7))<|Zr (YX 2) .ret⟩
theorem apu:Qd Tryz.prog Tryz.f5=some c5:=by kernel_rfl
def r8:az:=⟨91,[.cell 4 3 true,.t 5],Zr (dX 2 25 0<|Zo (.alloc 4 3 75 (.agg [Zz 0,.ab,Zz 0]))<|bP 5)<|Zr (lZ 7 0 2 1 6<|Yb 11 2 10<|Zm 6 12 .nil)<| .seq (Zr (lZ 13 0 2 1 6<|Yb 17 0 16 .nil)<| .block 0<|Zr (Yn 20 18 6 19)<| .cond (.t 19) (Zr (Zm 21 1<|Zo (.dY 22 [Zz 0,.ab,Zz 0] [(0,1,.c (Zz 4)),(2,1,.t 21)])<|Zs 3 4 22<|YX 5) .ret) (.seq (Zr (Yn 24 18 7 23)<| .cond (.t 23) .skip (.rg (Yn 25 18 8 23)))<| .cond (.t 23) (Zr (ir 26 6 1<|ir 29 6 2<|Zm 33 1<|Zo (.bs 32 1 3 [.t 28,.t 31])<| .wk<|yF 34 1 32 33) .ret) (Zr (Yn 36 18 9 35)<| .cond (.t 35) (Zr (ir 37 6 0<|ir 40 6 1<|ir 43 6 2<|ir 46 6 3<|Zm 50 1<|Zo (.bs 49 1 3 [.t 39,.t 42,.t 45,.t 48])<| .wk<|yF 51 3 49 50) .ret) (.seq (Zr (Yn 53 18 10 52)<| .cond (.t 52) .skip (Zr (Yn 54 18 12 52)<| .cond (.t 52) .skip (.rg (Yn 55 18 14 52))))<| .cond (.t 52) (Zr (ir 56 6 0<|ir 59 6 1<|Zm 63 1<|Zo (.bs 62 1 3 [.t 58,.t 61])<| .wk<|yF 64 1 62 63) .ret) (Zr (Yn 66 18 11 65)<| .cond (.t 65) (Zr (ir 67 6 0<|ir 70 6 1<|ir 73 6 2<|Zm 77 1<|Zo (.bs 76 1 3 [.t 69,.t 72,.t 75])<| .wk<|yF 78 2 76 77) .ret) (Zr (Yn 80 18 13 79)<| .cond (.t 79) (Zr (ir 81 6 0<|ir 84 6 2<|Zm 88 1<|Zo (.bs 87 1 3 [.t 83,.t 86])<| .wk<|yF 89 1 87 88) .ret) .skip))))))<|Zr (Zo (.dY 90 [Zz 0,.ab,Zz 0] [])<|Zs 3 4 90<|bP 5) .ret⟩
theorem tg:Qd Tryz.prog f37=some r8.strip:=by kernel_rfl
def Bn:az:=⟨37,[.t 2,.t 3],Zr (dP 1 25 0<|fJ 2 0)<| .seq (Zr (Zh 11 2 1<|Zq 12 false 17 [.t 11]<|Zm 10 12<|Yh 13 10<|YT 4 33<|Zs 2 4 13<|Zm 5 14 .nil)<|Zr (YU 15 5)<| .cond (.t 16) (Zr (Zm 17 5<|Yk 2<|Ye 3 17) .ret) .skip)<|Zr (YK 6)<| .seq (Zr (Yj 7 0)<| .block 0<| .loop<| .seq (Zr (mF 18 7 0 1)<| .cond (.t 22) .skip (.exit 0))<| .seq (.block 1<|Zr (Zh 26 2 1<|Zm 27 7<|Zq 28 false 37 [.t 26,.t 27]<|Zm 25 28<|Yh 29 25<|Zo (.alloc 8 3 75 (.agg [Zz 0,.ab,Zz 0]))<|Zs 3 8 29<|Ye 9 30)<|Zr (Ye 31 9)<| .cond (.t 31) (.rg (Zm 32 6<|Zh 33 3 8<|Zo (.bs 34 3 75 [.t 33])<| .wk<|Zo (.app 35 3 40 75 (.t 32) (.t 34))<|Ye 6 35)) .skip)<| .rg (YA 23 7))<|Zr (Zm 36 6<|jd 2 36) .ret⟩
theorem anQ:Qd Tryz.prog f18=some Bn.strip:=by kernel_rfl
def c7:az:=⟨101,[.cell 2 7 true,.t 3],Zr (dP 1 25 0<|Zo (.alloc 2 7 37 (.agg [.ab,.ab,.ab,.ab,.ab,.ab,.ab]))<|Yj 3 0)<| .seq (Zr (Zh 18 2 1<|Yv 19 15 18<|Ye 4 19)<|Zr (YU 20 4)<| .cond (.t 21) (Zr (Zo (.dY 22 [.ab,.ab,.ab,.ab,.ab,.ab,.ab] [])<|Zm 23 4<|Zs 7 2 22<|Ye 3 23) .ret) .skip)<|Zr (oE 25 2 1 16 24<|et 5 27 28)<| .seq (Zr (YU 29 6)<| .cond (.t 30) (Zr (Zo (.dY 31 [.ab,.ab,.ab,.ab,.ab,.ab,.ab] [])<|Zm 32 6<|Zs 7 2 31<|Ye 3 32) .ret) .skip)<|Zr (oE 34 2 1 17 33<|YT 7 33<|Zs 2 7 36<|Ye 8 37)<|Zr (YO 38 2 1 2 7<|Zm 40 5<|Zo (.dY 41 [.ab,.ab,.ab,.ab,.ab,.ab,.ab] [(0,2,.t 38),(2,2,.t 39),(4,1,.t 40)])<|Zo (.alloc 9 7 37 (.agg [.ab,.ab,.ab,.ab,.ab,.ab,.ab]))<|Zs 7 9 41<| .wk<| .wk<| .wk<| .wk .nil)<|Zr (oE 43 2 1 18 42<|et 10 45 46)<| .seq (Zr (Yj 12 0)<| .block 0<| .loop<| .seq (Zr (YN 47 12 10)<| .cond (.t 50) .skip (.exit 0))<| .seq (.block 1<|Zr (l0 54 10 12 3<|YO 57 3 56 2 1<|Zh 59 2 7<|Zq 60 false 19 [.t 57,.t 58,.t 59]<|Zm 53 60<|Yh 61 53<|et 13 61 62)<| .seq (Zr (YB 63 13<|Zk 65 .gtr 64 4000 .nil)<| .cond (.t 65) (Zr (Zo (.dY 66 [.ab,.ab,.ab,.ab,.ab,.ab,.ab] [])<|Zs 7 2 66<|Yj 3 4) .ret) .skip)<| .rg (eu 67 5 9 13<|Yy 70 1 61 69 24 68<|Zf 72 5 9<|Zs 1 72 71 .nil))<| .rg (YA 51 12))<| .seq (Zr (Yj 15 0)<| .block 2<| .loop<| .seq (Zr (mF 73 15 1 1)<| .cond (.t 77) .skip (.exit 2))<| .seq (.block 3<|Zr (lZ 81 1 1 15 5<|YO 85 5 84 2 7<|YZ 87 20 85 86 80<|et 16 88 89)<| .seq (Zr (YU 90 17)<| .cond (.t 91) (Zr (Zo (.dY 92 [.ab,.ab,.ab,.ab,.ab,.ab,.ab] [])<|Zm 93 17<|Zs 7 2 92<|Ye 3 93) .ret) .skip)<| .rg (eu 94 6 9 16<|Yy 97 1 34 96 24 95<|Zf 99 6 9<|Zs 1 99 98 .nil))<| .rg (YA 78 15))<|Zr (Zh 100 7 9<| .wk<|Zs 7 2 100<|Yj 3 0) .ret⟩
theorem apv:Qd Tryz.prog f7=some c7.strip:=by kernel_rfl
theorem ahZ(v:Nat):jX v=oy v 1:=rfl
theorem Uw{v:Nat}(hv:v<64):AC 76 [.int .i64 v] (· =PV.ay (cq v)):=by
 have zu:(List.replicate (v+1) (0:Int)).set v 1=oy v 1:=ahW v 1 rfl;have ZJ:v<(List.replicate (v+1) (0:Int)).length:=by simp
 have BM:=vh;have eS:(oy v 1).length=v+1:=by simp[oy]
 have bD:=(Uv (p:=[]) (m:=oy v 1) (K:=1) (E:=1) (k:=4) (PB.nil _ _) trivial (by simp[NZ]) (kC (q:=((1:Int):Rat)) (k:=4) (by rw[show((1:Int):Rat)=1 from rfl];omega)) (by omega) (akl hv) (aeU (by omega)) (by omega) (by omega) (by simp)).le (args':=[.ab,PV.rat ((1:Int):Rat),PV.mono (oy v 1)]) ⟨trivial,Qe _,Qe _,trivial⟩;rw[kG]at bD;have e:rL [] ((1:Int):Rat) (oy v 1)=cq v:=by rw[rL,wu,if_neg (by decide),cq,if_neg (by omega),Kbs,ahZ];rfl
 rw[e]at bD;refine wm Qf func76 rfl am9 (by simp[c76]) fun C hP=>?_;simp only[c76];refine eY ?_;refine Sz0 ?_;refine Qp (fun h=>by omega) (fun _=>?_);refine Sz0 ?_;refine Qa (fun h=>by omega) (fun _=>?_);refine Sz1 zu ?_;refine Qy hP (Ab (x:=1) (by omega) (by omega)) rfl rfl rfl ?_;generalize((1:Int):Rat)=c at *
 refine Sz0 ?_;refine ik hP bD (by simp+decide (disch:=try exact E0) only[go_sem,il,KaK,KaT,KaC,KaN,Kak];simp[Kah,eS]) rfl ?_;refine Sz0 ?_;exact Qc rfl rfl
def W5:az:=⟨25,[.cell 8 2 true,.t 9],Zr (YM 4 2 33 0<|YT 8 33<| .wk<| .wk<|YK 9)<|Zr (Yb 10 1 4<|eG 12 1 2 3<|Zo (.dY 15 [Zz 0,Zz 0,Zz 0] [(0,1,.t 12),(1,1,.t 13),(2,1,.t 14)])<|Zo (.bs 16 3 143 [.t 15])<|Zo (.app 17 3 24 143 (.t 11) (.t 16))<|Zf 18 1 4<|Zs 1 18 17 .nil)<|Zr (Zh 19 2 4<|YI 20 1 4<|Zk 23 .sub 22 1<|dJ 24 76 23<|Zs 2 8 19<|Ye 9 24) .ret⟩
theorem anR:Qd Tryz.prog f71=some W5.strip:=by kernel_rfl
def ID:az:=⟨29,[.cell 6 2 true,.cell 7 2 true],Zr (YM 3 2 33 0<|YT 6 33<| .wk<| .wk<|YT 7 98 .nil)<|Zr (YT 8 98<| .wk .nil)<| .seq (Zr (Zm 9 2<|Zk 10 .gtr 9 0 .nil)<| .cond (.t 10) (.rg (Zh 12 2 3<| .wk<|Zm 13 1<|Zq 14 false 71 [.t 12,.c (Zz 1),.t 13,.c (Zz 0)]<|Zm 11 14<|Yh 15 11<|Zs 2 3 15<|Zf 17 0 8<|Zs 1 17 16 .nil)) .skip)<| .seq (Zr (Zm 18 2<|Zk 19 .gtr 18 1 .nil)<| .cond (.t 19) (.rg (Zh 21 2 3<| .wk<|Zm 22 1<|Zq 23 false 71 [.t 21,.c (Zz 1),.t 22,.c (Zz 1)]<|Zm 20 23<|Yh 24 20<|Zs 2 3 24<|Zf 26 1 8<|Zs 1 26 25 .nil)) .skip)<|Zr (Zh 27 2 3<| .br (Zh 28 2 8<|Zs 2 6 27<|Zs 2 7 28 .nil) (Zs 2 6 27<|Zh 28 2 8<|Zs 2 7 28 .nil)) .ret⟩
theorem Kl:Qd Tryz.prog f68=some ID.strip:=by kernel_rfl
def W6:az:=⟨28,[.cell 6 2 true,.cell 7 2 true],Zr (YM 3 2 33 0<|YT 6 33<| .wk<| .wk<|YT 7 98 .nil)<|Zr (YT 8 98 .nil)<|Zr (Zh 10 2 3<| .wk<|Ym 11 1 2<|Zq 13 false 71 [.t 10,.c (Zz 2),.t 11,.t 12]<|Zm 9 13<|Yh 14 9<|Zs 2 3 14<|Zf 16 0 8<|Zs 1 16 15 .nil)<|Zr (Zh 18 2 3<| .wk<|Ym 19 1 2<|Zk 21 .add 20 1<|Zq 22 false 71 [.t 18,.c (Zz 2),.t 19,.t 21]<|Zm 17 22<|Yh 23 17<|Zs 2 3 23<|Zf 25 1 8<|Zs 1 25 24 .nil)<|Zr (Zh 26 2 3<| .br (Zh 27 2 8<|Zs 2 6 26<|Zs 2 7 27 .nil) (Zs 2 6 26<|Zh 27 2 8<|Zs 2 7 27 .nil)) .ret⟩
theorem anS:Qd Tryz.prog f72=some W6.strip:=by kernel_rfl
def WZ:az:=⟨157,[.cell 8 2 true,.cell 9 2 true],Zr (YM 4 2 33 0<|YM 5 2 25 1<|YT 8 33<| .wk<| .wk<|YT 9 98 .nil)<|Zr (eu 18 0 5 2<|yE 21 19 20 10<|Zs 6 10 22 .nil)<|Zr (YK 11)<| .seq (Zr (YI 23 2 10<|Yj 26 0)<| .block 0<| .loop<|Zr (Yw 27 26 25)<| .seq (.cond (.t 27) .skip (.exit 0))<| .seq (.block 1<|Zr (Yz 28 24 26<|Ye 13 29)<| .rg (Zm 30 11<|eu 31 0 4 13<|dW 34 2 32 33<|Zo (.bs 36 2 98 [.t 35])<|Zo (.app 37 2 48 98 (.t 30) (.t 36))<|Ye 11 37))<| .rg (YE 38 26 26))<| .seq (Zr (Yb 39 0 10 .nil)<| .block 2<|Zr (Yn 42 40 1 41)<| .cond (.t 41) (Zr (Zh 43 2 4<|Ym 44 2 3<|Zq 46 false 68 [.t 43,.t 44,.t 45]<|Yh 47 46<|Zs 2 8 47<|Zs 2 9 48 .nil) .ret) (Zr (Yn 50 40 2 49)<| .cond (.t 49) (Zr (Zh 51 2 4<|Yq 52 11 2 0 1<|YC 58 3 10 3<|dJ 60 51 59<|Zq 61 true 69 [.t 54,.t 57,.t 60]<|Zs 2 8 51<|Zs 2 9 61 .nil) .ret) (Zr (Yn 63 40 3 62)<| .cond (.t 62) (Zr (Zh 64 2 4<|Bh 65 0 2 0 1<|Bh 78 1 2 1 1<|Zq 77 true 70 [.t 68,.t 72,.t 76]<|Zq 90 true 70 [.t 81,.t 85,.t 89]<|Zo (.dY 91 [.ab,.ab] [(0,1,.t 77),(1,1,.t 90)])<|Zs 2 8 64<|Zs 2 9 91 .nil) .ret) (Zr (Yn 93 40 4 92)<| .cond (.t 92) (Zr (Zh 94 2 4<|Bh 95 0 1 1 2<|Bh 108 1 2 0 1<|Zq 107 true 70 [.t 98,.t 102,.t 106]<|Zq 120 true 70 [.t 111,.t 115,.t 119]<|Zo (.dY 121 [.ab,.ab] [(0,1,.t 107),(1,1,.t 120)])<|Zs 2 8 94<|Zs 2 9 121 .nil) .ret) (Zr (Yn 123 40 5 122)<| .cond (.t 122) (Zr (Zh 125 2 4<|Zm 126 2<|Zq 127 false 71 [.t 125,.c (Zz 1),.t 126,.c (Zz 0)]<|Zm 124 127<|Yh 128 124<|YT 14 33<| .wk<| .wk<|Zs 2 14 128<|Ye 15 129)<|Zr (Zh 130 2 14<|Yq 131 11 2 0 1<|Zm 137 15<|Zq 138 true 69 [.t 133,.t 136,.t 137]<|Zs 2 8 130<|Zs 2 9 138 .nil) .ret) (Zr (Yn 140 40 6 139)<| .cond (.t 139) (Zr (Zh 142 2 4<|Zm 143 2<|Zq 144 false 71 [.t 142,.c (Zz 1),.t 143,.c (Zz 0)]<|Zm 141 144<|Yh 145 141<|YT 16 33<| .wk<| .wk<|Zs 2 16 145<|Ye 17 146)<|Zr (Zh 147 2 16<|Zm 148 2<|Zq 149 false 72 [.t 147,.t 148,.c (Zz 1)]<|Yh 150 149<|Zs 2 8 150<|Zs 2 9 151 .nil) .ret) .skip))))))<|Zr (Zh 152 2 4<|Zm 153 2<|Zq 154 false 72 [.t 152,.t 153,.c (Zz 0)]<|Yh 155 154<|Zs 2 8 155<|Zs 2 9 156 .nil) .ret⟩
theorem anT:Qd Tryz.prog f36=some WZ.strip:=by kernel_rfl
def WS:az:=⟨64,[.cell 2 2 true,.t 3],Zr (dP 1 25 0<|Zo (.alloc 2 2 33 (.agg [.ab,.ab]))<|Yj 3 0)<| .seq (Zr (Zh 11 2 1<|Zq 12 false 15 [.t 11]<|Zm 4 12 .nil)<|Zr (YU 13 4)<| .cond (.t 14) (Zr (Zo (.dY 15 [.ab,.ab] [])<|Zm 16 4<|Zs 2 2 15<|Ye 3 16) .ret) .skip)<|Zr (YT 5 33<| .wk<| .wk<| .wk<| .wk .nil)<|Zr (Yj 6 0)<| .seq (Zr (YI 17 0 1<|Yj 20 0)<| .block 0<| .loop<|Zr (Yw 21 20 19)<| .seq (.cond (.t 21) .skip (.exit 0))<| .seq (.block 1<|Zr (Zm 22 20<|yE 23 18 20 8<|Zm 7 22<|Zs 6 8 24 .nil)<|Zr (Zh 26 2 5<| .wk<|Zh 27 2 1<|Ym 28 7 6<|Zq 30 false 36 [.t 26,.t 27,.t 28,.t 29]<|Zm 25 30<|Yh 31 25<|YT 9 33<| .wk<| .wk<|YT 10 98<|Zs 2 9 31<|Zs 2 10 32 .nil)<| .seq (Zr (YI 33 1 9<|Zk 36 .gtr 35 64<|YL 37 36 0 10 4000<|YL 43 42 1 10 4000 .nil)<| .cond (.t 48) (Zr (Zo (.dY 49 [.ab,.ab] [])<|Zs 2 2 49<|Yj 3 4) .ret) .skip)<|Zr (Zh 50 2 9<| .wk<|Zs 2 5 50 .nil)<|Zr (Yb 51 0 5<|Zh 53 2 10<|Yy 54 2 98 53 48 52<|Zf 56 0 5<|Zs 1 56 55 .nil)<|Zr (Yb 57 0 8<|kN 59 58 1)<| .cond (.t 59) (.rg (YA 60 6)) .skip)<| .rg (jZ 62 20))<|Zr (Zh 63 2 5<| .wk<|Zs 2 2 63<|Yj 3 0) .ret⟩
theorem anU:Qd Tryz.prog f17=some WS.strip:=by kernel_rfl
abbrev Cd:=List Tm×List Tm
abbrev Vr:=Int×Int×Int
abbrev PV.aD(c:Cd):PV:=.agg [PV.ay c.1,PV.ay c.2]
abbrev PV.fvar(v:Vr):PV:=.agg [.int .i64 v.1,.int .i64 v.2.1,.int .i64 v.2.2]
abbrev BC(cs:List Cd):HB:=⟨2,98,cs.map PV.aD,false⟩
abbrev BD(vs:List Vr):HB:=⟨3,143,vs.map PV.fvar,false⟩
abbrev rV(f:Nat)(cs:List Cd)(vs eL:List Vr)(args:List PV)(q:PV):Prop:=
 Ax Tryz.prog f (GA cs.length vs.length::args) (fun _=>.undef) (Qj (Qj aA 2000000 (BC cs)) 2000001 (BD vs)) fun r _ H=>r= .dx [.ms 2000000 cs.length,.ms 2000001 eL.length] q/\H 2000000=some (BC cs)/\H 2000001=some (BD eL)
theorem Az{cs:List Cd}{vs:List Vr}{k s m:Int}(hv:vs.length<64):rV 71 cs vs (vs++[(k,s,m)]) [.int .i64 k,.int .i64 s,.int .i64 m] (PV.ay (cq vs.length)):=by
 have avV:=Uw (v:=vs.length) hv;refine Af Qf func71 rfl anR Nz fun C hP=>?_;simp only[W5];refine eY ?_;refine Sz0 ?_;refine dn (rK 8 2000010 a9 Oz rfl Oz) ?_;refine Sz0 ?_;refine dn (rD (γ:=2000010) (e:=2) (ty:=33) (xs:=[.agg [.ab,.ab]]) (fz:=false) Tz0 (by simp) Oz (fun x hx=>by rw[Kay.1 hx];rfl)) ?_;refine Sz0 ?_;rw[G3 (f:=PV.fvar) (y:=(k,s,m)) (xs:=vs) (ty':=143) (fz:=false) Tz0 Tz0 Oz rfl Oz Oz Oz];have zy:((vs.length+1:Nat):Int)-1=(vs.length:Nat):=by omega
 refine pP zy hP avV ?_;refine Sz0 ?_;refine aha (γ:=2000010) (ty:=33) (n:=cs.length) (m:=vs.length+1) Tz0 Tz0 (q:=PV.ay (cq vs.length)) Tz0 rfl ⟨by simp,by simp+decide (disch:=try exact D0) only[go_sem],by simp+decide (disch:=try exact D0) only[go_sem]⟩
theorem Ux{cs:List Cd}{vs:List Vr}{s m:Int}(hv:vs.length<63)(hm:0<=m/\m<1000):
  rV 72 cs vs (vs++[(2,s,m),(2,s,m+1)]) [.int .i64 s,.int .i64 m] (PV.aD (cq vs.length,cq (vs.length+1:Nat))):=by
 have h1:=Az (cs:=cs) (vs:=vs) (k:=2) (s:=s) (m:=m) Oz;have h2:=Az (cs:=cs) (vs:=vs++[(2,s,m)]) (k:=2) (s:=s) (m:=m+1) (by simp;omega);have e1:(vs++[(2,s,m)]).length=vs.length+1:=by simp
 have e2:vs++[(2,s,m)]++[(2,s,m+1)]=vs++[(2,s,m),(2,s,m+1)]:=by simp
 have e3:(vs++[(2,s,m),(2,s,m+1)]).length=vs.length+1+1:=by simp
 rw[rV,e2,e1,e3]at h2;rw[rV,e1]at h1;refine Af Qf func72 rfl anS Nz fun C hP=>?_;simp only[W6];refine eY ?_;refine Sz0 ?_;refine dn (rK 6 2000010 a9 Oz rfl Oz) ?_;refine Sz0 ?_;refine dn (rD (γ:=2000010) (e:=2) (ty:=33) (xs:=[.agg [.ab,.ab]]) (fz:=false) Tz0 (by simp) Oz (fun x hx=>by rw[Kay.1 hx];rfl)) ?_;refine Sz0 ?_;refine dn (Ao (γ:=4000003) (e:=2) (ty:=33) (cs:=[.ax 2000000 0 cs.length,.ax 2000001 0 vs.length]) Tz0) ?_;refine Sz0 ?_;refine rA hP h1 Tz0 Tz0 rfl rfl rfl (by simp) ?_;refine Sz0 ?_;refine dn (Ao (γ:=4000003) (e:=2) (ty:=33) (cs:=[.ax 2000000 0 cs.length,.ax 2000001 0 (vs.length+1)]) Tz0) ?_;refine Sz0 ?_;refine rA hP h2 Tz0 Tz0 rfl rfl rfl (by simp) ?_;refine Sz0 ?_;refine eW ?_ ?_
 all_goals
  refine Sz0 ?_;refine rm (γ:=2000010) (ty:=33) (n:=cs.length) (m:=vs.length+1+1) Tz0 Tz0 (q:=PV.aD (cq vs.length,cq (vs.length+1:Nat))) Tz0 rfl ⟨by rw[e3],by simp+decide (disch:=try exact D0) only[go_sem],by simp+decide (disch:=try exact D0) only[go_sem]⟩
def rM(s:Int)(b:Nat):List Vr:=if b=0 then []else if b=1 then [(1,s,0)]else [(1,s,0),(1,s,1)]
def tl(n b:Nat):Cd:=if b=0 then([],[])else if b=1 then(cq n,[])else(cq n,cq (n+1:Nat))
theorem anV{cs:List Cd}{vs:List Vr}{s:Int}{b:Nat}(hv:vs.length<62)(hb:b<1000):
  rV 68 cs vs (vs++rM s b) [.int .i64 s,.int .i64 b] (PV.aD (tl vs.length b)):=by
 have h1:=Az (cs:=cs) (vs:=vs) (k:=1) (s:=s) (m:=0) Oz;have h2:=Az (cs:=cs) (vs:=vs++[(1,s,0)]) (k:=1) (s:=s) (m:=1) (by simp;omega);have e1:(vs++[(1,s,0)]).length=vs.length+1:=by simp
 have e2:vs++[(1,s,0)]++[(1,s,1)]=vs++[(1,s,0),(1,s,1)]:=by simp
 have e3:(vs++[(1,s,0),(1,s,1)]).length=vs.length+1+1:=by simp
 rw[rV,e2,e1,e3]at h2;rw[rV,e1]at h1;rcases(by omega:b=0∨b=1∨2<=b)with rfl|rfl|cN
 ·rw[show vs++rM s 0=vs by simp[rM],show tl vs.length 0=([],[])from rfl];refine Af Qf func68 rfl Kl Nz fun C hP=>?_;simp only[ID];refine eY ?_;refine Sz0 ?_;refine dn (rK 6 2000010 a9 Oz rfl Oz) ?_;refine Sz0 ?_;refine dn (rD (γ:=2000010) (e:=2) (ty:=33) (xs:=[.agg [.ab,.ab]]) (fz:=false) Tz0 (by simp) Oz (fun x hx=>by rw[Kay.1 hx];rfl)) ?_;refine Sz0 ?_;refine dn (Ml (O:=8) (ty:=98) (e:=4) (e':=4) Tz0) ?_;refine Sz0 ?_;refine eW ?_ ?_
  all_goals
   refine Sz0 ?_;refine rm (γ:=2000010) (ty:=33) (n:=cs.length) (m:=vs.length) Tz0 Tz0 (q:=PV.aD ([],[])) a9 rfl ⟨by rfl,by simp+decide (disch:=try exact D0) only[go_sem],by simp+decide (disch:=try exact D0) only[go_sem]⟩
 ·rw[show rM s 1=[(1,s,0)]from rfl,show tl vs.length 1=(cq vs.length,[])from rfl];refine Af Qf func68 rfl Kl Nz fun C hP=>?_;simp only[ID];refine eY ?_;refine Sz0 ?_;refine dn (rK 6 2000010 a9 Oz rfl Oz) ?_;refine Sz0 ?_;refine dn (rD (γ:=2000010) (e:=2) (ty:=33) (xs:=[.agg [.ab,.ab]]) (fz:=false) Tz0 (by simp) Oz (fun x hx=>by rw[Kay.1 hx];rfl)) ?_;refine Sz0 ?_;refine dn (Ml (O:=8) (ty:=98) (e:=4) (e':=4) Tz0) ?_;refine Sz0 ?_;refine dn (Ao (γ:=4000003) (e:=2) (ty:=33) (cs:=[.ax 2000000 0 cs.length,.ax 2000001 0 vs.length]) Tz0) ?_;refine Sz0 ?_;refine rA hP h1 Tz0 Tz0 rfl rfl rfl (by simp) ?_;refine Sz0 ?_;refine eW ?_ ?_
  all_goals
   refine Sz0 ?_;refine rm (γ:=2000010) (ty:=33) (n:=cs.length) (m:=(vs.length+1)) Tz0 Tz0 (q:=PV.aD (cq vs.length,[])) a9 rfl ⟨by rw[e1],by simp+decide (disch:=try exact D0) only[go_sem],by simp+decide (disch:=try exact D0) only[go_sem]⟩
 ·rw[show rM s b=[(1,s,0),(1,s,1)]by unfold rM;rw[if_neg Oz,if_neg Oz],show tl vs.length b=(cq vs.length,cq (vs.length+1:Nat))by unfold tl;rw[if_neg Oz,if_neg Oz]];have d1:decide (0<(b:Int))=true:=decide_eq_true Oz;have d2:decide (1<(b:Int))=true:=decide_eq_true Oz;refine Af Qf func68 rfl Kl Nz fun C hP=>?_;simp only[ID];refine eY ?_;refine Sz0 ?_;refine dn (rK 6 2000010 a9 Oz rfl Oz) ?_;refine Sz0 ?_;refine dn (rD (γ:=2000010) (e:=2) (ty:=33) (xs:=[.agg [.ab,.ab]]) (fz:=false) Tz0 (by simp) Oz (fun x hx=>by rw[Kay.1 hx];rfl)) ?_;refine Sz0 ?_;refine dn (Ml (O:=8) (ty:=98) (e:=4) (e':=4) Tz0) ?_;refine Sz1 d1 ?_;refine dn (Ao (γ:=4000003) (e:=2) (ty:=33) (cs:=[.ax 2000000 0 cs.length,.ax 2000001 0 vs.length]) Tz0) ?_;refine Sz0 ?_;refine rA hP h1 Tz0 Tz0 rfl rfl rfl (by simp) ?_;refine Sz1 d2 ?_;refine dn (Ao (γ:=4000003) (e:=2) (ty:=33) (cs:=[.ax 2000000 0 cs.length,.ax 2000001 0 (vs.length+1)]) Tz0) ?_;refine Sz0 ?_;refine rA hP h2 Tz0 Tz0 rfl rfl rfl (by simp) ?_;refine Sz0 ?_;refine eW ?_ ?_
  all_goals
   refine Sz0 ?_;refine rm (γ:=2000010) (ty:=33) (n:=cs.length) (m:=(vs.length+1+1)) Tz0 Tz0 (q:=PV.aD (cq vs.length,cq (vs.length+1:Nat))) a9 rfl ⟨by rw[e3],by simp+decide (disch:=try exact D0) only[go_sem],by simp+decide (disch:=try exact D0) only[go_sem]⟩
theorem jR{p q:List Tm}{T K E:Nat}(hp:PQ T K E p)(hq:PQ T K E q)(hT:T<=2^30)(hK:K+2<=2^31)(hE:E<=2^38):AC 50 [PV.ay p,PV.ay q] (· =PV.ay (bF p q)):=
 Uu (K:=K+2) (hp.mono (Kae _) Oz (Kae _)).b (hq.mono (Kae _) Oz (Kae _)).b hq.n.z Oz Oz hE (by have:=hp.l;omega) (by have:=hq.l;omega)
theorem th{p q:List Tm}{T K E:Nat}(hp:PQ T K E p)(hq:PQ T K E q)(hT:T<=2^30)(hK:K<=2^32)(hE:E<=2^38):AC 78 [PV.ay p,PV.ay q] (· =PV.ay (Qu p q)):=
 KR hp.b hq.b hK hE (by have:=hp.l;omega) (by have:=hq.l;omega)
theorem uR{p q:List Tm}{T K E:Nat}(hp:PQ T K E p)(hq:PQ T K E q)(hT:T<=2^15)(hK:T*(K+K)+(K+K)<=2^32)(hE:E<=2^37):AC 75 [PV.ay p,PV.ay q] (· =PV.ay (cB p q)):=by
 have h1:=hp.l;have h2:=hq.l;have h3:q.length*p.length<=2^15*2^15:=KbU Oz Oz;have h4:q.length*(K+K)<=T*(K+K):=Kam _ h2;have:=Q4s hp.b hq.b hp.n.z hq.n.z hE Oz Oz Oz Oz
 rwa[ahu hp.n hq.n]at this
def oh(p q r:List Tm):List Tm:=Qu p (bF q r)
def yl(a b:Cd)(m:List Tm):Cd:=(Qu a.1 (cB m (bF b.1 a.1)),Qu a.2 (cB m (bF b.2 a.2)))
def lS(a b c d:Cd):List Tm:=bF (cB (bF b.1 a.1) (bF d.2 c.2)) (cB (bF b.2 a.2) (bF d.1 c.1))
def eD(a b c d:Cd):List Tm:=Qu (cB (bF b.1 a.1) (bF d.1 c.1)) (cB (bF b.2 a.2) (bF d.2 c.2))
structure CQ(T K E:Nat)(c:Cd):Prop where
 x:PQ T K E c.1
 y:PQ T K E c.2
theorem CQ.mono{T K E T' K' E':Nat}{c:Cd}(h:CQ T K E c)(h1:T<=T')(h2:K<=K')(h3:E<=E'):CQ T' K' E' c:=⟨h.x.mono h1 h2 h3,h.y.mono h1 h2 h3⟩
theorem Ij{p q r:List Tm}{T K E:Nat}(hp:PQ T K E p)(hq:PQ T K E q)(hr:PQ T K E r)(hT:T<=2^20)(hK:K<=2^28)(hE:E<=2^20):AC 70 [PV.ay p,PV.ay q,PV.ay r] (· =PV.ay (oh p q r)):=by have h1:=jR hq hr Oz Oz Oz;have h2:=th (T:=T+T) (K:=K+(K+2)) (hp.mono Oz Oz (Kae _)) (hq.sub hr) Oz Oz Oz;refine aw Qf func70 anB fun C hP=>?_;refine aq hP h1 ?_;refine aq hP h2 ?_;refine Sz0 ?_;exact Qc rfl rfl
theorem QO{a b:Cd}{m:List Tm}{T K E:Nat}(ha:CQ T K E a)(hb:CQ T K E b)(hm:PQ 1 K E m)(hT:T<=256)(hT1:1<=T)(hK:K<=2^18)(hE:E<=2^20):AC 69 [PV.aD a,PV.aD b,PV.ay m] (· =PV.aD (yl a b m)):=by
 have hmul:∀ {p q:List Tm},PQ T K E p->PQ T K E q->AC 75 [PV.ay m,PV.ay (bF p q)] (· =PV.ay (cB m (bF p q))):=fun hp hq=>by have h4:(T+T)*(K+(K+2)+(K+(K+2)))<=512*(2^21):=KbU Oz Oz;exact uR (T:=T+T) (K:=K+(K+2)) (hm.mono Oz Oz (Kae _)) (hp.sub hq) Oz Oz Oz
 have bD:∀ {p q r:List Tm},PQ T K E p->PQ T K E q->PQ T K E r->AC 78 [PV.ay r,PV.ay (cB m (bF p q))] (· =PV.ay (Qu r (cB m (bF p q)))):=fun hp hq hr=>by have h4:min 1 (T+T)*(K+(K+(K+2)))<=1*2^26:=KbU Oz Oz;exact th (T:=1*(T+T)) (K:=2^26) (E:=E+E) (hr.mono Oz Oz Oz) ((hm.mul (hp.sub hq)).mono Oz Oz Oz) Oz Oz Oz
 have s1:=jR hb.x ha.x Oz Oz Oz;have s2:=jR hb.y ha.y Oz Oz Oz;have m1:=hmul hb.x ha.x;have m2:=hmul hb.y ha.y;have a1:=bD hb.x ha.x ha.x;have a2:=bD hb.y ha.y ha.y;refine aw Qf func69 anC fun C hP=>?_;refine aq hP s1 ?_;refine aq hP m1 ?_;refine aq hP a1 ?_;refine aq hP s2 ?_;refine aq hP m2 ?_;refine aq hP a2 ?_;refine Sz0 ?_;refine bX ?_;exact Qc rfl rfl
theorem jU{p q:List Tm}(hp:PQ 256 (2^17) 100 p)(hq:PQ 256 (2^17) 100 q):PQ 512 (2^18+2) 100 (bF p q):=(hp.sub hq).mono Oz Oz Oz
theorem AP{p q:List Tm}(hp:PQ 512 (2^18+2) 100 p)(hq:PQ 512 (2^18+2) 100 q):PQ 262144 (2^28+2048) 200 (cB p q):=(hp.mul hq).mono Oz Oz Oz
abbrev CB(c:Cd):Prop:=CQ 256 (2^17) 100 c
theorem Di{a b c d:Cd}(ha:CB a)(hb:CB b)(hc:CB c)(hd:CB d):PQ 524288 (2^29+4098) 200 (eD a b c d):=
 ((AP (jU hb.x ha.x) (jU hd.x hc.x)).add (AP (jU hb.y ha.y) (jU hd.y hc.y))).mono Oz Oz Oz
theorem oa{a b c d:Cd}(ha:CB a)(hb:CB b)(hc:CB c)(hd:CB d):AC 40 [PV.aD a,PV.aD b,PV.aD c,PV.aD d] (· =PV.ay (lS a b c d)):=by have s1:=jR hb.x ha.x Oz Oz Oz;have s2:=jR hb.y ha.y Oz Oz Oz;have s3:=jR hd.x hc.x Oz Oz Oz;have s4:=jR hd.y hc.y Oz Oz Oz;have m1:=uR (jU hb.x ha.x) (jU hd.y hc.y) Oz Oz Oz;have m2:=uR (jU hb.y ha.y) (jU hd.x hc.x) Oz Oz Oz;have f:=jR (AP (jU hb.x ha.x) (jU hd.y hc.y)) (AP (jU hb.y ha.y) (jU hd.x hc.x)) Oz Oz Oz;refine aw Qf func40 anD fun C hP=>?_;refine aq hP s1 ?_;refine aq hP s4 ?_;refine aq hP m1 ?_;refine aq hP s2 ?_;refine aq hP s3 ?_;refine aq hP m2 ?_;refine aq hP f ?_;refine Sz0 ?_;exact Qc rfl rfl
theorem uN{a b c d:Cd}(ha:CB a)(hb:CB b)(hc:CB c)(hd:CB d):AC 74 [PV.aD a,PV.aD b,PV.aD c,PV.aD d] (· =PV.ay (eD a b c d)):=by have s1:=jR hb.x ha.x Oz Oz Oz;have s2:=jR hb.y ha.y Oz Oz Oz;have s3:=jR hd.x hc.x Oz Oz Oz;have s4:=jR hd.y hc.y Oz Oz Oz;have m1:=uR (jU hb.x ha.x) (jU hd.x hc.x) Oz Oz Oz;have m2:=uR (jU hb.y ha.y) (jU hd.y hc.y) Oz Oz Oz;have f:=th (AP (jU hb.x ha.x) (jU hd.x hc.x)) (AP (jU hb.y ha.y) (jU hd.y hc.y)) Oz Oz Oz;refine aw Qf func74 anE fun C hP=>?_;refine aq hP s1 ?_;refine aq hP s3 ?_;refine aq hP m1 ?_;refine aq hP s2 ?_;refine aq hP s4 ?_;refine aq hP m2 ?_;refine aq hP f ?_;refine Sz0 ?_;exact Qc rfl rfl
theorem lh{a b:Cd}(ha:CB a)(hb:CB b):AC 39 [PV.aD a,PV.aD b] (· =PV.ay (eD a b a b)):=by have h:=uN ha hb ha hb;refine aw Qf func39 anF fun C hP=>?_;refine aq hP h ?_;refine Sz0 ?_;exact Qc rfl rfl
def To(l:List RQ):Prop:=l.length<=1048576/\∀q∈l,Raw 1048576 q.n q.a q.d
structure Qq where
 k:Int
 args:List Int
 n:Bool
 a:List Nat
 d:List Nat
abbrev PV.bI(f:Qq):PV:=.agg [.int .i64 f.k,PV.mono f.args,.bool f.n,PV.nat f.a,PV.nat f.d]
def cr(k:Int):Int:=if k=1∨k=5 then 3 else if k=2∨k=3∨k=4∨k=6∨k=9 then 4 else if k=7 then 8 else if k=8 then 2 else 0
def mq(n:Bool)(a d:List Nat):Bool:= !n&&(decide (a.length=0)&&decide (d.length=0))
def cL(f:Qq)(n:Int):Int:=
 if cr f.k=0 then 8 else if(f.args.length:Int)≠cr f.k then 1 else if(f.args.any fun i=>decide (i<0∨n<=i))=true then 2 else
  if(if f.k=9 then iX f.n f.a f.d else mq f.n f.a f.d)=true then 0 else 1
theorem Ag(k:Int):(k=1∨k=2∨k=3∨k=4∨k=5∨k=6∨k=7∨k=8∨k=9)∨(k≠1/\k≠2/\k≠3/\k≠4/\k≠5/\k≠6/\k≠7/\k≠8/\k≠9):=by omega
theorem afz{k:Int}:AC 65 [.int .i64 k] (· = .int .i64 (cr k)):=by
 rcases Ag k with h|⟨h1,h2,h3,h4,h5,h6,h7,h8,h9⟩
 ·rcases h with rfl|rfl|rfl|rfl|rfl|rfl|rfl|rfl|rfl
  all_goals
   refine aw Qf func65 Sc fun C hP=>?_;refine Sz0 ?_;exact Qc rfl rfl
 ·have e:cr k=0:=by simp[cr,h1,h2,h3,h4,h5,h6,h7,h8,h9]
  rw[e];have d1:decide (k=1)=false:=decide_eq_false h1;have d2:decide (k=2)=false:=decide_eq_false h2;have d3:decide (k=3)=false:=decide_eq_false h3;have d4:decide (k=4)=false:=decide_eq_false h4;have d5:decide (k=5)=false:=decide_eq_false h5;have d6:decide (k=6)=false:=decide_eq_false h6;have d7:decide (k=7)=false:=decide_eq_false h7;have d8:decide (k=8)=false:=decide_eq_false h8;have d9:decide (k=9)=false:=decide_eq_false h9;refine aw Qf func65 Sc fun C hP=>?_;refine Sz9 d1 d2 d3 d4 d5 d6 d7 d8 d9 ?_;exact Qc rfl rfl
theorem ah0{k:Int}:AC 154 [.int .i64 k] (· = .int .i64 (cr k)):=by
 rcases Ag k with h|⟨h1,h2,h3,h4,h5,h6,h7,h8,h9⟩
 ·rcases h with rfl|rfl|rfl|rfl|rfl|rfl|rfl|rfl|rfl
  all_goals
   refine aw Qf func154 RA fun C hP=>?_;refine Sz0 ?_;exact Qc rfl rfl
 ·have e:cr k=0:=by simp[cr,h1,h2,h3,h4,h5,h6,h7,h8,h9]
  rw[e];have d1:decide (k=1)=false:=decide_eq_false h1;have d2:decide (k=2)=false:=decide_eq_false h2;have d3:decide (k=3)=false:=decide_eq_false h3;have d4:decide (k=4)=false:=decide_eq_false h4;have d5:decide (k=5)=false:=decide_eq_false h5;have d6:decide (k=6)=false:=decide_eq_false h6;have d7:decide (k=7)=false:=decide_eq_false h7;have d8:decide (k=8)=false:=decide_eq_false h8;have d9:decide (k=9)=false:=decide_eq_false h9;refine aw Qf func154 RA fun C hP=>?_;refine Sz9 d1 d2 d3 d4 d5 d6 d7 d8 d9 ?_;exact Qc rfl rfl
theorem ah1{n:Bool}{a d:List Nat}{k:Nat}(hb:Raw k n a d):AC 66 [PV.rr n a d] (· = .bool (mq n a d)):=by
 refine aw Qf func66 ans fun C hP=>?_;refine Sz0 ?_;cases n
 ·refine Sz0 ?_;refine ic (fun h=>?_) (fun h=>?_)
  ·refine Sz0 ?_;exact Qc (by simp[mq,show a.length=0 by omega]) rfl
  ·refine Sz0 ?_;exact Qc (by simp[mq,show ¬a.length=0 by omega]) rfl
 ·refine Sz0 ?_;exact Qc rfl rfl
theorem alJ{n:Bool}{a d:List Nat}{k:Nat}(hb:Raw k n a d):AC 156 [PV.rr n a d] (· = .bool (mq n a d)):=by
 refine aw Qf func156 akn fun C hP=>?_;refine Sz0 ?_;cases n
 ·refine Sz0 ?_;refine ic (fun h=>?_) (fun h=>?_)
  ·refine Sz0 ?_;exact Qc (by simp[mq,show a.length=0 by omega]) rfl
  ·refine Sz0 ?_;exact Qc (by simp[mq,show ¬a.length=0 by omega]) rfl
 ·refine Sz0 ?_;exact Qc rfl rfl
theorem ah2{n:Bool}{a d:List Nat}{k:Nat}(hb:Raw k n a d):AC 63 [PV.rr n a d] (· = .bool (mq n a d)):=by
 refine aw Qf func63 anu fun C hP=>?_;refine Sz0 ?_;cases n
 ·refine Sz0 ?_;refine ic (fun h=>?_) (fun h=>?_)
  ·refine Sz0 ?_;exact Qc (by simp[mq,show a.length=0 by omega]) rfl
  ·refine Sz0 ?_;exact Qc (by simp[mq,show ¬a.length=0 by omega]) rfl
 ·refine Sz0 ?_;exact Qc rfl rfl
structure jD(f:Qq):Prop where
 l:f.args.length<2^40
 r:Raw 1048576 f.n f.a f.d
theorem Tp{f:Qq}{n:Int}(h0:¬cr f.k=0)(hl:(f.args.length:Int)=cr f.k){i:Nat}(hi:i<f.args.length)(h:f.args[i]<0∨n<=f.args[i]):cL f n=2:=by unfold cL;rw[if_neg h0,if_neg (by simpa using hl),if_pos];exact KaU.2 ⟨_,Kag hi,decide_eq_true h⟩
theorem Tq{f:Qq}{n:Int}(h0:¬cr f.k=0)(hl:(f.args.length:Int)=cr f.k)(h:∀j (h:j<f.args.length),0<=f.args[j]/\f.args[j]<n):cL f n=if(if f.k=9 then iX f.n f.a f.d else mq f.n f.a f.d)=true then 0 else 1:=by unfold cL;rw[if_neg h0,if_neg (by simpa using hl),if_neg];intro hq;obtain⟨x,hx,hd⟩:=KaU.1 hq;obtain⟨j,hj,rfl⟩:=KaG hx;have:=of_decide_eq_true hd;have:=h j hj;omega
theorem Ly{f:Qq}{n:Int}(hf:jD f):AC 34 [PV.bI f,.int .i64 n] (· = .int .i64 (cL f n)):=by
 have hr:=Cn hf.r Oz;have hz:=ah1 hf.r;have fV:=hf.l;obtain⟨k,args,n0,a,d⟩:=f;simp only at hr hz fV;have hA:=afz (k:=k);refine aw Qf func34 ant fun C hP=>?_;refine aq hP hA ?_;refine Sz0 ?_;refine Qa (fun h0=>?_) (fun h0=>?_)
 ·refine Sz0 ?_;exact Qc (by simp[cL,h0]) rfl
 refine aq hP hA ?_;refine Sz0 ?_;refine Qa (fun hl=>?_) (fun hl=>?_)
 ·refine Sz0 ?_;exact Qc (by simp[cL,h0,hl]) rfl
 replace hl:(args.length:Int)=cr k:=by omega
 refine Sz0 ?_;refine Qm okB [(4,4),(6,6),(21,32)] [] (fun m J hp=>∃i,m=args.length-i/\i<=args.length/\(∀j (h:j<args.length),j<i->0<=args[j]/\args[j]<n)/\J 21= .int .i64 (i:Nat)/\hp 2=some ⟨5,59,[PV.bI ⟨k,args,n0,a,d⟩],false⟩) args.length ?_ ?_
 ·refine⟨0,rfl,by omega,by omega,?_⟩;refine Sz0 ?_;rfl
 rintro _ J h ⟨i,rfl,hi,h1,ku,cN⟩;refine Sz1 ku ?_;refine Qa (fun hg=>?_) (fun hg=>?_)
 ·have aE:i<args.length:=by omega
  have h2:(args[i]<0∨n<=args[i])->cL ⟨k,args,n0,a,d⟩ n=2:=fun h=>Tp (f:=⟨k,args,n0,a,d⟩) h0 hl aE h;have bD:0<=args[i]/\args[i]<n->∀j (h:j<args.length),j<i+1->0<=args[j]/\args[j]<n:=fun h j hj hZ=>by
   by_cases e:j=i
   ·subst e;exact h
   ·exact h1 j hj Oz
  generalize hx:args[i]=x at *
  refine Sz2 ku hx ?_;refine Qp (fun h3=>?_) (fun h3=>?_)
  ·refine Sz0 ?_;exact Qc (by rw[h2 (.inl h3)]) rfl
  refine Sz0 ?_;refine Qa (fun h4=>?_) (fun h4=>?_)
  ·refine Sz0 ?_;exact Qc (by rw[h2 (.inr h4)]) rfl
  refine Sz1 ku ?_;refine Qh (args.length-(i+1)) Oz ⟨i+1,rfl,by omega,bD ⟨by omega,by omega⟩,?_⟩;exact Tz1 cN
 obtain rfl:i=args.length:=by omega
 have dS:=Tq (f:=⟨k,args,n0,a,d⟩) (n:=n) h0 hl (fun j hj=>h1 j hj hj);refine Sz1 cN ?_;by_cases h9:k=9
 ·subst h9;refine pP cN hP hr ?_;cases hq:iX n0 a d
  ·refine Sz1 cN ?_;exact Qc (by rw[dS];simp[hq]) rfl
  ·refine Sz1 cN ?_;exact Qc (by rw[dS];simp[hq]) rfl
 ·have d9:decide (k=9)=false:=decide_eq_false h9;have DW:decide (¬k=9)=true:=decide_eq_true h9;refine eF cN d9 DW hP hz ?_;cases hq:mq n0 a d
  ·refine Sz1 cN ?_;exact Qc (by rw[dS];simp[hq,h9]) rfl
  ·refine Sz1 cN ?_;exact Qc (by rw[dS];simp[hq,h9]) rfl
structure Q3 where
 k:Int
 name:ByteArray
 args:List Int
 n:Bool
 a:List Nat
 d:List Nat
abbrev PV.qq(s:Q3):PV:=.agg [.int .i64 s.k,.str s.name,PV.mono s.args,.bool s.n,PV.nat s.a,PV.nat s.d]
abbrev PV.df(S:List Q3)(G:List Qq):PV:=.agg [.sl 6 (S.map PV.qq),.sl 5 (G.map PV.bI)]
def de(cs:List Cd)(l:List Int):List Cd:=l.map fun a=>cs.getD a.toNat ([],[])
def iY(k i:Int)(b:Nat):List Vr:=if k=1 then rM i b else if k=5 then [(1,i,0)]else if k=6 then [(1,i,0),(2,i,1),(2,i,2)]else if k=2∨k=3∨k=4 then []else [(2,i,0),(2,i,1)]
def jx(k:Int)(q:Rat)(l:List Cd)(n b:Nat):Cd:=
 if k=1 then tl n b else if k=2 then yl (l.getD 0 ([],[])) (l.getD 1 ([],[])) (dz q)else
 if k=3 then(oh (l.getD 0 ([],[])).1 (l.getD 2 ([],[])).1 (l.getD 1 ([],[])).1,oh (l.getD 0 ([],[])).2 (l.getD 2 ([],[])).2 (l.getD 1 ([],[])).2)else
 if k=4 then(oh (l.getD 0 ([],[])).1 (l.getD 1 ([],[])).2 (l.getD 2 ([],[])).2,oh (l.getD 0 ([],[])).2 (l.getD 2 ([],[])).1 (l.getD 1 ([],[])).1)else
 if k=5 then yl (l.getD 0 ([],[])) (l.getD 1 ([],[])) (cq n)else if k=6 then(cq (n+1:Nat),cq (n+2:Nat))else(cq n,cq (n+1:Nat))
def gV(k:Int):Int:=if k=1 then 0 else if k=2∨k=5∨k=6∨k=14 then 2 else if k=3∨k=4∨k=7∨k=8∨k=10∨k=11 then 3 else if k=9∨k=12∨k=13 then 4 else -1
theorem anW{fr:Fr}{hp:HP}{K:Qg}{ty i d:Nat}{fz:Bool}{cs:List Cd}(h:i<cs.length):jm (some ⟨2,ty,cs.map PV.aD,fz⟩) 2 true i 0 d fr hp K=K (ae fr d (PV.aD (cs[i]'h))) hp:=by rw[od (by rw[KaJ];exact h) Oz (by simp),KbJ];rfl
theorem anX{fr:Fr}{hp:HP}{K:Qg}{ty i d:Nat}{fz:Bool}{cs:List Cd}(h:i<cs.length):jm (some ⟨2,ty,cs.map PV.aD,fz⟩) 1 false i 0 d fr hp K=K (ae fr d (PV.ay (cs[i]'h).1)) hp:=by rw[od (by rw[KaJ];exact h) Oz (by simp),KbJ];rfl
theorem aox{fr:Fr}{hp:HP}{K:Qg}{ty i d:Nat}{fz:Bool}{cs:List Cd}(h:i<cs.length):jm (some ⟨2,ty,cs.map PV.aD,fz⟩) 1 false i 1 d fr hp K=K (ae fr d (PV.ay (cs[i]'h).2)) hp:=by rw[od (by rw[KaJ];exact h) Oz (by simp),KbJ];rfl
theorem apw{σ:Nat->Nat}{γ e ty:Nat}{cs:List PV}:dh σ (.aJ γ e ty [.agg cs])= .aJ (σ γ) e ty [gw (cs.map (dI σ))]:=rfl
theorem aoy{γ bj e ty:Nat}{cs:List PV}(h:bj≠γ):dV γ (.aJ bj e ty [.agg cs])= .aJ bj e ty [gw (cs.map (fF γ))]:=by simp[dV,h,PV.bg,PV.cells]
theorem aoz{γ e ty:Nat}{cs:List PV}{nm:Nat->Bool}:qI nm (.aJ γ e ty [.agg cs])=if(γ::cs.flatMap PV.dO).any nm then .undef else .aJ γ e ty [.agg cs]:=by simp[qI,PV.refs,PV.aV,PV.bg,PV.cells]
attribute [go_sem] anW anX aox apw aoy aoz
structure uS(i:Nat)(s:Q3):Prop where
 k:0<=gV s.k
 l:(s.args.length:Int)=gV s.k
 r:∀a∈s.args,0<=a/\a<(i:Nat)
 q:if s.k=2 then iX s.n s.a s.d=true else mq s.n s.a s.d=true
theorem aoA{S:List Q3}{G:List Qq}{i b:Nat}{cs:List Cd}{vs:List Vr}(hi:i<S.length)(hS:S.length<=1000)(bd:uS i S[i])(l9:cs.length=i)(hc:∀c∈cs,CB c)(hv:vs.length<60)(hb:b<1000)(hr:S[i].k=2->S[i].a.length<=2/\S[i].d.length<=2/\Raw 1048576 S[i].n S[i].a S[i].d):
  rV 36 cs vs (vs++iY S[i].k (i:Nat) b) [PV.df S G,.int .i64 (i:Nat),.int .i64 (b:Nat)] (PV.aD (jx S[i].k (rv S[i].n S[i].a S[i].d) (de cs S[i].args) vs.length b)):=by
 have fV:S[i].args.length<=4:=by
  have:=bd.l;unfold gV at this
  repeat' split at this
  all_goals omega
 obtain⟨s,hs⟩:∃s,S[i]=s:=⟨_,rfl⟩
 rw[hs]at bd hr fV⊢;have Ek:(de cs s.args).length=s.args.length:=by simp[de]
 have hL:∀c∈de cs s.args,CB c:=fun c hm=>by obtain⟨a,ha,rfl⟩:=KaA.1 hm;have:=bd.r a ha;rw[Kac,Kad (show a.toNat<cs.length by omega)];exact hc _ (Kag _)
 refine Af Qf func36 rfl anT Nz fun C hP=>?_;simp only[WZ];refine eY ?_;refine Sz0 ?_;refine dn (rK 8 2000010 a9 Oz rfl Oz) ?_;refine Sz0 ?_;refine dn (rD (γ:=2000010) (e:=2) (ty:=33) (xs:=[.agg [.ab,.ab]]) (fz:=false) Tz0 (by simp) Oz (fun x hx=>by rw[Kay.1 hx];rfl)) ?_;refine Sz1 hs ?_;refine jt 11 900 2 98 Oz Tz0 ?_;refine HC kv [(4,4),(8,8),(11,11),(13,13),(26,38),(2000010,2000010),(4000004,4000004)] [36,37,900] (fun q J hp=>∃j,q=s.args.length-j/\j<=s.args.length/\J 11= .ms 900 j/\J 4= .np 4000004 0 0/\J 8= .np 2000010 0 0/\J 26= .int .i64 (j:Nat)/\J 4000004= .aJ 4000004 2 33 [GA cs.length vs.length]/\J 2000010= .aJ 2000010 2 33 [.agg [.ab,.ab]]/\hp 4000004=some ⟨2,33,[],false⟩/\hp 2000010=some ⟨2,33,[],false⟩/\hp 2000011=none/\
   hp 2000000=some (BC cs)/\hp 2000001=some (BD vs)/\hp 9=some ⟨2,98,[.agg [.ab,.ab]],false⟩/\hp 10=some ⟨6,96,[PV.qq s],false⟩/\hp 900=some ⟨2,98,((de cs s.args).take j).map PV.aD,false⟩) s.args.length ?_ ?_
 ·refine⟨0,rfl,by omega,?_⟩;refine Sz0 ?_;rfl
 rintro _ J h ⟨j,rfl,hj,oZ,j4,j8,JH,g4,g8,h4,h8,hn,h0,h1,h9,du,bB⟩;refine Sz1 JH ?_;refine Qa (fun hg=>?_) (fun hg=>?_)
 ·have aT:j<s.args.length:=by omega
  have hjL:j<(de cs s.args).length:=by omega
  obtain⟨m,hm⟩:∃m:Nat,s.args[j]=(m:Int):=⟨s.args[j].toNat,by have:=bd.r _ (Kag aT);omega⟩
  have xA:m<cs.length:=by have:=bd.r _ (Kag aT);omega
  have Eg:(de cs s.args)[j]=cs[m]:=by simp only[de,KbJ,hm,Kbs];rw[Kac,Kad xA];rfl
  have cO:(de cs s.args).take (j+1)=(de cs s.args).take j++[cs[m]]:=by rw[<-Eg];exact Kar hjL
  have mT:j=((de cs s.args).take j).length:=by rw[KaB];omega
  generalize hy:cs[m]=y at *
  refine Sz7 JH oZ j4 g4 h0 hm hy ?_;rw[Qv (f:=PV.aD) (y:=y) (xs:=(de cs s.args).take j) (ty':=98) (fz:=false) (Tz1 bB) a9 Oz mT Oz Oz];refine yB JH oZ j4 j8 g4 g8 h4 h8 h0 h1 h9 du ?_;refine CN (s.args.length-(j+1)) Oz ⟨j+1,rfl,by omega,?_⟩;exact Tz14 JH oZ j4 j8 g4 g8 h4 h8 hn h0 h1 h9 du cO
 obtain rfl:j=s.args.length:=by omega
 rw[Kah Oz]at bB;obtain⟨L,hLe⟩:∃L,de cs s.args=L:=⟨_,rfl⟩
 rw[hLe]at bB Ek hL⊢;have hlen:=bd.l;have hq:=bd.q;have hk:s.k=1∨s.k=2∨s.k=3∨s.k=4∨s.k=5∨s.k=6∨(7<=s.k/\s.k<=14):=by
  have:=bd.k;unfold gV at this
  repeat' split at this
  all_goals omega
 clear hs bd;generalize s.args=args at *
 obtain⟨k,nm,ar,n0,a0,d0⟩:=s;simp only at *
 refine Sz1 du ?_;rcases hk with rfl|rfl|rfl|rfl|rfl|rfl|⟨ko,iy⟩
 ·have hf:=anV (cs:=cs) (vs:=vs) (s:=(i:Nat)) (b:=b) Oz hb;rw[show iY 1 (i:Nat) b=rM (i:Nat) b from rfl,show jx 1 (rv n0 a0 d0) L vs.length b=tl vs.length b from rfl];refine Sz6 j4 j8 g4 g8 h4 h8 ?_;refine rA hP hf (Tz1 h0) (Tz1 h1) rfl rfl rfl (by simp) ?_;refine Sz4 j8 g8 h8 h9 ?_;refine rm (γ:=2000010) (ty:=33) (n:=cs.length) (m:=(vs++rM (i:Nat) b).length) (Tz1 j8) Tz0 (q:=PV.aD (tl vs.length b)) (mE h9) rfl ⟨rfl,by simp+decide (disch:=try exact D0) only[go_sem],by simp+decide (disch:=try exact D0) only[go_sem]⟩
 ·have oH:args.length=2:=by have:gV 2=2:=(by decide);omega
  have ct:∀n,n<2->∃c,(∀h:n<L.length,L[n]'h=c)/\L.getD n ([],[])=c/\CB c:=fun n hn=>by
   have zg:n<L.length:=by omega
   exact⟨L[n],fun _=>rfl,by rw[Kac,Kad zg];rfl,hL _ (Kag _)⟩
  obtain⟨c0,f0,g0,b0⟩:=ct 0 Oz;obtain⟨c1,f1,g1,b1⟩:=ct 1 Oz;rw[oH]at oZ;obtain⟨q1,q2,q3⟩:=hr rfl;have hC:=KL (k:=1048576) q3 Oz;have dw:rs (rv n0 a0 d0)+1<=2^17:=by have:=(show Raw 2 n0 a0 d0 from⟨q3.la,q3.ld,q1,q2,by omega⟩).rs;omega
  have vr:=QO (m:=dz (rv n0 a0 d0)) b0 b1 ((PQ.const dw).mono (Kae _) (Kae _) Oz) Oz Oz Oz Oz;rw[show iY 2 (i:Nat) b=[]from rfl,show jx 2 (rv n0 a0 d0) L vs.length b=yl (L.getD 0 ([],[])) (L.getD 1 ([],[])) (dz (rv n0 a0 d0))from rfl,g0,g1,Kak];refine Cb j4 j8 oZ g4 g8 h4 h8 du bB f0 f1 ?_;refine Qo hP hC ?_;refine Cb j4 j8 oZ g4 g8 h4 h8 du bB f0 f1 ?_;refine Qo hP vr ?_;refine Sz4 j8 g8 h8 h9 ?_;refine rm (γ:=2000010) (ty:=33) (n:=cs.length) (m:=vs.length) (Tz1 j8) Tz0 (q:=PV.aD (yl c0 c1 (dz (rv n0 a0 d0)))) (mE h9) rfl ⟨rfl,by simp+decide (disch:=try exact D1 h0) only[go_sem,h0],by simp+decide (disch:=try exact D1 h1) only[go_sem,h1]⟩
 ·have oH:args.length=3:=by have:gV 3=3:=(by decide);omega
  have ct:∀n,n<3->∃c,(∀h:n<L.length,L[n]'h=c)/\L.getD n ([],[])=c/\CB c:=fun n hn=>by
   have zg:n<L.length:=by omega
   exact⟨L[n],fun _=>rfl,by rw[Kac,Kad zg];rfl,hL _ (Kag _)⟩
  obtain⟨c0,f0,g0,yQ⟩:=ct 0 Oz;obtain⟨c1,f1,g1,qK⟩:=ct 1 Oz;obtain⟨c2,f2,g2,nK⟩:=ct 2 Oz;rw[oH]at oZ;have p1:=Ij (yQ.x) (nK.x) (qK.x) Oz Oz Oz;have p2:=Ij (yQ.y) (nK.y) (qK.y) Oz Oz Oz;have e2:jx 3 (rv n0 a0 d0) L vs.length b=(oh c0.1 c2.1 c1.1,oh c0.2 c2.2 c1.2):=by rw[<-g0,<-g1,<-g2];rfl
  rw[show iY 3 (i:Nat) b=[]from rfl,e2,Kak];refine yB j4 j8 oZ g4 g8 h4 h8 du bB f0 f1 f2 ?_;refine Qo hP p1 ?_;refine yB j4 j8 oZ g4 g8 h4 h8 du bB f0 f1 f2 ?_;refine Qo hP p2 ?_;refine Sz4 j8 g8 h8 h9 ?_;refine rm (γ:=2000010) (ty:=33) (n:=cs.length) (m:=vs.length) (Tz1 j8) Tz0 (q:=PV.aD (oh c0.1 c2.1 c1.1,oh c0.2 c2.2 c1.2)) (mE h9) rfl ⟨rfl,by simp+decide (disch:=try exact D1 h0) only[go_sem,h0],by simp+decide (disch:=try exact D1 h1) only[go_sem,h1]⟩
 ·have oH:args.length=3:=by have:gV 4=3:=(by decide);omega
  have ct:∀n,n<3->∃c,(∀h:n<L.length,L[n]'h=c)/\L.getD n ([],[])=c/\CB c:=fun n hn=>by
   have zg:n<L.length:=by omega
   exact⟨L[n],fun _=>rfl,by rw[Kac,Kad zg];rfl,hL _ (Kag _)⟩
  obtain⟨c0,f0,g0,yQ⟩:=ct 0 Oz;obtain⟨c1,f1,g1,qK⟩:=ct 1 Oz;obtain⟨c2,f2,g2,nK⟩:=ct 2 Oz;rw[oH]at oZ;have p1:=Ij (yQ.x) (qK.y) (nK.y) Oz Oz Oz;have p2:=Ij (yQ.y) (nK.x) (qK.x) Oz Oz Oz;have e2:jx 4 (rv n0 a0 d0) L vs.length b=(oh c0.1 c1.2 c2.2,oh c0.2 c2.1 c1.1):=by rw[<-g0,<-g1,<-g2];rfl
  rw[show iY 4 (i:Nat) b=[]from rfl,e2,Kak];refine yB j4 j8 oZ g4 g8 h4 h8 du bB f0 f1 f2 ?_;refine Qo hP p1 ?_;refine yB j4 j8 oZ g4 g8 h4 h8 du bB f0 f1 f2 ?_;refine Qo hP p2 ?_;refine Sz4 j8 g8 h8 h9 ?_;refine rm (γ:=2000010) (ty:=33) (n:=cs.length) (m:=vs.length) (Tz1 j8) Tz0 (q:=PV.aD (oh c0.1 c1.2 c2.2,oh c0.2 c2.1 c1.1)) (mE h9) rfl ⟨rfl,by simp+decide (disch:=try exact D1 h0) only[go_sem,h0],by simp+decide (disch:=try exact D1 h1) only[go_sem,h1]⟩
 ·have oH:args.length=2:=by have:gV 5=2:=(by decide);omega
  have ct:∀n,n<2->∃c,(∀h:n<L.length,L[n]'h=c)/\L.getD n ([],[])=c/\CB c:=fun n hn=>by
   have zg:n<L.length:=by omega
   exact⟨L[n],fun _=>rfl,by rw[Kac,Kad zg];rfl,hL _ (Kag _)⟩
  obtain⟨c0,f0,g0,b0⟩:=ct 0 Oz;obtain⟨c1,f1,g1,b1⟩:=ct 1 Oz;rw[oH]at oZ;have hf:=Az (cs:=cs) (vs:=vs) (k:=1) (s:=(i:Nat)) (m:=0) Oz;have vr:=QO (m:=cq vs.length) b0 b1 ((PQ.var).mono (Kae _) Oz Oz) Oz Oz Oz Oz;have e2:jx 5 (rv n0 a0 d0) L vs.length b=yl c0 c1 (cq vs.length):=by rw[<-g0,<-g1];rfl
  rw[show iY 5 (i:Nat) b=[(1,((i:Nat):Int),0)]from rfl,e2];refine Sz6 j4 j8 g4 g8 h4 h8 ?_;refine rA hP hf (Tz1 h0) (Tz1 h1) rfl rfl rfl (by simp) ?_;refine Sz3 j8 g8 h8 ?_;refine dn (rK 14 2000011 (Tz1 hn) Oz rfl Oz) ?_;refine Sz1 g8 ?_;refine dn (rD (γ:=2000011) (e:=2) (ty:=33) (xs:=[.agg [.ab,.ab]]) (fz:=false) Tz0 (by simp) Oz (fun x hx=>by rw[Kay.1 hx];rfl)) ?_;refine lX g8 oZ bB f0 f1 hP vr ?_;refine Sz4 j8 g8 h8 h9 ?_;refine rm (γ:=2000010) (ty:=33) (n:=cs.length) (m:=(vs++[(1,((i:Nat):Int),0)]).length) (Tz1 j8) Tz0 (q:=PV.aD (yl c0 c1 (cq vs.length))) (mE h9) rfl ⟨rfl,by simp+decide (disch:=try exact D0) only[go_sem],by simp+decide (disch:=try exact D0) only[go_sem]⟩
 ·have hf:=Az (cs:=cs) (vs:=vs) (k:=1) (s:=(i:Nat)) (m:=0) Oz;have e1:(vs++[(1,((i:Nat):Int),(0:Int))]).length=vs.length+1:=by simp
  have hd:=Ux (cs:=cs) (vs:=vs++[(1,((i:Nat):Int),(0:Int))]) (s:=(i:Nat)) (m:=1) (by rw[e1];omega) Oz;have e3:vs++[(1,((i:Nat):Int),(0:Int))]++[(2,((i:Nat):Int),(1:Int)),(2,((i:Nat):Int),(1:Int)+1)]=vs++iY 6 (i:Nat) b:=by rw[Ka8];rfl
  have e4:(vs++iY 6 (i:Nat) b).length=vs.length+3:=by rw[<-e3];simp
  rw[rV,e3,e1,e4]at hd;rw[rV,e1]at hf;rw[show jx 6 (rv n0 a0 d0) L vs.length b=(cq (vs.length+1:Nat),cq (vs.length+2:Nat))from rfl,e4];refine Sz6 j4 j8 g4 g8 h4 h8 ?_;refine rA hP hf (Tz1 h0) (Tz1 h1) rfl rfl rfl (by simp) ?_;refine Sz3 j8 g8 h8 ?_;refine dn (rK 16 2000011 (Tz1 hn) Oz rfl Oz) ?_;refine Sz1 g8 ?_;refine dn (rD (γ:=2000011) (e:=2) (ty:=33) (xs:=[.agg [.ab,.ab]]) (fz:=false) Tz0 (by simp) Oz (fun x hx=>by rw[Kay.1 hx];rfl)) ?_;refine Sz1 g8 ?_;refine rA hP hd Tz0 Tz0 rfl rfl rfl (by simp) ?_;refine Sz4 j8 g8 h8 h9 ?_;refine rm (γ:=2000010) (ty:=33) (n:=cs.length) (m:=vs.length+3) (Tz1 j8) Tz0 (q:=PV.aD (cq (vs.length+1:Nat),cq (vs.length+2:Nat))) (mE h9) rfl ⟨rfl,by simp+decide (disch:=try exact D0) only[go_sem],by simp+decide (disch:=try exact D0) only[go_sem]⟩
 ·have hf:=Ux (cs:=cs) (vs:=vs) (s:=(i:Nat)) (m:=0) Oz Oz;have d1:decide (k=1)=false:=decide_eq_false Oz;have d2:decide (k=2)=false:=decide_eq_false Oz;have d3:decide (k=3)=false:=decide_eq_false Oz;have d4:decide (k=4)=false:=decide_eq_false Oz;have d5:decide (k=5)=false:=decide_eq_false Oz;have d6:decide (k=6)=false:=decide_eq_false Oz;have e1:iY k (i:Nat) b=[(2,((i:Nat):Int),(0:Int)),(2,((i:Nat):Int),(0:Int)+1)]:=by unfold iY;rw[if_neg Oz,if_neg Oz,if_neg Oz,if_neg Oz];rfl
  have e2:jx k (rv n0 a0 d0) L vs.length b=(cq vs.length,cq (vs.length+1:Nat)):=by unfold jx;rw[if_neg Oz,if_neg Oz,if_neg Oz,if_neg Oz,if_neg Oz,if_neg Oz]
  rw[e1,e2];refine yB j4 j8 g4 g8 h4 h8 d1 d2 d3 d4 d5 d6 ?_;refine rA hP hf (Tz1 h0) (Tz1 h1) rfl rfl rfl (by simp) ?_;refine Sz4 j8 g8 h8 h9 ?_;refine rm (γ:=2000010) (ty:=33) (n:=cs.length) (m:=(vs++[(2,((i:Nat):Int),(0:Int)),(2,((i:Nat):Int),(0:Int)+1)]).length) (Tz1 j8) Tz0 (q:=PV.aD (cq vs.length,cq (vs.length+1:Nat))) (mE h9) rfl ⟨rfl,by simp+decide (disch:=try exact D0) only[go_sem],by simp+decide (disch:=try exact D0) only[go_sem]⟩
def mj(n:Nat):Bool:=(decide (65<=n)&&decide (n<=90))||(decide (97<=n)&&decide (n<=122))
def tK(n:Nat):Bool:=decide (48<=n)&&decide (n<=57)
theorem Q8q{n:Nat}:AC 104 [.int .u8 n] (· = .bool (mj n)):=by
 refine aw Qf func104 akp fun C hP=>?_;refine Sz0 ?_;refine ic (fun h1=>?_) (fun h1=>?_)
 ·refine Sz0 ?_;refine Qp (fun h2=>?_) (fun h2=>?_)
  ·refine Sz0 ?_;exact Qc (by simp[mj,show 65<=n by omega,show n<=90 by omega]) rfl
  refine Sz0 ?_;refine ic (fun h3=>?_) (fun h3=>?_)
  ·refine Sz0 ?_;exact Qc (by simp[mj,show ¬n<=90 by omega,show 97<=n by omega];omega) rfl
  ·refine Sz0 ?_;exact Qc (by simp[mj,show ¬n<=90 by omega,show ¬97<=n by omega]) rfl
 ·refine Sz0 ?_;refine ic (fun h3=>?_) (fun h3=>?_)
  ·omega
  ·refine Sz0 ?_;exact Qc (by simp[mj,show ¬65<=n by omega,show ¬97<=n by omega]) rfl
theorem afA{n:Nat}:AC 105 [.int .u8 n] (· = .bool (tK n)):=by
 refine aw Qf func105 akq fun C hP=>?_;refine Sz0 ?_;refine ic (fun h1=>?_) (fun h1=>?_)
 ·refine Sz0 ?_;exact Qc (by simp[tK,show 48<=n by omega];omega) rfl
 ·refine Sz0 ?_;exact Qc (by simp[tK,show ¬48<=n by omega]) rfl
def lM:List ByteArray:=[⟨#[97,110,103,108,101]⟩,⟨#[97,112,101,120]⟩,⟨#[98,105,115,101,99,116,111,114]⟩,⟨#[99,101,110,116,101,114]⟩,⟨#[99,105,114,99,108,101]⟩,⟨#[99,105,114,99,117,109]⟩,⟨#[99,111,108,108,105,110,101,97,114]⟩,⟨#[99,111,109,109,111,110]⟩,⟨#[99,111,110,99,121,99,108,105,99]⟩,⟨#[99,111,110,103,114,117,101,110,116]⟩,⟨#[99,114,111,115,115]⟩,⟨#[99,117,116]⟩,⟨#[100,105,118,105,100,101]⟩,⟨#[102,111,111,116]⟩,⟨#[108,105,110,101]⟩,⟨#[109,101,101,116]⟩,⟨#[109,105,100,112,111,105,110,116]⟩,⟨#[109,105,114,114,111,114]⟩,⟨#[111,110]⟩,⟨#[111,116,104,101,114]⟩,⟨#[112,97,114,97,108,108,101,108]⟩,⟨#[112,101,114,112,101,110,100,105,99,117,108,97,114]⟩,⟨#[112,111,105,110,116,115]⟩,⟨#[112,114,111,118,101]⟩,⟨#[114,97,116,105,111]⟩,⟨#[114,101,102,108,101,99,116]⟩,⟨#[115,97,109,101]⟩,⟨#[115,104,105,102,116]⟩,⟨#[116,117,114,110]⟩]
def iF(s:ByteArray):Nat->Nat
 |0=>0
 |n+1=>if iF s n<s.size then iF s n+(Utf8.decode s (iF s n)).2 else iF s n
theorem Wu{s:ByteArray}{n:Nat}(h:¬iF s n<s.size):∀k,iF s (n+k)=iF s n
 |0=>rfl
 |k+1=>by have e:=Wu h k;rw[<-Nat.add_assoc,iF,e,if_neg h]
structure Nq(s:ByteArray):Prop where
 p:0<s.size
 l:s.size<=20
 f:∀h:0<s.size,mj (s[0]'h).toNat=true
 a:∀n (h:iF s n<s.size),mj (s[iF s n]'h).toNat=true∨tK (s[iF s n]'h).toNat=true
 k:∀k∈lM,s≠k
noncomputable def BZ (s : ByteArray) : Bool := @decide (Nq s) (Classical.propDecidable _)
theorem Dj{s:ByteArray}:BZ s=true↔Nq s:= @decide_eq_true_iff (Nq s) (Classical.propDecidable _)
theorem aoB{s:ByteArray}{b:Bool}(h:b=true↔Nq s):b=BZ s:=Bool.eq_iff_iff.2 (h.trans Dj.symm)
theorem Q2t:AC 106 [] (· = .sl 1 (lM.map PV.str)):=by
 refine aw Qf func106 akr fun C hP=>?_;refine Sz0 ?_;rw[wz rfl (fun p hp=>by
  have:∀p∈lM.map PV.str,p.cells.length=1:=fun p hp=>by obtain⟨b,_,rfl⟩:=KaA.1 hp;rfl
  exact this p hp) Oz]
 refine Sz0 ?_;exact ig (e:=1) (ty:=9) (xs:=lM.map PV.str) (fz:=false) rfl rfl
structure lA(s:Q3):Prop where
 n:s.name.size<2^40
 l:s.args.length<2^40
 r:Raw 1048576 s.n s.a s.d
def rp:Prop:=∀s:ByteArray,s.size<2^40->AC 64 [PV.str s] (· = .bool (BZ s))
structure Km(S:List Q3)(i:Nat)(s:Q3):Prop where
 ok:uS i s
 n:s.name= .empty∨(Nq s.name/\∀j (h:j<S.length),j<i->S[j].name≠s.name)
theorem o7{e:Int}{P:Prop}(h:e≠0)(h2:P->False):e=0↔P:=⟨fun q=>absurd q h,fun p=>(h2 p).elim⟩
theorem afB(k:Int):(k=1∨k=2∨k=3∨k=4∨k=5∨k=6∨k=7∨k=8∨k=9∨k=10∨k=11∨k=12∨k=13∨k=14)∨(k≠1/\k≠2/\k≠3/\k≠4/\k≠5/\k≠6/\k≠7/\k≠8/\k≠9/\k≠10/\k≠11/\k≠12/\k≠13/\k≠14):=by omega
theorem afC{k:Int}:AC 62 [.int .i64 k] (· = .int .i64 (gV k)):=by
 rcases afB k with h|⟨h1,h2,h3,h4,h5,h6,h7,h8,h9,du,nG,kP,kQ,Br⟩
 ·rcases h with rfl|rfl|rfl|rfl|rfl|rfl|rfl|rfl|rfl|rfl|rfl|rfl|rfl|rfl
  all_goals
   refine aw Qf func62 Sd fun C hP=>?_;refine Sz0 ?_;exact Qc rfl rfl
 ·have e:gV k= -1:=by simp[gV,h1,h2,h3,h4,h5,h6,h7,h8,h9,du,nG,kP,kQ,Br]
  rw[e];have d1:decide (k=1)=false:=decide_eq_false h1;have d2:decide (k=2)=false:=decide_eq_false h2;have d3:decide (k=3)=false:=decide_eq_false h3;have d4:decide (k=4)=false:=decide_eq_false h4;have d5:decide (k=5)=false:=decide_eq_false h5;have d6:decide (k=6)=false:=decide_eq_false h6;have d7:decide (k=7)=false:=decide_eq_false h7;have d8:decide (k=8)=false:=decide_eq_false h8;have d9:decide (k=9)=false:=decide_eq_false h9;have d10:decide (k=10)=false:=decide_eq_false du;have d11:decide (k=11)=false:=decide_eq_false nG;have d12:decide (k=12)=false:=decide_eq_false kP;have d13:decide (k=13)=false:=decide_eq_false kQ;have d14:decide (k=14)=false:=decide_eq_false Br;have dd:decide (k=1)=false/\decide (k=2)=false/\decide (k=3)=false/\decide (k=4)=false/\decide (k=5)=false/\decide (k=6)=false/\decide (k=7)=false/\decide (k=8)=false/\decide (k=9)=false/\decide (k=10)=false/\decide (k=11)=false/\decide (k=12)=false/\decide (k=13)=false/\decide (k=14)=false:=⟨d1,d2,d3,d4,d5,d6,d7,d8,d9,d10,d11,d12,d13,d14⟩
  refine aw Qf func62 Sd fun C hP=>?_;refine Sz1 dd ?_;exact Qc rfl rfl
theorem Q4{p:PV}{R:PV->Prop}(h:R p)(hd:p.aG=true):yz R p:=⟨hd,p,Qe _,h⟩
theorem aff(hN:rp){S:List Q3}{i:Nat}(hS:S.length<2^40)(hb:∀s∈S,lA s)(hi:i<S.length):AC 33 [.sl 6 (S.map PV.qq),.int .i64 (i:Nat)] (fun r=>∃e:Int,r= .int .i64 e/\(e=0↔Km S i S[i])):=by
 have vB:=hb _ (Kag hi);have hA:∀k,AC 62 [.int .i64 k] (· = .int .i64 (gV k)):=fun k=>afC;obtain⟨s,hs⟩:∃s,S[i]=s:=⟨_,rfl⟩
 rw[hs]at vB⊢;have hr:=Cn vB.r Oz;have hz:=ah2 vB.r;have ia:=hN s.name vB.n;have fV:=vB.l;refine aw Qf func33 anA fun C hP=>?_;refine pP hs hP (hA _) ?_;refine Sz0 ?_;refine Qa (fun h0=>?_) (fun h0=>?_)
 ·refine Sz0 ?_;exact Q4 ⟨8,rfl,o7 (by decide) fun q=>absurd q.ok.k Oz⟩ rfl
 refine aq hP (hA _) ?_;refine Sz0 ?_;refine Qa (fun hl=>?_) (fun hl=>?_)
 ·refine Sz0 ?_;exact Q4 ⟨1,rfl,o7 (by decide) fun q=>absurd q.ok.l Oz⟩ rfl
 replace hl:(s.args.length:Int)=gV s.k:=by omega
 refine Sz0 ?_;refine Qm okB [(4,4),(7,7),(28,39)] [] (fun m J hp=>∃j,m=s.args.length-j/\j<=s.args.length/\(∀n (h:n<s.args.length),n<j->0<=s.args[n]/\s.args[n]<(i:Nat))/\J 28= .int .i64 (j:Nat)/\hp 5=some ⟨6,96,[PV.qq s],false⟩) s.args.length ?_ ?_
 ·refine⟨0,rfl,by omega,by omega,?_⟩;refine Sz0 ?_;rfl
 rintro _ J h ⟨j,rfl,hj,Jv,Oq,fK⟩;refine Sz1 Oq ?_;refine Qa (fun hg=>?_) (fun hg=>?_)
 ·have aT:j<s.args.length:=by omega
  have bD:0<=s.args[j]/\s.args[j]<(i:Nat)->∀n (h:n<s.args.length),n<j+1->0<=s.args[n]/\s.args[n]<(i:Nat):=fun h n hn Jp=>by
   by_cases e:n=j
   ·subst e;exact h
   ·exact Jv n hn Oz
  have XN:=Kag aT;generalize hx:s.args[j]=x at *
  refine Sz2 Oq hx ?_;refine Qp (fun h3=>?_) (fun h3=>?_)
  ·refine Sz0 ?_;exact Q4 ⟨2,rfl,o7 (by decide) fun q=>by have:=q.ok.r x XN;omega⟩ rfl
  refine Sz0 ?_;refine Qa (fun h4=>?_) (fun h4=>?_)
  ·refine Sz0 ?_;exact Q4 ⟨2,rfl,o7 (by decide) fun q=>by have:=q.ok.r x XN;omega⟩ rfl
  refine Sz1 Oq ?_;refine Qh (s.args.length-(j+1)) Oz ⟨j+1,rfl,by omega,bD ⟨by omega,by omega⟩,?_⟩;exact Tz1 fK
 obtain rfl:j=s.args.length:=by omega
 have ZZ:∀a∈s.args,0<=a/\a<(i:Nat):=fun a ha=>by obtain⟨n,hn,rfl⟩:=KaG ha;exact Jv n hn hn
 refine Sz1 fK ?_;by_cases h2:s.k=2
 ·have d2:decide (s.k=2)=true:=decide_eq_true h2;have vm:decide (¬s.k=2)=false:=by simp[h2]
  refine eF fK d2 vm hP hr ?_;cases hq:iX s.n s.a s.d
  ·refine Sz3 fK d2 vm ?_;exact Q4 ⟨1,rfl,o7 (by decide) fun q=>by have:=q.ok.q;rw[if_pos h2,hq]at this;cases this⟩ rfl
  have dS:uS i s:=⟨by omega,hl,ZZ,by rw[if_pos h2];exact hq⟩
  refine Sz3 fK d2 vm ?_;have cO:(S.take i).length<=S.length:=by rw[KaB];omega
  refine Qa (fun jk=>?_) (fun jk=>?_)
  ·refine Sz1 fK ?_;exact Q4 ⟨0,rfl,fun _=>⟨dS,.inl jk⟩,fun _=>rfl⟩ rfl
  refine pP fK hP ia ?_;cases mK:BZ s.name
  ·refine Sz1 fK ?_;exact Q4 ⟨6,rfl,o7 (by decide) fun q=>by rcases q.n with q|q;exact absurd q jk;exact absurd (Dj.2 q.1) (by rw[mK];decide)⟩ rfl
  refine Sz1 fK ?_;refine Qm okB [(4,4),(9,9),(71,80)] [9] (fun m J hp=>∃j,m=(S.take i).length-j/\j<=(S.take i).length/\(∀n (h:n<(S.take i).length),n<j->(S.take i)[n].name≠s.name)/\J 71= .int .i64 (j:Nat)/\hp 5=some ⟨6,96,[PV.qq s],false⟩) (S.take i).length ?_ ?_
  ·refine⟨0,rfl,by omega,by omega,?_⟩;refine Sz1 fK ?_;rfl
  rintro _ J2 h2 ⟨j,rfl,hj,bz,zD,fK⟩;refine Sz1 zD ?_;refine Qa (fun hg=>?_) (fun hg=>?_)
  ·have aT:j<(S.take i).length:=by omega
   have Fh:(∀j (h:j<S.length),j<i->S[j].name≠s.name)->(S.take i)[j].name≠s.name:=fun q=>by rw[KcV];exact q j (by rw[KaB]at aT;omega) (by rw[KaB]at aT;omega)
   have bD:(S.take i)[j].name≠s.name->∀n (h:n<(S.take i).length),n<j+1->(S.take i)[n].name≠s.name:=fun hh n hn Jp=>by
    by_cases e:n=j
    ·subst e;exact hh
    ·exact bz n hn Oz
   generalize hx:(S.take i)[j]=x at *
   refine Sz3 zD hx fK ?_;refine Qa (fun he=>?_) (fun he=>?_)
   ·refine Sz1 fK ?_;exact Q4 ⟨7,rfl,o7 (by decide) fun q=>by rcases q.n with q|q;exact absurd q jk;exact absurd he (Fh q.2)⟩ rfl
   refine Sz1 zD ?_;refine Qh ((S.take i).length-(j+1)) Oz ⟨j+1,rfl,by omega,bD he,?_⟩;exact Tz1 fK
  obtain rfl:j=(S.take i).length:=by omega
  refine Sz0 ?_;exact Q4 ⟨0,rfl,fun _=>⟨dS,.inr ⟨Dj.1 mK,fun j hj hZ=>by
   have h3:j<(S.take i).length:=by rw[KaB];omega
   have:=bz j h3 h3
   rwa[KcV]at this⟩⟩,fun _=>rfl⟩ rfl
 ·have d2:decide (s.k=2)=false:=decide_eq_false h2;have vm:decide (¬s.k=2)=true:=by simp[h2]
  refine eF fK d2 vm hP hz ?_;cases hq:mq s.n s.a s.d
  ·refine Sz3 fK d2 vm ?_;exact Q4 ⟨1,rfl,o7 (by decide) fun q=>by have:=q.ok.q;rw[if_neg h2,hq]at this;cases this⟩ rfl
  have dS:uS i s:=⟨by omega,hl,ZZ,by rw[if_neg h2];exact hq⟩
  refine Sz3 fK d2 vm ?_;have cO:(S.take i).length<=S.length:=by rw[KaB];omega
  refine Qa (fun jk=>?_) (fun jk=>?_)
  ·refine Sz1 fK ?_;exact Q4 ⟨0,rfl,fun _=>⟨dS,.inl jk⟩,fun _=>rfl⟩ rfl
  refine pP fK hP ia ?_;cases mK:BZ s.name
  ·refine Sz1 fK ?_;exact Q4 ⟨6,rfl,o7 (by decide) fun q=>by rcases q.n with q|q;exact absurd q jk;exact absurd (Dj.2 q.1) (by rw[mK];decide)⟩ rfl
  refine Sz1 fK ?_;refine Qm okB [(4,4),(9,9),(71,80)] [9] (fun m J hp=>∃j,m=(S.take i).length-j/\j<=(S.take i).length/\(∀n (h:n<(S.take i).length),n<j->(S.take i)[n].name≠s.name)/\J 71= .int .i64 (j:Nat)/\hp 5=some ⟨6,96,[PV.qq s],false⟩) (S.take i).length ?_ ?_
  ·refine⟨0,rfl,by omega,by omega,?_⟩;refine Sz1 fK ?_;rfl
  rintro _ J2 h2 ⟨j,rfl,hj,bz,zD,fK⟩;refine Sz1 zD ?_;refine Qa (fun hg=>?_) (fun hg=>?_)
  ·have aT:j<(S.take i).length:=by omega
   have Fh:(∀j (h:j<S.length),j<i->S[j].name≠s.name)->(S.take i)[j].name≠s.name:=fun q=>by rw[KcV];exact q j (by rw[KaB]at aT;omega) (by rw[KaB]at aT;omega)
   have bD:(S.take i)[j].name≠s.name->∀n (h:n<(S.take i).length),n<j+1->(S.take i)[n].name≠s.name:=fun hh n hn Jp=>by
    by_cases e:n=j
    ·subst e;exact hh
    ·exact bz n hn Oz
   generalize hx:(S.take i)[j]=x at *
   refine Sz3 zD hx fK ?_;refine Qa (fun he=>?_) (fun he=>?_)
   ·refine Sz1 fK ?_;exact Q4 ⟨7,rfl,o7 (by decide) fun q=>by rcases q.n with q|q;exact absurd q jk;exact absurd he (Fh q.2)⟩ rfl
   refine Sz1 zD ?_;refine Qh ((S.take i).length-(j+1)) Oz ⟨j+1,rfl,by omega,bD he,?_⟩;exact Tz1 fK
  obtain rfl:j=(S.take i).length:=by omega
  refine Sz0 ?_;exact Q4 ⟨0,rfl,fun _=>⟨dS,.inr ⟨Dj.1 mK,fun j hj hZ=>by
   have h3:j<(S.take i).length:=by rw[KaB];omega
   have:=bz j h3 h3
   rwa[KcV]at this⟩⟩,fun _=>rfl⟩ rfl
structure Gm(S:List Q3)(G:List Qq):Prop where
 s:∀i (h:i<S.length),uS i S[i]
 g:∀g∈G,cL g S.length=0
 l:S.length<=40
structure QP(S:List Q3)(G:List Qq):Prop where
 ok:Gm S G
 s:∀i (h:i<S.length),Km S i S[i]
 gl:G.length<=8
theorem Lz(hN:rp){S:List Q3}{G:List Qq}(hS:S.length<2^40)(hG:G.length<2^40)(hb:∀s∈S,lA s)(hg:∀g∈G,jD g):
  AC 15 [PV.df S G] (fun r=>∃e:Int,r= .int .i64 e/\(e=0↔QP S G)):=by
 refine aw Qf func15 anz fun C hP=>?_;refine Sz0 ?_;refine Qp (fun tL=>?_) (fun tL=>?_)
 ·refine Sz0 ?_;exact Q4 ⟨4,rfl,o7 (by decide) fun q=>absurd q.ok.l Oz⟩ rfl
 refine Sz0 ?_;refine Qa (fun h8=>?_) (fun h8=>?_)
 ·refine Sz0 ?_;exact Q4 ⟨4,rfl,o7 (by decide) fun q=>absurd q.gl Oz⟩ rfl
 refine Sz0 ?_;refine Qm okB [(2,4),(21,31)] [] (fun m J hp=>∃i,m=S.length-i/\i<=S.length/\(∀n (h:n<S.length),n<i->Km S n S[n])/\J 21= .int .i64 (i:Nat)/\hp 1=some ⟨2,25,[PV.df S G],false⟩) S.length ?_ ?_
 ·refine⟨0,rfl,by omega,by omega,?_⟩;refine Sz0 ?_;rfl
 rintro _ J h ⟨i,rfl,hi,bq,ku,bw⟩;refine Sz1 ku ?_;refine Qa (fun hc=>?_) (fun hc=>?_)
 ·have aE:i<S.length:=by omega
  have hr:=aff hN hS hb aE;refine Sz2 ku bw ?_;refine gP hP hr rfl rfl rfl ?_;rintro _ ⟨e,rfl,he⟩;by_cases h0:e=0
  ·subst h0;have bd:=he.1 rfl;refine Sz2 ku bw ?_;refine Qh (S.length-(i+1)) Oz ⟨i+1,rfl,by omega,fun n hn mS=>?_,?_⟩
   ·by_cases e:n=i
    ·subst e;exact bd
    ·exact bq n hn Oz
   exact Tz1 bw
  ·have d:decide (¬e=0)=true:=decide_eq_true h0;refine Sz3 ku bw d ?_;exact Q4 ⟨e,rfl,o7 h0 fun q=>absurd (he.2 (q.s i aE)) h0⟩ rfl
 obtain rfl:i=S.length:=by omega
 refine Sz1 bw ?_;refine Qm okB [(2,2),(6,7),(35,47)] [6] (fun m J hp=>∃i,m=G.length-i/\i<=G.length/\(∀n (h:n<G.length),n<i->cL G[n] S.length=0)/\J 35= .int .i64 (i:Nat)/\hp 1=some ⟨2,25,[PV.df S G],false⟩) G.length ?_ ?_
 ·refine⟨0,rfl,by omega,by omega,?_⟩;refine Sz1 bw ?_;rfl
 rintro _ J2 h2 ⟨i,rfl,oN,qO,JI,bw⟩;refine Sz1 JI ?_;refine Qa (fun hc=>?_) (fun hc=>?_)
 ·have aE:i<G.length:=by omega
  have hr:=Ly (n:=S.length) (hg _ (Kag aE));have bD:cL G[i] S.length=0->∀n (h:n<G.length),n<i+1->cL G[n] S.length=0:=fun h n hn mS=>by
   by_cases e:n=i
   ·subst e;exact h
   ·exact qO n hn Oz
  have hgm:=Kag aE;generalize hx:G[i]=x at *
  refine eF JI bw hx hP hr ?_;by_cases h0:cL x S.length=0
  ·have d:decide (¬cL x S.length=0)=false:=by simp[h0]
   refine Sz3 JI bw d ?_;refine Qh (G.length-(i+1)) Oz ⟨i+1,rfl,by omega,bD h0,?_⟩;exact Tz1 bw
  ·have d:decide (¬cL x S.length=0)=true:=decide_eq_true h0;refine Sz3 JI bw d ?_;exact Q4 ⟨_,rfl,o7 h0 fun q=>absurd (q.ok.g x hgm) h0⟩ rfl
 obtain rfl:i=G.length:=by omega
 refine Sz0 ?_;refine Q4 ⟨0,rfl,fun _=>⟨⟨fun i h=>(bq i h h).ok,fun g hm=>?_,by omega⟩,fun i h=>bq i h h,by omega⟩,fun _=>rfl⟩ rfl;obtain⟨n,hn,rfl⟩:=KaG hm;exact qO n hn hn
def oz(w l:List Int)(n:Nat):Int:=w.getD (l.getD n 0).toNat 0
def jr(w:List Int)(k:Int)(l:List Int):Int:=if k=2 then oz w l 0+oz w l 1 else if k=3∨k=4 then oz w l 0+oz w l 1+oz w l 2 else if k=5 then 2*oz w l 0+oz w l 1 else 1
def cM:Q3:=⟨0,.empty,[],false,[],[]⟩
def eM(S:List Q3):Nat->List Int
 |0=>[]
 |i+1=>eM S i++[jr (eM S i) (S.getD i cM).k (S.getD i cM).args]
theorem s6(S:List Q3):∀n,(eM S n).length=n
 |0=>rfl
 |n+1=>by rw[eM,Kap,s6 S n];rfl
theorem ak8{w l:List Int}{B:Int}(h:∀x∈w,0<=x/\x<=B)(hB:0<=B)(n:Nat):0<=oz w l n/\oz w l n<=B:=by
 unfold oz;rw[Kac];cases hq:w[(l.getD n 0).toNat]? with
 |none=>exact⟨Int.le_refl _,hB⟩
 |some x=>exact h x (Kai hq)
theorem Sk(S:List Q3):∀n,∀x∈eM S n,0<=x/\x<=(4^n:Nat)
 |0,x,h=>by cases h
 | n+1,x,h=>by
  have ih:=Sk S n;have h4:4^(n+1)=4*4^n:=by rw[KbH,Ka5]
  have hp:1<=4^n:=Nat.one_le_pow _ _ Oz;rw[eM]at h;rcases KaS.1 h with h|h
  ·have:=ih x h;omega
  ·obtain rfl:x=jr (eM S n) (S.getD n cM).k (S.getD n cM).args:=by simpa using h
   have b:=fun m=>ak8 (l:=(S.getD n cM).args) ih Oz m;have b0:=b 0;have b1:=b 1;have b2:=b 2;unfold jr
   repeat' split
   all_goals omega
theorem ahA{α:Type}{f:α->PV}{fr:Fr}{hp:HP}{K:Qg}{e d:Nat}{k:IntKind}{xs:List α}(h:2<xs.length):dt e (.sl e (xs.map f)) (.int k 2) d fr hp K=K (ae fr d (.pt (f (xs[2]'h)).cells)) hp:=by rw[yf Oz Oz];rfl
attribute [go_sem] ahA
theorem Q4u{S:List Q3}{G:List Qq}(hf:Gm S G)(tM:S.length<=8):AC 99 [PV.df S G] (· =PV.mono (eM S S.length)):=by
 refine aw Qf func99 anw fun C hP=>?_;refine Sz0 ?_;refine jt 3 900 1 3 Oz Tz0 ?_;refine Qm okB [(3,83)] [82,83,900] (fun m J hp=>∃i,m=S.length-i/\i<=S.length/\J 3= .ms 900 i/\J 4= .int .i64 (i:Nat)/\hp 1=some ⟨2,25,[PV.df S G],false⟩/\hp 900=some ⟨1,3,tE (eM S i),false⟩) S.length ?_ ?_
 ·refine⟨0,rfl,by omega,?_⟩;refine Sz0 ?_;exact⟨rfl,rfl⟩
 rintro _ J h ⟨i,rfl,hi,j3,j4,bw,bB⟩;refine Sz2 j4 bw ?_;refine Qa (fun hc=>?_) (fun hc=>?_)
 ·have aE:i<S.length:=by omega
  have bd:=hf.s i aE;have hd:S.getD i cM=S[i]:=by rw[Kac,Kad aE];rfl
  have vI:eM S (i+1)=eM S i++[jr (eM S i) S[i].k S[i].args]:=by rw[eM,hd]
  have kq:=s6 S i;have XR:=Sk S i;generalize hx:S[i]=s at *
  have h48:4^i<=4^8:=KbD Oz Oz;have ct:∀n,n<s.args.length->∃(m:Nat)(v:Int),m<i/\(∀h:n<s.args.length,s.args[n]'h=(m:Int))/\(∀h:m<(eM S i).length,(eM S i)[m]'h=v)/\oz (eM S i) s.args n=v/\0<=v/\v<=65536:=fun n hn=>by
   have hr:=bd.r _ (Kag hn);have zc:s.args[n].toNat<(eM S i).length:=by omega
   have hv:=XR _ (Kag zc);refine⟨s.args[n].toNat,(eM S i)[s.args[n].toNat],by omega,fun _=>by omega,fun _=>rfl,?_,hv.1,by omega⟩;unfold oz;rw[Kac,Kac,Kad hn];simp only[Ka9];rw[Kad zc];rfl
  have hlen:=bd.l;generalize eM S i=w at *
  clear bd XR;by_cases k2:s.k=2
  ·have jM:s.args.length=2:=by rw[k2]at hlen;have:gV 2=2:=(by decide);omega
   obtain⟨m0,v0,a0,a1,a2,a3,a4,a5⟩:=ct 0 Oz;obtain⟨m1,v1,b0,b1,b2,b3,b4,b5⟩:=ct 1 Oz;rw[show jr w s.k s.args=v0+v1 by rw[jr,if_pos k2,a3,b3]]at vI;have d2:decide (s.k=2)=true:=decide_eq_true k2;refine AZ j3 j4 bB bw hx d2 a1 a2 b1 b2 ?_;rw[Qv (f:=PV.int .i64) (y:=(v0+v1)) (xs:=w) (ty':=3) (fz:=false) (mE bB) a9 Oz kq.symm Oz Oz];refine Sz2 j4 bw ?_;refine Qh (S.length-(i+1)) Oz ⟨i+1,rfl,by omega,?_⟩;exact Tz3 j4 bw vI
  by_cases k3:s.k=3∨s.k=4
  ·have jM:s.args.length=3:=by
    rcases k3 with k3|k3
    ·rw[k3]at hlen;have:gV 3=3:=by decide
     omega
    ·rw[k3]at hlen;have:gV 4=3:=by decide
     omega
   obtain⟨m0,v0,a0,a1,a2,a3,a4,a5⟩:=ct 0 Oz;obtain⟨m1,v1,b0,b1,b2,b3,b4,b5⟩:=ct 1 Oz;obtain⟨m2,v2,c0,c1,c2,c3,c4,c5⟩:=ct 2 Oz;rw[show jr w s.k s.args=v0+v1+v2 by rw[jr,if_neg k2,if_pos k3,a3,b3,c3]]at vI;have d2:decide (s.k=2)=false:=decide_eq_false k2;rcases k3 with k3|k3
   ·have d3:decide (s.k=3)=true:=decide_eq_true k3;refine Sz13 j3 j4 bB bw hx d2 d3 a1 a2 b1 b2 c1 c2 ?_;rw[Qv (f:=PV.int .i64) (y:=(v0+v1+v2)) (xs:=w) (ty':=3) (fz:=false) (mE bB) a9 Oz kq.symm Oz Oz];refine Sz2 j4 bw ?_;refine Qh (S.length-(i+1)) Oz ⟨i+1,rfl,by omega,?_⟩;exact Tz3 j4 bw vI
   ·have d3:decide (s.k=3)=false:=decide_eq_false Oz;have d4:decide (s.k=4)=true:=decide_eq_true k3;have dd:decide (s.k=2)=false/\decide (s.k=3)=false/\decide (s.k=4)=true:=⟨d2,d3,d4⟩
    refine yB j3 j4 bB bw hx dd a1 a2 b1 b2 c1 c2 ?_;rw[Qv (f:=PV.int .i64) (y:=(v0+v1+v2)) (xs:=w) (ty':=3) (fz:=false) (mE bB) a9 Oz kq.symm Oz Oz];refine Sz2 j4 bw ?_;refine Qh (S.length-(i+1)) Oz ⟨i+1,rfl,by omega,?_⟩;exact Tz3 j4 bw vI
  have dd:decide (s.k=2)=false/\decide (s.k=3)=false/\decide (s.k=4)=false:=⟨decide_eq_false k2,decide_eq_false Oz,decide_eq_false Oz⟩
  by_cases k5:s.k=5
  ·have jM:s.args.length=2:=by rw[k5]at hlen;have:gV 5=2:=(by decide);omega
   obtain⟨m0,v0,a0,a1,a2,a3,a4,a5⟩:=ct 0 Oz;obtain⟨m1,v1,b0,b1,b2,b3,b4,b5⟩:=ct 1 Oz;rw[show jr w s.k s.args=2*v0+v1 by rw[jr,if_neg k2,if_neg k3,if_pos k5,a3,b3]]at vI;have d5:decide (s.k=5)=true:=decide_eq_true k5;refine Cb j3 j4 bB bw hx dd d5 a1 a2 b1 b2 ?_;rw[Qv (f:=PV.int .i64) (y:=(2*v0+v1)) (xs:=w) (ty':=3) (fz:=false) (mE bB) a9 Oz kq.symm Oz Oz];refine Sz2 j4 bw ?_;refine Qh (S.length-(i+1)) Oz ⟨i+1,rfl,by omega,?_⟩;exact Tz3 j4 bw vI
  ·rw[show jr w s.k s.args=1 by rw[jr,if_neg k2,if_neg k3,if_neg k5]]at vI;have d5:decide (s.k=5)=false:=decide_eq_false k5;refine Sz7 j3 j4 bB bw hx dd d5 ?_;rw[Qv (f:=PV.int .i64) (y:=1) (xs:=w) (ty':=3) (fz:=false) (mE bB) a9 Oz kq.symm Oz Oz];refine Sz2 j4 bw ?_;refine Qh (S.length-(i+1)) Oz ⟨i+1,rfl,by omega,?_⟩;exact Tz3 j4 bw vI
 obtain rfl:i=S.length:=by omega
 refine Sz1 j3 ?_;exact ig (e:=1) (ty:=3) (xs:=tE (eM S S.length)) (fz:=false) bB (by rw[Kah (by simp[s6])])
structure Sl(S:List Q3)(G:List Qq):Prop where
 w:∀x∈eM S S.length,x<=8
 g:∀g∈G,g.k=6∨g.k=7->∀a∈g.args,(eM S S.length).getD a.toNat 0<=3
theorem ym{g:Qq}{n:Int}(h:cL g n=0):cr g.k≠0/\(g.args.length:Int)=cr g.k/\(∀a∈g.args,0<=a/\a<n)/\(if g.k=9 then iX g.n g.a g.d else mq g.n g.a g.d)=true:=by
 unfold cL at h;split at h
 ·cases h
 split at h
 ·cases h
 split at h
 ·cases h
 rename_i h1 h2 h3;by_cases h4:(if g.k=9 then iX g.n g.a g.d else mq g.n g.a g.d)=true
 ·refine⟨h1,by omega,fun a ha=>?_,h4⟩;have:¬(a<0∨n<=a):=fun hq=>h3 (KaU.2 ⟨a,ha,decide_eq_true hq⟩);omega
 ·rw[if_neg h4]at h;cases h
theorem ahB{S:List Q3}{G:List Qq}(hf:Gm S G)(tM:S.length<=8)(hG:G.length<2^40):AC 55 [PV.df S G] (fun r=>∃b,r= .bool b/\(b=true->Sl S G)):=by
 have hw:=Q4u hf tM;have kq:(eM S S.length).length=S.length:=s6 S _;have tV:∀x∈eM S S.length,x=x:=fun _ _=>rfl;refine aw Qf func55 anv fun C hP=>?_;refine aq hP hw ?_;obtain⟨w,Fy⟩:∃w,eM S S.length=w:=⟨_,rfl⟩
 rw[Fy]at kq⊢;refine Sz0 ?_;refine Qm okB [(2,2),(4,4),(10,20)] [] (fun m J hp=>∃i,m=w.length-i/\i<=w.length/\(∀n (h:n<w.length),n<i->w[n]<=8)/\J 4= .int .i64 (i:Nat)/\hp 1=some ⟨2,25,[PV.df S G],false⟩) w.length ?_ ?_
 ·refine⟨0,rfl,by omega,by omega,?_⟩;refine Sz0 ?_;rfl
 rintro _ J h ⟨i,rfl,hi,h8,j4,bw⟩;refine Sz1 j4 ?_;refine Qa (fun hc=>?_) (fun hc=>?_)
 ·have aE:i<w.length:=by omega
  have bD:w[i]<=8->∀n (h:n<w.length),n<i+1->w[n]<=8:=fun h n hn mS=>by
   by_cases e:n=i
   ·subst e;exact h
   ·exact h8 n hn Oz
  generalize hx:w[i]=x at *
  refine Sz2 j4 hx ?_;refine Qa (fun hq=>?_) (fun hq=>?_)
  ·refine Sz0 ?_;exact Q4 ⟨false,rfl,fun h=>by cases h⟩ rfl
  refine Sz1 j4 ?_;refine Qh (w.length-(i+1)) Oz ⟨i+1,rfl,by omega,bD Oz,?_⟩;exact Tz1 bw
 obtain rfl:i=w.length:=by omega
 have bC:∀x∈w,x<=8:=fun x hx=>by obtain⟨n,hn,rfl⟩:=KaG hx;exact h8 n hn hn
 refine Sz1 bw ?_;refine Qm okB [(2,2),(5,7),(21,58)] [6] (fun m J hp=>∃i,m=G.length-i/\i<=G.length/\(∀n (h:n<G.length),n<i->G[n].k=6∨G[n].k=7->∀a∈G[n].args,w.getD a.toNat 0<=3)/\J 5= .int .i64 (i:Nat)/\hp 1=some ⟨2,25,[PV.df S G],false⟩) G.length ?_ ?_
 ·refine⟨0,rfl,by omega,by omega,?_⟩;refine Sz1 bw ?_;rfl
 rintro _ J2 h2 ⟨i,rfl,oN,qO,j5,bw⟩;refine Sz2 j5 bw ?_;refine Qa (fun hc=>?_) (fun hc=>?_)
 ·have aE:i<G.length:=by omega
  obtain⟨_,XL,Jv,_⟩:=ym (hf.g _ (Kag aE));have bD:(G[i].k=6∨G[i].k=7->∀a∈G[i].args,w.getD a.toNat 0<=3)->∀n (h:n<G.length),n<i+1->G[n].k=6∨G[n].k=7->∀a∈G[n].args,w.getD a.toNat 0<=3:=fun h n hn mS=>by
   by_cases e:n=i
   ·subst e;exact h
   ·exact qO n hn Oz
  generalize hx:G[i]=g at *
  refine Sz3 j5 bw hx ?_;have tQ:g.args.length<=8:=by
   unfold cr at XL
   repeat' split at XL
   all_goals omega
  refine Qm okB [(2,2),(7,7),(33,58)] [] (fun m J hp=>∃j,m=g.args.length-j/\j<=g.args.length/\(∀n (h:n<g.args.length),n<j->g.k=6∨g.k=7->w.getD g.args[n].toNat 0<=3)/\J 7= .int .i64 (j:Nat)/\hp 1=some ⟨2,25,[PV.df S G],false⟩/\hp 6=some ⟨5,59,[PV.bI g],false⟩) g.args.length ?_ ?_
  ·refine⟨0,rfl,by omega,by omega,?_⟩;refine Sz1 bw ?_;rfl
  rintro _ J3 h3 ⟨j,rfl,hj,Zy,j7,bw,sh⟩;refine Sz2 j7 sh ?_;refine Qa (fun jJ=>?_) (fun jJ=>?_)
  ·have aT:j<g.args.length:=by omega
   have Fk:=Jv _ (Kag aT);have Eu:(g.k=6∨g.k=7->w.getD g.args[j].toNat 0<=3)->∀n (h:n<g.args.length),n<j+1->g.k=6∨g.k=7->w.getD g.args[n].toNat 0<=3:=fun h n hn mS=>by
    by_cases e:n=j
    ·subst e;exact h
    ·exact Zy n hn Oz
   obtain⟨m,hm⟩:∃m:Nat,g.args[j]=(m:Int):=⟨g.args[j].toNat,by omega⟩
   have hmw:m<w.length:=by omega
   rw[hm,Kbs,Kac,Kad hmw]at Eu;simp only[Ka9]at Eu;generalize hy:w[m]=y at *
   by_cases k6:g.k=6
   ·have d6:decide (g.k=6)=true:=decide_eq_true k6;refine Sz5 j7 sh d6 hm hy ?_;refine Qa (fun hq=>?_) (fun hq=>?_)
    ·refine Sz0 ?_;exact Q4 ⟨false,rfl,fun h=>by cases h⟩ rfl
    refine Sz1 j7 ?_;refine Qh (g.args.length-(j+1)) Oz ⟨j+1,rfl,by omega,Eu (fun _=>by omega),?_⟩;exact Tz2 bw sh
   have d6:decide (g.k=6)=false:=decide_eq_false k6;by_cases k7:g.k=7
   ·have d7:decide (g.k=6)=false/\decide (g.k=7)=true:=⟨d6,decide_eq_true k7⟩
    refine Sz5 j7 sh d7 hm hy ?_;refine Qa (fun hq=>?_) (fun hq=>?_)
    ·refine Sz0 ?_;exact Q4 ⟨false,rfl,fun h=>by cases h⟩ rfl
    refine Sz1 j7 ?_;refine Qh (g.args.length-(j+1)) Oz ⟨j+1,rfl,by omega,Eu (fun _=>by omega),?_⟩;exact Tz2 bw sh
   ·have d7:decide (g.k=6)=false/\decide (g.k=7)=false:=⟨d6,decide_eq_false k7⟩
    refine Sz4 j7 sh d7 hm ?_;refine Qh (g.args.length-(j+1)) Oz ⟨j+1,rfl,by omega,Eu (fun hk=>by omega),?_⟩;exact Tz2 bw sh
  obtain rfl:j=g.args.length:=by omega
  refine Sz1 j5 ?_;simp (disch:=decide) only[mu,uJ];refine Qh (G.length-(i+1)) Oz ⟨i+1,rfl,by omega,bD (fun hk a ha=>?_),?_⟩
  ·obtain⟨n,hn,rfl⟩:=KaG ha;exact Zy n hn hn hk
  exact Tz1 bw
 obtain rfl:i=G.length:=by omega
 refine Sz0 ?_;refine Q4 ⟨true,rfl,fun _=>⟨by rw[Fy];exact bC,fun g hm=>?_⟩⟩ rfl;rw[Fy];obtain⟨n,hn,rfl⟩:=KaG hm;exact qO n hn hn
structure om(S:List Q3)(G:List Qq):Prop where
 f:Gm S G
 l:S.length<=8
 gl:G.length<=3
 t:Sl S G
 s:∀s∈S,s.a.length<=2/\s.d.length<=2
 g:∀g∈G,g.a.length<=2/\g.d.length<=2
 o:QP S G
theorem ak9(hN:rp){S:List Q3}{G:List Qq}(hS:S.length<2^40)(hG:G.length<2^40)(hb:∀s∈S,lA s)(hg:∀g∈G,jD g):
  AC 26 [PV.df S G] (fun r=>∃b,r= .bool b/\(b=true->om S G)):=by
 have hR:=Lz hN hS hG hb hg;refine aw Qf func26 anx fun C hP=>?_;refine Sz0 ?_;refine Qp (fun h8=>?_) (fun h8=>?_)
 ·refine Sz0 ?_;exact Q4 ⟨false,rfl,fun h=>by cases h⟩ rfl
 refine Sz0 ?_;refine Qp (fun h3=>?_) (fun h3=>?_)
 ·refine Sz0 ?_;exact Q4 ⟨false,rfl,fun h=>by cases h⟩ rfl
 refine Sz0 ?_;refine gP hP hR rfl rfl rfl ?_;rintro _ ⟨e,rfl,he⟩;by_cases h0:¬e=0
 ·have d:decide (¬e=0)=true:=decide_eq_true h0;refine Sz1 d ?_;exact Q4 ⟨false,rfl,fun h=>by cases h⟩ rfl
 obtain rfl:e=0:=by omega
 have ho:=he.1 rfl;have hf:=ho.ok;have hT:=ahB hf Oz hG;refine Sz0 ?_;refine gP hP hT rfl rfl rfl ?_;rintro _ ⟨b,rfl,ht⟩;cases b
 ·refine Sz0 ?_;exact Q4 ⟨false,rfl,fun h=>by cases h⟩ rfl
 replace ht:=ht rfl;refine Sz0 ?_;refine Qm okB [(2,3),(25,52)] [] (fun m J hp=>∃i,m=S.length-i/\i<=S.length/\(∀n (h:n<S.length),n<i->S[n].a.length<=2/\S[n].d.length<=2)/\J 3= .int .i64 (i:Nat)/\hp 1=some ⟨2,25,[PV.df S G],false⟩) S.length ?_ ?_
 ·refine⟨0,rfl,by omega,by omega,?_⟩;refine Sz0 ?_;rfl
 rintro _ J h ⟨i,rfl,hi,bq,j3,bw⟩;refine Sz2 j3 bw ?_;refine Qa (fun hc=>?_) (fun hc=>?_)
 ·have aE:i<S.length:=by omega
  have bD:S[i].a.length<=2/\S[i].d.length<=2->∀n (h:n<S.length),n<i+1->S[n].a.length<=2/\S[n].d.length<=2:=fun h n hn mS=>by
   by_cases e:n=i
   ·subst e;exact h
   ·exact bq n hn Oz
  generalize hx:S[i]=s at *
  refine Sz3 j3 bw hx ?_;refine Qp (fun q1=>?_) (fun q1=>?_)
  ·refine Sz0 ?_;exact Q4 ⟨false,rfl,fun h=>by cases h⟩ rfl
  refine Sz3 j3 bw hx ?_;refine Qa (fun q2=>?_) (fun q2=>?_)
  ·refine Sz0 ?_;exact Q4 ⟨false,rfl,fun h=>by cases h⟩ rfl
  refine Sz1 j3 ?_;refine Qh (S.length-(i+1)) Oz ⟨i+1,rfl,by omega,bD ⟨by omega,by omega⟩,?_⟩;exact Tz1 bw
 obtain rfl:i=S.length:=by omega
 refine Sz1 bw ?_;refine Qm okB [(2,2),(4,4),(53,80)] [] (fun m J hp=>∃i,m=G.length-i/\i<=G.length/\(∀n (h:n<G.length),n<i->G[n].a.length<=2/\G[n].d.length<=2)/\J 4= .int .i64 (i:Nat)/\hp 1=some ⟨2,25,[PV.df S G],false⟩) G.length ?_ ?_
 ·refine⟨0,rfl,by omega,by omega,?_⟩;refine Sz1 bw ?_;rfl
 rintro _ J2 h2 ⟨i,rfl,oN,qO,j4,bw⟩;refine Sz2 j4 bw ?_;refine Qa (fun hc=>?_) (fun hc=>?_)
 ·have aE:i<G.length:=by omega
  have bD:G[i].a.length<=2/\G[i].d.length<=2->∀n (h:n<G.length),n<i+1->G[n].a.length<=2/\G[n].d.length<=2:=fun h n hn mS=>by
   by_cases e:n=i
   ·subst e;exact h
   ·exact qO n hn Oz
  generalize hx:G[i]=g at *
  refine Sz3 j4 bw hx ?_;refine Qp (fun q1=>?_) (fun q1=>?_)
  ·refine Sz0 ?_;exact Q4 ⟨false,rfl,fun h=>by cases h⟩ rfl
  refine Sz3 j4 bw hx ?_;refine Qa (fun q2=>?_) (fun q2=>?_)
  ·refine Sz0 ?_;exact Q4 ⟨false,rfl,fun h=>by cases h⟩ rfl
  refine Sz1 j4 ?_;refine Qh (G.length-(i+1)) Oz ⟨i+1,rfl,by omega,bD ⟨by omega,by omega⟩,?_⟩;exact Tz1 bw
 obtain rfl:i=G.length:=by omega
 refine Sz0 ?_;refine Q4 ⟨true,rfl,fun _=>⟨hf,by omega,by omega,ht,fun s hm=>?_,fun g hm=>?_,ho⟩⟩ rfl
 ·obtain⟨n,hn,rfl⟩:=KaG hm;exact bq n hn hn
 ·obtain⟨n,hn,rfl⟩:=KaG hm;exact qO n hn hn
abbrev Frm:=List Cd×List Vr×Nat
def bb(S:List Q3):Nat->Frm
 |0=>([],[],0)
 | i+1=>((bb S i).1++[jx (S.getD i cM).k (rv (S.getD i cM).n (S.getD i cM).a (S.getD i cM).d) (de (bb S i).1 (S.getD i cM).args) (bb S i).2.1.length (bb S i).2.2],
   (bb S i).2.1++iY (S.getD i cM).k (i:Nat) (bb S i).2.2,if(S.getD i cM).k=1 then(bb S i).2.2+1 else(bb S i).2.2)
theorem rB(S:List Q3):∀i,(bb S i).1.length=i
 |0=>rfl
 |i+1=>by rw[bb,Kap,rB S i];rfl
theorem LA(k i:Int)(b:Nat):(iY k i b).length<=3:=by
 unfold iY rM
 repeat' split
 all_goals simp
theorem AE(S:List Q3):∀i,(bb S i).2.1.length<=3*i/\(bb S i).2.2<=i
 |0=>⟨Kae _,Kae _⟩
 |i+1=>by obtain⟨h1,h2⟩:=AE S i;have h3:=LA (S.getD i cM).k (i:Nat) (bb S i).2.2;rw[bb];refine⟨by simp only[Kap];omega,?_⟩;simp only;split<;>omega
abbrev WQ(w:Nat)(c:Cd):Prop:=CQ w (16*w-8) w c
theorem Vn{q:List Tm}(hq:bN q)(m:Rat):cB (dz m) q=kB q m:=
 Dg (CZ (xT m).s hq.s) (s5 hq.s m) fun φ=>by rw[afb (xT m) hq,Hp,Cz φ hq.c];have:∀(n:List Int),cy (fun k=>φ (ek n k)) (dz m)=m*φ (ek n []):=fun n=>K8 _ m;rw[wg (ψ:=fun n=>m*φ n) fun s hs=>by rw[this,LQ (hq.c s hs)],LS]
theorem ahC{p q:List Tm}(hp:bN p)(hq:bN q)(m:Rat):Qu p (cB (dz m) (bF q p))=Qu (kB p (1-m)) (kB q m):=by have h1:=PZ hq hp;rw[Vn h1];exact Dg (An hp (s5 h1.s m)) (An (s5 hp.s _) (s5 hq.s m)) fun φ=>by rw[CY hp.c (s5 h1.s m).c,Cz φ h1.c,LU φ hq.c hp,CY (s5 hp.s _).c (s5 hq.s m).c,Cz φ hp.c,Cz φ hq.c];grind
theorem QQ{p q:List Tm}{u v:Nat}{m:Rat}(hu:1<=u)(hv:1<=v)(hp:PQ u (16*u-8) u p)(hq:PQ v (16*v-8) v q)(hm:rs m<=2):PQ (u+v) (16*(u+v)-8) (u+v) (Qu p (cB (dz m) (bF q p))):=by
 rw[ahC hp.n hq.n];have h1:rs (1-m)+1<=5:=by have h:=pw 1 (-m);rw[Kd,<-Rat.sub_eq_add_neg]at h;have:=vh;omega
 exact(((hp.mono (Kae _) (Kae _) (show u<=u+v by omega)).scale h1).add ((hq.mono (Kae _) (Kae _) (show v<=u+v by omega)).scale (show rs m+1<=3 by omega))).mono (Kae _) Oz (Kae _)
theorem QR{p q t:List Tm}{u v:Nat}(hu:1<=u)(hv:1<=v)(hp:PQ u (16*u-8) u p)(hq:PQ v (16*v-8) v q)(hm:PQ 1 4 1 t):PQ (2*u+v) (16*(2*u+v)-8) (2*u+v) (Qu p (cB t (bF q p))):=by have hmul:=hm.mul ((hq.mono (Kae _) (Kae _) (show v<=u+v by omega)).sub (hp.mono (Kae _) (Kae _) (show u<=u+v by omega)));have Fc:min 1 (v+u)*(4+(16*v-8+(16*u-8+2)))<=1*(4+(16*v-8+(16*u-8+2))):=Kam _ Oz;exact((hp.mono (Kae _) (Kae _) (show u<=2*u+v by omega)).add (hmul.mono (Kae _) (Kae _) (show 1+(u+v)<=2*u+v by omega))).mono Oz Oz (Kae _)
theorem H4{p q r:List Tm}{u v x:Nat}(hu:1<=u)(hv:1<=v)(hx:1<=x)(hp:PQ u (16*u-8) u p)(hq:PQ v (16*v-8) v q)(hr:PQ x (16*x-8) x r){w:Nat}(hw:u+v+x=w):PQ w (16*w-8) w (oh p q r):=by subst hw;exact((hp.mono (Kae _) (Kae _) (show u<=u+v+x by omega)).add ((hq.mono (Kae _) (Kae _) (show v<=u+v+x by omega)).sub (hr.mono (Kae _) (Kae _) (show x<=u+v+x by omega)))).mono Oz Oz (Kae _)
abbrev PV.frame(cs:List Cd)(vs:List Vr):PV:=.agg [.sl 2 (cs.map PV.aD),.sl 3 (vs.map PV.fvar)]
theorem QT{S:List Q3}:∀ {n i:Nat} (h:i<n),(eM S n)[i]'(by rw[s6];exact h)=jr (eM S i) (S.getD i cM).k (S.getD i cM).args
 | n+1,i,h=>by
  simp only[eM];by_cases e:i<n
  ·rw[KcO (by rw[s6];exact e)];exact QT e
  ·obtain rfl:i=n:=by omega
   rw[List.getElem_append_right (by rw[s6];omega)];simp[s6]
theorem Ap{S:List Q3}{n i:Nat}(h:i<n):(eM S n).getD i 0=jr (eM S i) (S.getD i cM).k (S.getD i cM).args:=by rw[Kac,Kad (by rw[s6];exact h)];exact QT h
theorem WQ.one{c:Cd}(hx:PQ 1 4 1 c.1)(hy:PQ 1 4 1 c.2):WQ 1 c:=⟨hx.mono Oz Oz Oz,hy.mono Oz Oz Oz⟩
theorem Tr{w:Nat}{c:Cd}(h:WQ w c)(hw:w<=8):CB c:=h.mono Oz Oz Oz
theorem Ds{S:List Q3}{G:List Qq}(hF:om S G)(hb:∀s∈S,lA s):∀i,i<=S.length->∀n,n<i->∃w:Nat,1<=w/\w<=8/\(eM S i).getD n 0=(w:Int)/\WQ w ((bb S i).1.getD n ([],[]))
 |0,_,n,h=>by omega
 | i +1,hi,n,h=>by
  have ih:=Ds hF hb i Oz;have hl:=rB S i;have qP:i<S.length:=by omega
  have hd:S.getD i cM=S[i]:=by rw[Kac,Kad qP];rfl
  have bd:=hF.f.s i qP;have fh:=hF.s _ (Kag qP);have ZX:=(hb _ (Kag qP)).r;by_cases hn:n<i
  ·obtain⟨w,h1,h2,h3,h4⟩:=ih n hn;refine⟨w,h1,h2,?_,?_⟩
   ·rw[Ap (show n<i+1 by omega),<-Ap hn];exact h3
   ·rw[bb];simp only;rw[Kac,KbA Oz,<-List.getD_eq_getElem?_getD];exact h4
  obtain rfl:n=i:=by omega
  have Fw:(eM S (n+1)).getD n 0<=8:=by
   have e:(eM S (n+1)).getD n 0=(eM S S.length).getD n 0:=by rw[Ap (Kcx n),Ap qP]
   rw[e,Kac,Kad (by rw[s6];exact qP)];exact hF.t.w _ (Kag _)
  have hc:(bb S (n+1)).1.getD n ([],[])=jx S[n].k (rv S[n].n S[n].a S[n].d) (de (bb S n).1 S[n].args) (bb S n).2.1.length (bb S n).2.2:=by rw[bb,hd];simp only;rw[Kac,Kbm Oz];simp[hl]
  rw[Ap (Kcx n),hd]at Fw;rw[Ap (Kcx n),hd,hc];have hlen:=bd.l;have ct:∀m,m<S[n].args.length->∃w:Nat,1<=w/\w<=8/\oz (eM S n) S[n].args m=(w:Int)/\WQ w ((de (bb S n).1 S[n].args).getD m ([],[])):=fun m hm=>by
   have hr:=bd.r _ (Kag hm);obtain⟨w,h1,h2,h3,h4⟩:=ih S[n].args[m].toNat Oz;refine⟨w,h1,h2,?_,?_⟩
   ·unfold oz;rw[show S[n].args.getD m 0=S[n].args[m]by rw[Kac,Kad hm];rfl];exact h3
   ·rw[show(de (bb S n).1 S[n].args).getD m ([],[])=(bb S n).1.getD S[n].args[m].toNat ([],[])by rw[Kac,de,Kao,Kad hm];rfl];exact h4
  have hk:=bd.k;have hq:=bd.q;generalize S[n]=s at *
  generalize bb S n=F at *
  generalize de F.1 s.args=L at *
  generalize eM S n=W at *
  have v1:∀m:Nat,PQ 1 4 1 (cq m):=fun m=>PQ.var;have v0:PQ 1 4 1 []:=PQ.nil;by_cases k1:s.k=1
  ·refine⟨1,by omega,by omega,by rw[k1];rfl,WQ.one ?_ ?_⟩
   all_goals
    rw[k1];simp only[jx,tl];rw[if_pos trivial]
    repeat' split
    all_goals first|exact v1 _|exact v0
  have N1:=(show Raw 2 s.n s.a s.d from⟨ZX.la,ZX.ld,fh.1,fh.2,by omega⟩).rs;by_cases k2:s.k=2
  ·have jM:s.args.length=2:=by rw[k2]at hlen;have:gV 2=2:=(by decide);omega
   obtain⟨w0,a1,a2,a3,a4⟩:=ct 0 Oz;obtain⟨w1,b1,b2,b3,b4⟩:=ct 1 Oz;have e:jr W s.k s.args=((w0+w1:Nat):Int):=by rw[jr,if_pos k2,a3,b3];omega
   rw[e]at Fw⊢;refine⟨w0+w1,by omega,by omega,rfl,?_⟩;rw[jx,if_neg k1,if_pos k2];exact⟨QQ a1 b1 a4.x b4.x N1,QQ a1 b1 a4.y b4.y N1⟩
  by_cases k3:s.k=3∨s.k=4
  ·have jM:s.args.length=3:=by
    rcases k3 with k3|k3
    ·rw[k3]at hlen;have:gV 3=3:=by decide
     omega
    ·rw[k3]at hlen;have:gV 4=3:=by decide
     omega
   obtain⟨w0,a1,a2,a3,a4⟩:=ct 0 Oz;obtain⟨w1,b1,b2,b3,b4⟩:=ct 1 Oz;obtain⟨w2,c1,c2,c3,c4⟩:=ct 2 Oz;have e:jr W s.k s.args=((w0+w1+w2:Nat):Int):=by rw[jr,if_neg k2,if_pos k3,a3,b3,c3];omega
   rw[e]at Fw⊢;refine⟨w0+w1+w2,by omega,by omega,rfl,?_⟩;rw[jx,if_neg k1,if_neg k2];by_cases q3:s.k=3
   ·rw[if_pos q3];exact⟨H4 a1 c1 b1 a4.x c4.x b4.x Oz,H4 a1 c1 b1 a4.y c4.y b4.y Oz⟩
   ·rw[if_neg q3,if_pos Oz];exact⟨H4 a1 b1 c1 a4.x b4.y c4.y Oz,H4 a1 c1 b1 a4.y c4.x b4.x Oz⟩
  by_cases k5:s.k=5
  ·have jM:s.args.length=2:=by rw[k5]at hlen;have:gV 5=2:=(by decide);omega
   obtain⟨w0,a1,a2,a3,a4⟩:=ct 0 Oz;obtain⟨w1,b1,b2,b3,b4⟩:=ct 1 Oz;have e:jr W s.k s.args=((2*w0+w1:Nat):Int):=by rw[jr,if_neg k2,if_neg k3,if_pos k5,a3,b3];omega
   rw[e]at Fw⊢;refine⟨2*w0+w1,by omega,by omega,rfl,?_⟩;rw[jx,if_neg k1,if_neg k2,if_neg Oz,if_neg Oz,if_pos k5];exact⟨QR a1 b1 a4.x b4.x (v1 _),QR a1 b1 a4.y b4.y (v1 _)⟩
  ·have e:jr W s.k s.args=((1:Nat):Int):=by rw[jr,if_neg k2,if_neg k3,if_neg k5];rfl
   rw[e]at Fw⊢;refine⟨1,by omega,by omega,rfl,?_⟩;rw[jx,if_neg k1,if_neg k2,if_neg Oz,if_neg Oz,if_neg k5];split
   ·exact WQ.one (v1 _) (v1 _)
   ·exact WQ.one (v1 _) (v1 _)
end Go.Proofs.YtmkijkjaeljieaaGreat
namespace Go.FW
open Go
theorem Sm(x y:Int)(hy:y≠0):rs ((x:Rat)/(y:Rat))<=max (nl x.natAbs) (max (nl y.natAbs) 1):=by
 rw[<-Q8p x y hy];have:=Hy (zv (decide (x<0) !=decide (y<0)) (ak x.natAbs)) y.natAbs
 rwa[lf,Qw]at this
def Je(p:List Tm):Tm:=p.headD (0,[])
theorem ala{p:List Tm}(h:p≠[]):Je p∈p:=by cases p with
 |nil=>exact absurd rfl h
 |cons t p=>simp[Je]
def fT(c:Rat):Rat:=if c<0 then -c else c
theorem uB(c:Rat):0<=fT c:=by unfold fT;grind
theorem ahD(a b:Rat):fT (a+b)<=fT a+fT b:=by unfold fT;grind
theorem HI(a b:Rat):fT (a*b)=fT a*fT b:=by
 have pos:∀x:Rat,0<=x->fT x=x:=fun x h=>by unfold fT;grind
 have neg:∀x:Rat,x<=0->fT x= -x:=fun x h=>by unfold fT;grind
 rcases Decidable.em (0<=a)with ha|ha<;>rcases Decidable.em (0<=b)with hb|hb
 ·rw[pos _ (KcA ha hb),pos _ ha,pos _ hb]
 ·have h:=KcA ha (show 0<= -b by grind);rw[neg (a*b) (by grind),pos _ ha,neg b (by grind)];grind
 ·have h:=KcA (show 0<= -a by grind) hb;rw[neg (a*b) (by grind),neg a (by grind),pos _ hb];grind
 ·have h:=KcA (show 0<= -a by grind) (show 0<= -b by grind);rw[pos (a*b) (by grind),neg a (by grind),neg b (by grind)];grind
theorem Aq(z:Int):fT (z:Rat)=((z.natAbs:Nat):Rat):=by
 rw[<-Rat.intCast_natCast];unfold fT;split
 ·rename_i h;have h':z<0:=by have:=(Rat.intCast_lt_intCast (a:=z) (b:=0)).1 (by simpa using h);exact this
  rw[<-Rat.intCast_neg];congr 1;omega
 ·rename_i h;have h':¬z<0:=fun hz=>h (by have:=(Rat.intCast_lt_intCast (a:=z) (b:=0)).2 hz;simpa using this);congr 1;omega
def ky(m:List Int):Nat:=(eN m 3).toNat*729+(eN m 2).toNat*81+(eN m 1).toNat*9+(eN m 0).toNat
theorem atj{a b:List Int}(ha:a.length<=4)(hb:b.length<=4):cz a b=fE a b 4:=(Ak (by omega)).symm
theorem alb{a b:List Int}(ha:a.length<=4)(hb:b.length<=4)(h:cz a b<0):
  eN a 3<eN b 3∨(eN a 3=eN b 3/\(eN a 2<eN b 2∨(eN a 2=eN b 2/\(eN a 1<eN b 1∨(eN a 1=eN b 1/\eN a 0<eN b 0))))):=by
 rw[atj ha hb]at h;simp only[fE]at h;have z3:=Av (x:=eN a 3) (y:=eN b 3);have z2:=Av (x:=eN a 2) (y:=eN b 2);have z1:=Av (x:=eN a 1) (y:=eN b 1);have z0:=Av (x:=eN a 0) (y:=eN b 0);by_cases e3:eN a 3=eN b 3
 ·rw[if_pos e3]at h;refine .inr ⟨e3,?_⟩;by_cases e2:eN a 2=eN b 2
  ·rw[if_pos e2]at h;refine .inr ⟨e2,?_⟩;by_cases e1:eN a 1=eN b 1
   ·rw[if_pos e1]at h;refine .inr ⟨e1,?_⟩;by_cases e0:eN a 0=eN b 0
    ·rw[if_pos e0]at h;omega
    ·rw[if_neg e0]at h;exact z0.1 h
   ·rw[if_neg e1]at h;exact .inl (z1.1 h)
  ·rw[if_neg e2]at h;exact .inl (z2.1 h)
 ·rw[if_neg e3]at h;exact .inl (z3.1 h)
def nW(W:Rat):List Tm->Rat
 | []=>0
 |t::p=>fT t.1*W^ky t.2+nW W p
theorem Vo{W:Rat}(h:0<=W):∀n:Nat,0<=W^n
 |0=>by rw[Rat.pow_zero];decide
 |n+1=>by rw[Rat.pow_succ];exact KcA (Vo h n) h
theorem Vp{W:Rat}(h:1<=W):∀n:Nat,1<=W^n
 |0=>by rw[Rat.pow_zero];decide
 |n+1=>by rw[Rat.pow_succ];have h1:=Vp h n;have:=Kb9 h1 (show(0:Rat)<=W by grind);grind
theorem Uy{W:Rat}(h:0<=W)(c:Rat)(m:List Int):0<=fT c*W^ky m:=KcA (uB c) (Vo h _)
theorem Wv{W:Rat}(h:0<=W):∀p,0<=nW W p
 | []=>by simp only[nW];decide
 |t::p=>by have h1:=Uy h t.1 t.2;have h2:=Wv h p;simp only[nW];grind
def Pos(p:List Tm):Prop:=∀t∈p,∀i,0<=eN t.2 i
def kX(c:Rat):Prop:=∃z:Int,c=(z:Rat)
theorem kX.add{a b:Rat}:kX a->kX b->kX (a+b):=fun⟨x,hx⟩ ⟨y,hy⟩=>⟨x+y,by rw[hx,hy,Rat.intCast_add]⟩
theorem kX.mul{a b:Rat}:kX a->kX b->kX (a*b):=fun⟨x,hx⟩ ⟨y,hy⟩=>⟨x*y,by rw[hx,hy,Rat.intCast_mul]⟩
theorem kX.nat(n:Nat):kX (n:Rat):=⟨n,(KbB n).symm⟩
def IW(D F:Rat)(N:Nat)(p:List Tm):Prop:=∀t∈p,ky t.2<=N/\kX (t.1*(D*F^(N-ky t.2)))
theorem IW.cons{D F:Rat}{N:Nat}{t:Tm}{p:List Tm}:IW D F N (t::p)↔(ky t.2<=N/\kX (t.1*(D*F^(N-ky t.2))))/\IW D F N p:=by simp[IW]
def c4(m:List Int):Nat:=(((eN m 3).toNat*81+(eN m 2).toNat)*729+(eN m 1).toNat)*6561+(eN m 0).toNat
theorem apx{a b:List Int}(ha:∀i,0<=eN a i)(hb:∀i,0<=eN b i)(la:a.length<=4)(lb:b.length<=4)(pa:ky a<=6560)(pb:ky b<=6560)(h:cz a b<0):c4 a<c4 b:=by have a0:=ha 0;have a1:=ha 1;have a2:=ha 2;have a3:=ha 3;have b0:=hb 0;have b1:=hb 1;have b2:=hb 2;have b3:=hb 3;have:=alb la lb h;simp only[ky]at pa pb;simp only[c4,Zo,Zg,Zm,Zc,Zf,Zl,Zh,Zs,Zi,Zb,Zk,Zn,Zu,Zq,Zr,Zz];omega
theorem apy{a:List Int}(pa:ky a<=6560):c4 a<2^32:=by simp only[ky]at pa;simp only[c4,Zo,Zg,Zm,Zc,Zf,Zl,Zh,Zs,Zi,Zb,Zk,Zn,Zu,Zq,Zr,Zz];omega
structure Gj(D F W N0:Rat)(p:List Tm):Prop where
 i:IW D F 6560 p
 n:nW W p<=N0
 pos:Pos p
 ml:ML 4 p
 vT:bN p
theorem Q8r{p:List Tm}:(∀t∈p,ky t.2<=6560)->Pos p->ML 4 p->jQ p->p≠[]->p.length<=c4 (Je p).2+1:=by
 induction p with
 |nil=>intro _ _ _ _ h;exact absurd rfl h
 | cons t p ih=>
  intro hp hP hM hs _;cases p with
  |nil=>simp
  |cons s p=>have h1:=ih (fun x hx=>hp x (by simp[hx])) (fun x hx=>hP x (by simp[hx])) (fun x hx=>hM x (by simp[hx])) hs.2 (by simp);have h2:=hs.1 s (by simp);have h3:=Al t.2 s.2;have h4:=apx (hP s (by simp)) (hP t (by simp)) (hM s (by simp)) (hM t (by simp)) (hp s (by simp)) (hp t (by simp)) (by omega);simp only[Je,List.headD_cons,Kaz]at h1⊢;omega
theorem Gj.len{D F W N0:Rat}{p:List Tm}(h:Gj D F W N0 p):p.length<=2^32:=by
 by_cases h0:p=[]
 ·subst h0;simp
 ·have h1:=Q8r (fun t ht=>(h.i t ht).1) h.pos h.ml h.vT.s h0;have:=apy (h.i _ (ala h0)).1;omega
theorem Sn{W:Rat}(h:1<=W):∀ {p:List Tm} {t:Tm},t∈p->fT t.1<=nW W p
 | s::p,t,ht=>by
  have h0:(0:Rat)<=W:=by grind
  have h1:=Wv h0 p;have h2:=Uy h0 s.1 s.2;simp only[nW];rcases KaH.1 ht with rfl|ht
  ·have h3:=Kcz (Vp h (ky t.2)) (uB t.1);grind
  ·have:=Sn h ht;grind
theorem Gj.PB{d f w n0 L:Nat}{p:List Tm}(h:Gj d f w n0 p)(hd:0<d)(hf:0<f)(hw:0<w)(jk:0<n0)(hL:nl (n0*(d*f^6560))<L):PB L 6560 p:=by
 intro t ht;obtain⟨h1,z,hz⟩:=h.i t ht;have Of:(1:Rat)<=(w:Rat):=by rw[<-Rat.intCast_natCast,show(1:Rat)=((1:Int):Rat)from rfl,Kb5];omega
 have hN:fT t.1<=(n0:Rat):=by have:=Sn Of ht;have:=h.n;grind
 have hX:(d:Rat)*(f:Rat)^(6560-ky t.2)=((d*f^(6560-ky t.2):Nat):Rat):=by rw[KcT,Rat.natCast_pow]
 have auV:∀N k:Nat,k<=N->d*f^k<=d*f^N:=fun N k h=>Kbf _ (KbD hf h);have yR:=auV 6560 (6560-ky t.2) (Nat.sub_le _ _);have Er:0<d*f^(6560-ky t.2):=KcU hd (KbY hf);rw[hX]at hz;generalize d*f^(6560-ky t.2)=X at *
 generalize d*f^6560=Y at *
 have Nc:((X:Int):Rat)≠0:=by rw[Ne,Kcf];omega
 have e:t.1=(z:Rat)/((X:Int):Rat):=by rw[<-hz,KbB];rw[KbB]at Nc;grind
 have Oj:z.natAbs<=n0*Y:=by
  have h2:fT (z:Rat)=fT t.1*(X:Rat):=by rw[<-hz,HI];congr 1;rw[<-Rat.intCast_natCast,Aq,Kbu,KbB]
  rw[Aq]at h2;have h3:(0:Rat)<=(X:Rat):=by rw[<-Rat.intCast_natCast,show(0:Rat)=((0:Int):Rat)from rfl,Kb5];omega
  have h4:=Kb9 hN h3;rw[<-h2,<-Rat.natCast_mul,<-Rat.intCast_natCast,<-Rat.intCast_natCast,Kb5]at h4;have h5:=Kbf n0 yR;omega
 have hr:=Sm z (X:Int) (by omega);rw[<-e,Kbu]at hr;have g1:=gE Oj;have g2:nl X<=nl (n0*Y):=by exact gE (KaQ yR (Nat.le_mul_of_pos_left _ jk))
 have g3:1<=nl X:=by apply Decidable.byContradiction;intro hc;have:=Cx.1 (show nl X=0 by omega);omega
 refine⟨by omega,⟨by have:=h.ml t ht;omega,fun x hx=>?_,fun x hx=>?_⟩,h.vT.c t ht⟩
 all_goals
  obtain⟨i,hi,rfl⟩:=KaG hx;have hp:=h.pos t ht i;rw[nq hi]at hp
 ·exact hp
 ·have hl:=h.ml t ht;simp only[ky]at h1;rw[<-nq hi];rw[<-nq hi]at hp;have:i=0∨i=1∨i=2∨i=3:=by omega
  rcases this with rfl|rfl|rfl|rfl<;>omega
def tu(p:List Tm):Nat:=(p.map fun t=>t.1.den).foldr (· * ·) 1
def oA(p:List Tm):Nat:=(p.map fun t=>t.1.num.natAbs).foldr (· + ·) 0
theorem P7(p:List Tm):0<tu p:=by
 induction p with
 |nil=>simp[tu]
 |cons t p ih=>exact KcU (Kbb t.1.den_nz) ih
theorem LX:∀ {p:List Tm} {t:Tm},t∈p->t.1.den∣tu p
 |s::p,t,ht=>by
  rcases KaH.1 ht with rfl|ht
  ·exact Nat.dvd_mul_right _ _
  ·exact Nat.dvd_trans (LX ht) (Nat.dvd_mul_left _ _)
theorem alc{p:List Tm}{K E:Nat}(hp:FW.PB K E p):nl (tu p)<=p.length*K+1:=by
 induction p with
 |nil=>simp[tu,qz]
 |cons t p ih=>have h1:=ih (PB.cons.1 hp).2;have h2:=(PB.cons.1 hp).1.c;have h3:=mC t.1.den (tu p);unfold rs at h2;rw[Kaz,Nat.succ_mul];have e:tu (t::p)=t.1.den*tu p:=rfl;rw[e];omega
theorem ald{p:List Tm}{K E:Nat}(hp:FW.PB K E p):nl (oA p)<=p.length+K:=by
 induction p with
 |nil=>simp[oA,C7]
 |cons t p ih=>have h1:=ih (PB.cons.1 hp).2;have h2:=(PB.cons.1 hp).1.c;have h3:=Dy t.1.num.natAbs (oA p);unfold rs at h2;have e:oA (t::p)=t.1.num.natAbs+oA p:=rfl;rw[e,Kaz];omega
theorem QU{c:Rat}{L:Nat}(h:c.den∣L):kX (c*(L:Rat)):=by
 obtain⟨k,rfl⟩:=h;refine⟨c.num*(k:Int),?_⟩;have EE:=c.den_nz;have d1:c=(c.num:Rat)/((c.den:Int):Rat):=by
  conv=>lhs;rw[<-Rat.mkRat_self c]
  rw[Rat.mkRat_eq_div,KbB]
 have k1:((c.den:Int):Rat)≠0:=by rw[Ne,Kcf];omega
 rw[KcT,Rat.intCast_mul,KbB,<-Rat.intCast_natCast c.den];generalize((c.den:Int):Rat)=D at *
 generalize(c.num:Rat)=N at *
 rw[d1];grind
theorem ahE(c:Rat):fT c*(c.den:Rat)=((c.num.natAbs:Nat):Rat):=by
 have d1:c*(c.den:Rat)=(c.num:Rat):=by
  have e:c=(c.num:Rat)/((c.den:Int):Rat):=by
   conv=>lhs;rw[<-Rat.mkRat_self c]
   rw[Rat.mkRat_eq_div,KbB]
  have k1:((c.den:Int):Rat)≠0:=by rw[Ne,Kcf];have:=c.den_nz;omega
  rw[<-Rat.intCast_natCast];generalize((c.den:Int):Rat)=D at *
  generalize(c.num:Rat)=N at *
  rw[e];grind
 rw[<-Aq,<-d1,HI];congr 1;rw[<-Rat.intCast_natCast,Aq,Kbu,KbB]
theorem Q4v{a b:Nat}(h:a<=b):(a:Rat)<=(b:Rat):=by rw[<-Rat.intCast_natCast,<-Rat.intCast_natCast,Kb5];omega
theorem Q4w(c:Rat):fT c<=((c.num.natAbs:Nat):Rat):=by have h:=ahE c;have h1:(1:Rat)<=(c.den:Rat):=Q4v (a:=1) (Kbb c.den_nz);have:=Kcz h1 (uB c);grind
def n1:List Tm->Rat
 | []=>0
 |t::p=>fT t.1+n1 p
theorem Hl:∀p,0<=n1 p
 | []=>Rat.le_refl
 |t::p=>by have h1:=uB t.1;have h2:=Hl p;simp only[n1];grind
theorem QV(p q:List Tm):n1 (Qu p q)<=n1 p+n1 q:=by
 induction p,q using Qu.induct with
 |case1 q=>rw[wu];simp only[n1];grind
 |case2 p hp=>rw[nf];simp only[n1];grind
 |case3 c m p d l q h1 ih=>rw[Qu,if_pos h1];simp only[n1]at ih ⊢;grind
 |case4 c m p d l q h1 h2 ih=>rw[Qu,if_neg h1,if_pos h2];simp only[n1]at ih ⊢;grind
 |case5 c m p d l q h1 h2 h3 ih=>rw[Qu,if_neg h1,if_neg h2,if_pos h3];have g1:=uB c;have g2:=uB d;simp only[n1]at ih ⊢;grind
 |case6 c m p d l q h1 h2 h3 ih=>rw[Qu,if_neg h1,if_neg h2,if_neg h3];have g:=ahD c d;simp only[n1]at ih⊢;grind
theorem Ww(t:Tm):∀p:List Tm,n1 (cH p t)<=fT t.1*n1 p
 | []=>by simp only[cH,KcB,n1];grind
 |s::p=>by
  have ih:=Ww t p;have g:=HI s.1 t.1;have g2:=KcA (uB t.1) (uB s.1);unfold cH at ih⊢;rw[Kck];by_cases e:s.1*t.1=0
  ·rw[if_pos e];simp only[n1];grind
  ·rw[if_neg e];simp only[n1];grind
def sM:List (List Tm)->Rat
 | []=>0
 |p::l=>n1 p+sM l
theorem Vq:∀a b:List (List Tm),sM (a++b)=sM a+sM b
 | [],b=>by simp only[Kau,sM];grind
 |p::a,b=>by simp only[Kaw,sM];rw[Vq a b];grind
theorem QW(l:List (List Tm)):n1 (dA l)<=sM l:=by
 induction l using dA.induct with
 |case1=>rw[dA];exact Rat.le_refl
 |case2 p=>rw[dA];simp only[sM];grind
 |case3 p q r h1 h2=>rw[dA];have h3:=QV (dA ((p::q::r).take ((p::q::r).length/2))) (dA ((p::q::r).drop ((p::q::r).length/2)));have h4:=Vq ((p::q::r).take ((p::q::r).length/2)) ((p::q::r).drop ((p::q::r).length/2));rw[Kbk]at h4;rw[h4];grind
theorem Lk(q:List Tm):∀p:List Tm,sM (p.map (cH q))<=n1 p*n1 q
 | []=>by simp only[KbG,sM,n1];grind
 |t::p=>by have ih:=Lk q p;have h:=Ww t q;simp only[Kbn,sM,n1];grind
theorem ale(p q:List Tm):n1 (cB p q)<=n1 p*n1 q:=by
 unfold cB;split
 ·have h1:=QW (q.map (cH p));have h2:=Lk p q;unfold tt;grind
 ·have h1:=QW (p.map (cH q));have h2:=Lk q p;unfold tt;grind
def Dn(D:Nat)(p:List Tm):Prop:=∀t∈p,kX (t.1*(D:Rat))
theorem QX{D:Nat}(p q:List Tm):Dn D p->Dn D q->Dn D (Qu p q):=by
 induction p,q using Qu.induct with
 |case1 q=>intro _ h;rwa[wu]
 |case2 p hp=>intro h _;rwa[nf]
 |case3 c m p d l q h1 ih=>
  intro hp hq;rw[Qu,if_pos h1];intro t ht;rcases KaH.1 ht with rfl|ht
  ·exact hp _ (Kbt ..)
  ·exact ih (fun t ht=>hp t (KaZ _ ht)) hq t ht
 |case4 c m p d l q h1 h2 ih=>
  intro hp hq;rw[Qu,if_neg h1,if_pos h2];intro t ht;rcases KaH.1 ht with rfl|ht
  ·exact hq _ (Kbt ..)
  ·exact ih hp (fun t ht=>hq t (KaZ _ ht)) t ht
 |case5 c m p d l q h1 h2 h3 ih=>intro hp hq;rw[Qu,if_neg h1,if_neg h2,if_pos h3];exact ih (fun t ht=>hp t (KaZ _ ht)) fun t ht=>hq t (KaZ _ ht)
 | case6 c m p d l q h1 h2 h3 ih=>
  intro hp hq;rw[Qu,if_neg h1,if_neg h2,if_neg h3];intro t ht;rcases KaH.1 ht with rfl|ht
  ·have a:=hp (c,m) (Kbt ..);have b:=hq (d,l) (Kbt ..);show kX ((c+d)*(D:Rat));rw[Rat.add_mul];exact a.add b
  ·exact ih (fun t ht=>hp t (KaZ _ ht)) (fun t ht=>hq t (KaZ _ ht)) t ht
theorem RB{D:Nat}(l:List (List Tm)):(∀p∈l,Dn D p)->Dn D (dA l):=by
 induction l using dA.induct with
 |case1=>intro _;rw[dA];intro t ht;cases ht
 |case2 p=>intro h;rw[dA];exact h p (Kbt ..)
 |case3 p q r h1 h2=>intro h;rw[dA];exact QX _ _ (h1 fun x hx=>h x (Kbi hx)) (h2 fun x hx=>h x (KbP hx))
theorem Wx{D D':Nat}{t:Tm}(ht:kX (t.1*(D':Rat))){p:List Tm}(hp:Dn D p):Dn (D*D') (cH p t):=by
 intro x hx;simp only[cH,Kca]at hx;obtain⟨s,hs,e⟩:=hx;split at e
 ·cases e
 ·obtain rfl:(s.1*t.1,ek s.2 t.2)=x:=by simpa using e
  have:=(hp s hs).mul ht;show kX (s.1*t.1*((D*D':Nat):Rat));rw[KcT,show s.1*t.1*((D:Rat)*(D':Rat))=s.1*(D:Rat)*(t.1*(D':Rat))by grind];exact this
theorem alf{D D':Nat}{p q:List Tm}(hp:Dn D p)(hq:Dn D' q):Dn (D*D') (cB p q):=by
 unfold cB;split
 ·refine RB _ fun x hx=>?_;obtain⟨t,ht,rfl⟩:=KaA.1 hx;exact Wx (hq t ht) hp
 ·refine RB _ fun x hx=>?_;obtain⟨t,ht,rfl⟩:=KaA.1 hx;rw[Ka5];exact Wx (hp t ht) hq
theorem So:∀ {p:List Tm} {t:Tm},t∈p->fT t.1<=n1 p
 | s::p,t,ht=>by
  have h1:=Hl p;have h2:=uB s.1;simp only[n1];rcases KaH.1 ht with rfl|ht
  ·grind
  ·have:=So ht;grind
theorem ahF{D N:Nat}{p:List Tm}(hD:0<D)(hN:0<N)(hp:Dn D p)(hn:n1 p<=(N:Rat)){t:Tm}(ht:t∈p):rs t.1<=nl (N*D)+nl D+2:=by
 obtain⟨z,hz⟩:=hp t ht;have hT:=So ht;have hNt:fT t.1<=(N:Rat):=by grind
 have Nc:((D:Int):Rat)≠0:=by rw[Ne,Kcf];omega
 have e:t.1=(z:Rat)/((D:Int):Rat):=by rw[<-hz,KbB];rw[KbB]at Nc;grind
 have Oj:z.natAbs<=N*D:=by
  have h2:fT (z:Rat)=fT t.1*(D:Rat):=by rw[<-hz,HI];congr 1;rw[<-Rat.intCast_natCast,Aq,Kbu,KbB]
  rw[Aq]at h2;have h3:(0:Rat)<=(D:Rat):=by rw[<-Rat.intCast_natCast,show(0:Rat)=((0:Int):Rat)from rfl,Kb5];omega
  have h4:=Kb9 hNt h3;rw[<-h2,<-Rat.natCast_mul,<-Rat.intCast_natCast,<-Rat.intCast_natCast,Kb5]at h4;omega
 have hr:=Sm z (D:Int) (by omega);rw[<-e,Kbu]at hr;have g1:=gE Oj;omega
def XB(E:Nat)(p:List Tm):Prop:=∃K,PB K E p
theorem XB.zM{E:Nat}{p q:List Tm}:XB E p->XB E q->XB E (FW.Qu p q):=fun⟨_,h⟩ ⟨_,g⟩=>⟨_,HY p q h g⟩
theorem XB.aaW{E:Nat}(l:List (List Tm)):(∀p∈l,XB E p)->XB E (FW.dA l):=by
 induction l using FW.dA.induct with
 |case1=>intro _;rw[FW.dA];exact⟨0,PB.nil _ _⟩
 |case2 p=>intro h;rw[FW.dA];exact h p (Kbt ..)
 |case3 p q r h1 h2=>intro h;rw[FW.dA];exact XB.zM (h1 fun x hx=>h x (Kbi hx)) (h2 fun x hx=>h x (KbP hx))
theorem XB.B2{E F:Nat}{p q:List Tm}:XB E p->XB F q->XB (E+F) (FW.cB p q):=fun⟨K,h⟩ ⟨L,g⟩=>by
 unfold FW.cB;split
 ·refine XB.aaW _ fun x hx=>?_;obtain⟨t,ht,rfl⟩:=KaA.1 hx;exact⟨K+L,Ad h (g t ht)⟩
 ·refine XB.aaW _ fun x hx=>?_;obtain⟨t,ht,rfl⟩:=KaA.1 hx;rw[Kb2];exact⟨L+K,Ad g (h t ht)⟩
structure SZ(a b E:Nat)(p:List Tm):Prop where
 d:∃D N:Nat,0<D/\0<N/\nl D<=a/\nl N<=b/\Dn D p/\n1 p<=(N:Rat)
 x:XB E p
theorem SZ.mono{a b E a' b' E':Nat}{p:List Tm}(h:SZ a b E p)(ha:a<=a')(hb:b<=b')(hE:E<=E'):SZ a' b' E' p:=by obtain⟨⟨D,N,h1,h2,h3,h4,h5,h6⟩,K,hx⟩:=h;exact⟨⟨D,N,h1,h2,by omega,by omega,h5,h6⟩,K,hx.mono (Kae _) hE⟩
theorem Dn.dvd{D D':Nat}{p:List Tm}(h:Dn D p)(hd:D∣D'):Dn D' p:=fun t ht=>by obtain⟨k,rfl⟩:=hd;rw[KcT,<-Rat.mul_assoc];exact(h t ht).mul (kX.nat k)
theorem SZ.B2{a b E a' b' E':Nat}{p q:List Tm}(hp:SZ a b E p)(hq:SZ a' b' E' q):SZ (a+a') (b+b') (E+E') (FW.cB p q):=by
 obtain⟨⟨D,N,h1,h2,h3,h4,h5,h6⟩,hx⟩:=hp;obtain⟨⟨D',N',g1,g2,g3,g4,g5,g6⟩,gx⟩:=hq;have e1:=mC D D';have e2:=mC N N';refine⟨⟨D*D',N*N',KcU h1 g1,KcU h2 g2,by omega,by omega,alf h5 g5,?_⟩,hx.B2 gx⟩;have m1:=ale p q;have m2:=Kb9 h6 (Hl q);have n0:(0:Rat)<=(N:Rat):=by have:=Hl p;grind
 have m3:=Kcz g6 n0;rw[KcT];grind
theorem SZ.zM{a b E a' b':Nat}{p q:List Tm}(hp:SZ a b E p)(hq:SZ a' b' E q):SZ (a+a') (max b b'+1) E (FW.Qu p q):=by obtain⟨⟨D,N,h1,h2,h3,h4,h5,h6⟩,hx⟩:=hp;obtain⟨⟨D',N',g1,g2,g3,g4,g5,g6⟩,gx⟩:=hq;have e1:=mC D D';have e2:=Dy N N';refine⟨⟨D*D',N+N',KcU h1 g1,by omega,by omega,by omega,QX p q (h5.dvd (Nat.dvd_mul_right _ _)) (g5.dvd (Nat.dvd_mul_left _ _)),?_⟩,hx.zM gx⟩;have m1:=QV p q;rw[Rat.natCast_add];grind
theorem SZ.PB{a b E:Nat}{p:List Tm}(h:SZ a b E p):PB (a+b+a+3) E p:=fun t ht=>by obtain⟨⟨D,N,h1,h2,h3,h4,h5,h6⟩,K,hx⟩:=h;have hr:=ahF h1 h2 h5 h6 ht;have e:=mC N D;exact⟨by omega,(hx t ht).m,(hx t ht).l⟩
theorem Mp:∀p:List Tm,n1 p<=((oA p:Nat):Rat)
 | []=>Rat.le_refl
 |t::p=>by have h1:=Mp p;have h2:=Q4w t.1;have e:oA (t::p)=t.1.num.natAbs+oA p:=rfl;rw[e,Rat.natCast_add];simp only[n1];grind
theorem SZ.of{K E L:Nat}{p:List Tm}(h:FW.PB K E p)(hl:p.length<=L):SZ (L*K+1) (L+K+2) E p:=by
 have h1:=alc h;have h2:=ald h;have h3:=Dy (oA p) 1;have h4:nl 1<=1:=by rw[qz];exact Kae 1
 have h5:p.length*K<=L*K:=Kam _ hl;have h6:=gE (show oA p<=oA p+1 by omega);by_cases hz:nl (oA p)=0
 ·refine⟨⟨tu p,oA p+1,P7 p,by omega,by omega,by omega,fun t ht=>QU (LX ht),?_⟩,K,h⟩;have:=Mp p;rw[Rat.natCast_add];have:(0:Rat)<=((1:Nat):Rat):=by decide
  grind
 ·refine⟨⟨tu p,oA p,P7 p,Kbb fun e=>hz (Cx.2 e),by omega,by omega,fun t ht=>QU (LX ht),Mp p⟩,K,h⟩
def dK:Nat->Nat
 |0=>5
 |k+1=>10*dK k+62
def dE:Nat->Nat
 |0=>4
 |k+1=>3*dE k
def dL:Nat->Nat
 |0=>5
 |k+1=>10*dL k
theorem d5{k:Nat}(h:k<=5):dK k<=1188882/\dE k<=972/\dL k<=500000/\(k<5->dK k<=118882):=by
 have:k=0∨k=1∨k=2∨k=3∨k=4∨k=5:=by omega
 rcases this with rfl|rfl|rfl|rfl|rfl|rfl<;>decide
theorem bN.drop{p:List Tm}(h:bN p):∀k,bN (p.drop k)
 |0=>h
 |k+1=>by
  have:=bN.drop h k;rw[<-List.drop_drop];cases hd:p.drop k with
  |nil=>simpa using bN.nil
  |cons t l=>rw[hd]at this;simpa using this.tail
structure IA(p:List Tm):Prop where
 z:SZ 64 64 64 p
 l:p.length<=64
 n:bN p
structure O2(p:List Tm):Prop where
 z:SZ (2097152) (2097152) (16384) p
 l:p.length<=131072
 n:bN p
structure Mu(k:Nat)(p:List Tm):Prop where
 z:SZ (64*k) (64*k) (64*k) p
 l:p.length<=64
 n:bN p
theorem IA.w{p:List Tm}(h:IA p):Mu 1 p:=⟨h.z.mono (by omega) (by omega) (by omega),h.l,h.n⟩
theorem Mu.PB{k:Nat}{p:List Tm}(h:Mu k p)(hk:k<=512):PB 131072 32768 p:=h.z.PB.mono (by omega) (by omega)
theorem IA.PB{p:List Tm}(h:IA p):PB 256 64 p:=h.z.PB.mono (by omega) (by omega)
theorem O2.PB{p:List Tm}(h:O2 p):FW.PB (8388608) (16384) p:=h.z.PB.mono (by omega) (by omega)
structure Gk(m:Nat)(p:List Tm):Prop where
 z:SZ (m*64+1) (m*64+2) (m*64) p
 n:bN p
 l:p.length<=4000
theorem Gk.PB{m:Nat}{p:List Tm}(h:Gk m p)(hm:m<=2048):FW.PB (524288) (131072) p:=h.z.PB.mono (by omega) (by omega)
theorem SZ.one:SZ 1 1 0 (dz 1):=by
 have e:dz 1=[((1:Rat),[])]:=by unfold dz;rw[if_neg (by decide)]
 rw[e];refine⟨⟨1,1,by omega,by omega,by rw[qz];omega,by rw[qz];omega,fun t ht=>?_,?_⟩,3,fun t ht=>?_⟩
 ·obtain rfl:t=(1,[]):=by simpa using ht
  exact⟨1,by decide+kernel⟩
 ·simp only[n1];decide+kernel
 ·obtain rfl:t=(1,[]):=by simpa using ht
  refine⟨?_,⟨by simp,by simp,by simp⟩,by simp⟩;show rs 1+1<=3;have:=vh;omega
theorem Gk.one:Gk 0 (dz 1):=⟨SZ.one.mono (by omega) (by omega) (by omega),xT 1,by unfold dz;rw[if_neg (by decide)];simp⟩
end Go.FW
