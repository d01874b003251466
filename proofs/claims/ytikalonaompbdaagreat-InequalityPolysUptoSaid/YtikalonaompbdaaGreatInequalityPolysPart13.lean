/- Part 13 of the proof of InequalityPolys: W6, CA, A1, K19, IC2, K15, IC3, K16, K17, IC4, FwNK. Own lemmas; no conditions. -/
import Derived.Test.YtikalonaompbdaaGreatInequalityPolysPart12
set_option maxHeartbeats 1000000
set_option linter.all false
set_option maxRecDepth 100000
namespace Go.Proofs.YtikalonaompbdaaGreat
open Go.Proofs.Tryz
open Go Go.FW
variable{k:Nat}{x:Int}
def PD{y:Int}(hx:nl x.natAbs<2^38)(hy:nl y.natAbs<2^38)(h0:y≠0):AC 276 [PV.zz x,PV.zz y] (· = .aI [PV.rat ((x:Rat)/(y:Rat)),.int .i64 0]):=by
 have hv:=WX x y h0;have hr:=Lo (n:=decide (x<0) !=decide (y<0)) (a:=aw x.natAbs) (d:=aw y.natAbs) (Ql _) (Ql _) hx hy;rw[rv,Qx,hv]at hr;have hs:=Gm (n:=decide (y<0)) (a:=aw y.natAbs) (Ql _) (by show nl _<_;omega);rw[om]at hs;generalize(x:Rat)/(y:Rat)=Q at *
 refine aF Qd func276 alV λC hP=>?_;refine ay hP hs ?_;refine Sz0 ?_;refine Qm (λh=>absurd (MN.1 h) h0) (λ_=>?_);refine ay hP hr ?_;refine Sz0 ?_;refine nH ?_;refine Sz0 ?_;exact ek rfl rfl rfl (Qi _) (Qi _)
def ah4{n m:Bool}{a d b c:List Nat}(hp:Raw k n a d)(hq:Raw k m b c)(hk:k<2^34)(h0:rv m b c≠0):AC 182 [PV.rr n a d,PV.rr m b c] (· = .aI [PV.rat (rv n a d/rv m b c),.int .i64 0]):=by
 refine aF Qd func182 alW λC hP=>?_;refine Sz0 ?_;refine kG hP (tH hp.la hp.ld hp.k1 hp.sa hp.sd Oz) rfl rfl rfl ?_;rintro _ ⟨n',a',d',rfl,g1,g2,g3,g4,g5,g6⟩;refine Sz0 ?_;refine kG hP (tH hq.la hq.ld hq.k1 hq.sa hq.sd Oz) rfl rfl rfl ?_;rintro _ ⟨m',b',c',rfl,e1,e2,e3,e4,e5,e6⟩;refine Sz0 ?_;have OM:nl (zv n' a').natAbs<=k:=by rw[lh];exact KaK (cB g1) g3
 have ON:nl (zv m' b').natAbs<=k:=by rw[lh];exact KaK (cB e1) e3
 have OF:nl (val d')<=k:=KaK (cB g2) g4;have zU:nl (val c')<=k:=KaK (cB e2) e4;have h3:=mL (zv n' a') (val c');have h6:=mL (zv m' b') (val d');rw[KbH]at h3 h6;have aao:zv m' b'≠0:=λh=>h0 (by rw[<-e6,rv,h,Rat.zero_mkRat])
 have aS:zv m' b'*(val d':Int)≠0:=Int.mul_ne_zero aao Oz;have cX:=adK (n:=n') (a:=a') (m:=m') (b:=b') g5 e5 aao;rw[g6,e6]at cX;have wh:=ve (n:=n') (m:=false) g1 e2 Oz Oz;have pI:=ve (n:=m') (m:=false) e1 g2 Oz Oz;rw[wP]at wh pI;refine Qy hP (wH c') ?_;refine ay hP wh ?_;refine ay hP (wH d') ?_;refine ay hP pI ?_;generalize zv n' a'*(val c':Int)=X at *
 generalize zv m' b'*(val d':Int)=Y at *
 refine ay hP (PD (x:=X) (y:=Y) Oz Oz aS) ?_;rw[cX];generalize rv n a d/rv m b c=Q at *
 refine Sz0 ?_;refine nH ?_;refine Sz0 ?_;exact ek rfl rfl rfl (Qi _) (Qi _)
def Bl{a b:Rat}(ha:rs a<=k)(hb:rs b<=k)(hk:k<2^34)(h0:b≠0):AC 182 [PV.rat a,PV.rat b] (· = .aI [PV.rat (a/b),.int .i64 0]):=by
 have:=ah4 (jf ha) (jf hb) hk (by rw[gm];exact h0)
 rwa[gm,gm]at this
def ah5(hx:nl x.natAbs<2^40):AC 254 [PV.zz x] (· =PV.zz (-x)):=by
 have hs:=wI (n:= !decide (x<0)) (a:=aw x.natAbs) (Ql _) (by show nl _<_;omega);have e:zv (!decide (x<0)) (aw x.natAbs)= -x:=by rw[vp];by_cases h:x<0<;>simp[h]<;>omega
 rw[e]at hs;refine aF Qd func254 amy λC hP=>?_;refine ay hP hs ?_;refine Sz0 ?_;refine cx ?_;exact cf
def agb{x y:Int}(hx:nl x.natAbs<2^35)(hy:nl y.natAbs<2^35)(h0:y≠0):AC 139 [PV.zz x,PV.zz y] (· = .aI [PV.rat ((x:Rat)/(y:Rat)),.int .i64 0]):=by
 have h3:(y:Rat)≠0:=by rw[Ne,KbQ];exact h0
 have il:nl (-x).natAbs<2^35:=by rw[Int.natAbs_neg];exact hx
 have o1:=CD (z:=x) (D:=y.natAbs) (by omega) (by omega);have o2:=CD (z:= -x) (D:=y.natAbs) (by omega) (by omega);have e1:¬y<0->mkRat x y.natAbs=(x:Rat)/(y:Rat):=λh=>by rw[Kcy,<-Rat.intCast_natCast];congr 2;omega
 have e2:y<0->mkRat (-x) y.natAbs=(x:Rat)/(y:Rat):=λh=>by
  have e:(((y.natAbs:Nat):Int):Rat)= -(y:Rat):=by rw[<-Rat.intCast_neg];congr 1;omega
  rw[Kcy,<-Rat.intCast_natCast,e,Rat.intCast_neg];grind
 refine aF Qd func139 ane λC hP=>?_;refine Sz0 ?_;refine Qy hP (WN (by omega)) ?_;refine Sz0 ?_;refine Qm (λh=>absurd (MN.1 h) h0) (λ_=>?_);refine Sz0 ?_;refine Qm (λhn=>?_) (λhn=>?_)
 .rw[e2 hn]at o2;generalize(x:Rat)/(y:Rat)=Q at *
  refine Sz0 ?_;refine Qy hP (ah5 (x:=x) (by omega)) ?_;refine Sz0 ?_;refine Qy hP o2 ?_;refine Sz0 ?_;refine nH ?_;refine Sz0 ?_;exact ek rfl rfl rfl (Qi _) (Qi _)
 .rw[e1 hn]at o1;generalize(x:Rat)/(y:Rat)=Q at *
  refine Sz0 ?_;refine Qy hP o1 ?_;refine Sz0 ?_;refine nH ?_;refine Sz0 ?_;exact ek rfl rfl rfl (Qi _) (Qi _)
def Q61{y:Int}(hx: -9223372036854775808<=x/\x<=9223372036854775807)(hy: -9223372036854775808<=y/\y<=9223372036854775807)(h0:y≠0):AC 74 [.int .i64 x,.int .i64 y] (· =PV.rat ((x:Rat)/(y:Rat))):=by
 have n1:=qf (n:=x.natAbs) Oz;have n2:=qf (n:=y.natAbs) Oz;have hm:=agb (x:=x) (y:=y) Oz Oz h0;generalize(x:Rat)/(y:Rat)=Q at *
 refine aF Qd func74 arx λC hP=>?_;refine ay hP (LY hx.1 hx.2) ?_;refine ay hP (LY hy.1 hy.2) ?_;refine ay hP hm ?_;refine Sz0 ?_;refine cx ?_;exact cf
def at8:ax:=⟨35,[.t 2],Zr (jA 1 145 0<|Yl 2)<| .seq (Zr (Ya 3 0 1<|Zk 5 .lss 4 0<|Yx 6 5 0 1<|Zg 6 false (.bin 9 .gtr false (.t 8) (.c (Zz 40)))<|Yk 10 6 9<|Yx 11 10 1 1<|Zg 11 false (.bin 14 .lss false (.t 13) (.c (Zz 0)))<|Yk 15 11 14<|Yx 16 15 1 1<|Zg 16 false (.bin 19 .gtr false (.t 18) (.c (Zz 40)))<|Yk 20 16 19<|Yx 21 20 2 1<|Zg 21 false (.len 24 (.t 23))<|Zg 21 false (.dI 25 0 (.t 1))<|Zg 21 false (.ld 26 1 false (.t 25))<|Zg 21 false (.dI 27 1 (.t 1))<|Zg 21 false (.ld 28 1 false (.t 27))<|Zg 21 false (.bin 29 .mul false (.t 26) (.t 28))<|Zg 21 false (.bin 30 .neq false (.t 24) (.t 29))<|xy 31 21 30)<| .cond (.t 31) (Zr (Yl 2) .ret) .skip)<|Zr (Ya 32 2 1<|Yn 34 344 33<|Yc 2 34) .ret⟩
def aoF:Qc Tryz.prog f277=some at8:=by kernel_rfl
def auE:ax:=⟨15,[.t 2],Zr (Yl 2)<| .seq (Zr (dS 5 0)<| .block 0<| .loop<|Zr (Yu 8 7 6)<| .seq (.cond (.t 8) .skip (.exit 0))<| .seq (.block 1<|Zr (YG 9 3 5 7<|Ye 4<|Zs 3 4 10 .nil)<|Zr (iB 11 3 4 77<|Zu 13 12 .nil)<| .cond (.t 13) (Zr (Yl 2) .ret) .skip)<| .rg (YH 14 7 7))<|Zr (By 2) .ret⟩
def aoG:Qc Tryz.prog f344=some auE:=by kernel_rfl
def at9:ax:=⟨46,[.t 4],Zr (uu 2 145 0<|my 3 145 1<|Yl 4)<| .seq (Zr (dW 6 0 2 0 3<|Zb 10 .neq 7 9<|Yx 11 10 1 2<|Zg 11 false (.dI 14 1 (.t 3))<|Zg 11 false (.ld 15 1 false (.t 14))<|Zg 11 false (.bin 16 .neq false (.t 13) (.t 15))<|Yk 17 11 16<|Yx 18 17 2 2<|Zg 18 false (.len 21 (.t 20))<|Zg 18 false (.dI 22 2 (.t 3))<|Zg 18 false (.ld 23 1 false (.t 22))<|Zg 18 false (.len 24 (.t 23))<|Zg 18 false (.bin 25 .neq false (.t 21) (.t 24))<|xy 26 18 25)<| .cond (.t 26) (Zr (Yl 4) .ret) .skip)<| .seq (Zr (YT 27 2 2<|Yf 30 0)<| .block 0<| .loop<|Zr (Yu 31 30 29)<| .seq (.cond (.t 31) .skip (.exit 0))<| .seq (.block 1<|Zr (MZ 32 30 5)<|Zr (eF 33 2 2 5<|YG 36 3 34 35<|eF 38 2 3 5<|YG 41 3 39 40<|Yp 43 345 37 42<|Zu 44 43 .nil)<| .cond (.t 44) (Zr (Yl 4) .ret) .skip)<| .rg (YC 45 30 30))<|Zr (By 4) .ret⟩
def aoH:Qc Tryz.prog f279=some at9:=by kernel_rfl
def Xt:ax:=⟨18,[.t 2],Zr (YI 2)<|Zr (Zm 5 0<|BE 6 5<|Zm 3 6 .nil)<| .seq (Zr (dS 7 3)<| .block 0<| .loop<|Zr (Yu 10 9 8)<| .seq (.cond (.t 10) .skip (.exit 0))<| .seq (.block 1<|Zr (kO 11 9 4)<| .rg (Yh 12 3 4<|Zq 14 false 35 [.c (Zz 0)]<|Zi 15 3 12 13<|Zs 3 15 14 .nil))<| .rg (YH 16 9 9))<|Zr (MZ 17 3 2) .ret⟩
def Sp:Qc Tryz.prog f347=some Xt:=by kernel_rfl
def Xm:ax:=⟨38,[.t 2],Zr (jA 1 145 0<|YI 2)<|Zr (Ya 5 0 1<|Zo (.mk 7 1 24 35 .aa (.t 6) (.t 6))<| .wk<| .wk<|Zm 3 7 .nil)<| .seq (Zr (Ya 8 0 1<|Yf 10 0)<| .block 0<| .loop<|Zr (Yu 11 10 9)<| .seq (.cond (.t 11) .skip (.exit 0))<| .seq (.block 1<|Zr (kO 12 10 4)<|Zr (Yh 13 3 4<|Ya 15 1 1<|BE 17 16<| .wk<|Zi 18 1 13 14<|Zs 1 18 17 .nil)<| .rg (YW 19 3 4<|eF 23 2 1 4<|Ya 26 1 1<|Zb 28 .mul 25 27<|Zm 29 4<|Zk 30 .add 29 1<|Ya 31 1 1<|Zb 33 .mul 30 32<|Zo (.sl 34 3 (.t 24) (some (.t 28)) (some (.t 33)) none)<|Zo (.vT 35 3 (.t 22) (.t 34)) .nil))<| .rg (YC 36 10 10))<|Zr (MZ 37 3 2) .ret⟩
def aoI:Qc Tryz.prog f280=some Xm.strip:=by kernel_rfl
def M8:ax:=⟨30,[],Zr (dH 5 3 49 2 .nil)<| .seq (Zr (Zh 7 3 5<|Zq 8 false 19 [.t 7]<|BA 9 8 0)<| .cond (.t 9) .ret .skip)<|Zr (dS 10 0)<| .block 0<| .loop<|Zr (Yu 13 12 11)<| .seq (.cond (.t 13) .skip (.exit 0))<| .seq (.block 1<|Zr (kO 14 12 6)<| .rg (Yh 15 0 6<|Yh 17 0 6<|YG 19 3 17 18<|Zh 21 3 5<|Yh 22 1 6<|YG 24 3 22 23<|Ys 26 67 21 25<|Ys 27 65 20 26<|Zi 28 3 15 16<|Zs 3 28 27 .nil))<| .rg (YC 29 12 12)⟩
def Sr:Qc Tryz.prog f283=some M8.strip:=by kernel_rfl
def M9:ax:=⟨33,[.t 6],Zr (dH 5 3 49 2<|YI 6)<|Zr (Yv 9 0<|BE 11 10<|Zm 7 11 .nil)<| .seq (Zr (dS 12 0)<| .block 0<| .loop<|Zr (Yu 15 14 13)<| .seq (.cond (.t 15) .skip (.exit 0))<| .seq (.block 1<|Zr (kO 16 14 8)<| .rg (Yh 17 7 8<|Yh 19 0 8<|YG 21 3 19 20<|Zh 23 3 5<|Yh 24 1 8<|YG 26 3 24 25<|Ys 28 67 23 27<|Ys 29 64 22 28<|Zi 30 3 17 18<|Zs 3 30 29 .nil))<| .rg (YC 31 14 14))<|Zr (MZ 32 7 6) .ret⟩
def Ss:Qc Tryz.prog f346=some M9.strip:=by kernel_rfl
def Xn:ax:=⟨32,[.t 2],Zr (Yl 2)<| .seq (Zr (dS 5 0)<| .block 0<| .loop<|Zr (Yu 8 7 6)<| .seq (.cond (.t 8) .skip (.exit 0))<| .seq (.block 1<|Zr (kO 9 7 3)<|Zr (Zm 10 3<|Yf 11 0)<| .block 2<| .loop<|Zr (Yu 12 11 10)<| .seq (.cond (.t 12) .skip (.exit 2))<| .seq (.block 3<|Zr (kO 13 11 4)<|Zr (YW 14 0 3<|Zm 18 4<|YG 19 3 17 18<|YW 21 0 4<|Zm 25 3<|YG 26 3 24 25<|Yp 28 345 20 27<|Zu 29 28 .nil)<| .cond (.t 29) (Zr (Yl 2) .ret) .skip)<| .rg (YC 30 11 11))<| .rg (YC 31 7 7))<|Zr (By 2) .ret⟩
def aoJ:Qc Tryz.prog f281=some Xn.strip:=by kernel_rfl
def Xo:ax:=⟨102,[.t 2],Zr (YI 2)<|Zr (Zq 13 false 35 [.c (Zz 1)]<|Zo (.alloc 3 3 49 (.agg [.bool false,.aa,.aa]))<|Zs 3 3 13 .nil)<| .seq (Zr (dS 14 0)<| .block 0<| .loop<|Zr (Yu 17 16 15)<| .seq (.cond (.t 17) .skip (.exit 0))<| .seq (.block 1<|Zr (MZ 18 16 4)<|Zr (YW 19 0 4<|Zm 23 4<|YG 24 3 22 23<|Ye 5<|Zs 3 5 25 .nil)<|Zr (iB 26 3 5 19<|Zk 28 .neq 27 0 .nil)<| .cond (.t 28) (Zr (Zh 30 3 3<|Zh 31 3 5<|Bz 32 182 30 31 29<|Ye 6<|Zs 3 6 33<|Yc 7 34)<|Zr (Zh 35 3 5<|Yv 36 0<|YW 39 0 4<|Zh 43 3 6<|nQ 38 347 37<|Zq 44 true 346 [.t 38,.t 42,.t 43]<|YP 45 35 44<|Zo (.bs 46 4 275 [.t 45])<|Yc 2 46) .ret) .skip)<| .rg (YC 47 16 16))<| .seq (Zr (dS 48 0)<| .block 2<| .loop<|Zr (Yu 51 50 49)<| .seq (.cond (.t 51) .skip (.exit 2))<| .seq (.block 3<|Zr (MZ 52 50 8)<|Zr (YW 53 0 8<|Zn 57 56<|Yf 58 0)<| .block 4<| .loop<|Zr (Yu 59 58 57)<| .seq (.cond (.t 59) .skip (.exit 4))<| .seq (.block 5<|Zr (Zm 60 58<|YG 61 3 56 58<|Ye 10<|Zm 9 60<|Zs 3 10 62 .nil)<|Zr (iB 63 3 10 19<|Zk 65 .neq 64 0 .nil)<| .cond (.t 65) (Zr (Zh 67 3 3<|Zh 68 3 10<|Zh 69 3 10<| .br (Ys 70 64 68 69<| .br (Ys 71 182 67 70<|Zm 66 71<|Yd 72 66<|Ye 11<|Zs 3 11 72<|Yc 12 73) (Ye 11<|Ys 71 182 67 70<|Zm 66 71<|kA 72 66 3 11 12)) (Ye 11<|Ys 70 64 68 69<|Ys 71 182 67 70<|Zm 66 71<|kA 72 66 3 11 12))<|Zr (Zh 74 3 11<|YW 75 0 8<|YW 79 0 9<|Zh 83 3 3<|Zh 86 3 11<|YW 88 0 8<|YW 92 0 9<|Zq 84 true 346 [.t 78,.t 82,.t 83]<|YP 85 74 84<|nQ 87 301 86<|Zq 96 true 35 [.c (Zz (-1))]<|Zq 97 true 346 [.t 91,.t 95,.t 96]<|YP 98 87 97<|Zo (.bs 99 4 275 [.t 85,.t 98])<|Yc 2 99) .ret) .skip)<| .rg (YC 100 58 58))<| .rg (YC 101 50 50))<|Zr (YI 2) .ret⟩
def aoK:Qc Tryz.prog f282=some Xo.strip:=by kernel_rfl
def Xu:ax:=⟨137,[.cell 4 5 true],Zr (Zo (.alloc 4 5 313 (.agg [.aa,.aa,.bool false,.aa,.aa])) .nil)<|Zr (Zm 12 0<|Zq 13 false 35 [.c (Zz 1)]<|Zo (.cD 14 [.aa,.aa,.bool false,.aa,.aa] [(0,1,.t 12),(2,3,.t 13)])<|Zo (.alloc 5 5 313 (.agg [.aa,.aa,.bool false,.aa,.aa]))<| .wk<| .wk<|Zs 5 5 14 .nil)<| .seq (Zr (Zm 15 1<| .wk<|Yf 16 0)<| .block 0<| .loop<|Zr (Yu 17 16 15)<| .seq (.cond (.t 17) .skip (.exit 0))<| .seq (.block 1<|Zr (kO 18 16 6)<|Zr (YT 19 1 5<|Yc 7 21)<|Zr (MZ 22 7 8)<| .seq (.block 2<| .loop<| .seq (Zr (Yh 23 8 0<|Zn 25 24<|Zb 26 .lss 23 25<|YO 27 26 0<|Zg 27 true (.mv 29 (.t 8))<|Zg 27 true (.idx 30 1 (.t 28) (.t 29))<|Zg 27 true (.ld 31 1 false (.t 30))<|Zg 27 true (.mv 32 (.t 6))<|Zg 27 true (.idx 33 3 (.t 31) (.t 32))<|Zg 27 true (.ld 34 3 true (.t 33))<|Zg 27 true (.call (some 35) false (.c (.fn 19 [] [])) [.t 34])<|Zg 27 true (.bin 36 .eql false (.t 35) (.c (Zz 0)))<|Ym 37 27 36 .nil)<| .cond (.t 37) .skip (.exit 2))<| .block 3<| .rg (fO 38 8))<| .seq (Zr (Yh 40 8 0<|Zn 42 41<|Zb 43 .eql 40 42 .nil)<| .cond (.t 43) (.exit 1) .skip)<| .seq (Zr (Yh 44 8 7<|Zb 46 .neq 44 45 .nil)<| .cond (.t 46) (Zr (Yh 47 0 8<|Yh 49 0 7<|YW 51 0 7<|YW 55 0 8<|Zi 59 1 47 48<|Zs 1 59 54<|Zi 60 1 49 50<|Zs 1 60 58 .nil)<| .rg (cM 61 2 5 3<|Yn 63 301 62<|qw 64 2 5 3 63)) .skip)<|Zr (YW 65 0 7<|Zm 69 6<|YG 70 3 68 69<|Ye 9<|Zs 3 9 71 .nil)<|Zr (cM 72 2 5 3<|Zh 74 3 9<|Yp 75 67 73 74<|qw 76 2 5 3 75)<| .seq (Zr (YW 77 0 7<|Zn 81 80<|Yf 82 0)<| .block 4<| .loop<|Zr (Yu 83 82 81)<| .seq (.cond (.t 83) .skip (.exit 4))<| .seq (.block 5<|Zr (MZ 84 82 10)<| .rg (YW 86 0 7<|dq 90 10 0 7<|Yw 93 91 92<|Zm 95 10<|YG 96 3 94 95<|Zh 98 3 9<|Ys 99 182 97 98<|Zm 85 99<|Yd 100 85<|Zi 102 3 89 90<|Zs 3 102 100 .nil))<| .rg (YC 103 82 82))<| .seq (Zr (dS 104 0)<| .block 6<| .loop<|Zr (Yu 107 106 105)<| .seq (.cond (.t 107) .skip (.exit 6))<| .seq (.block 7<|Zr (MZ 108 106 11)<|Zr (Yh 109 11 7<|Zb 111 .neq 109 110 .nil)<| .cond (.t 111) (.rg (YW 112 0 11<|YW 116 0 7<|YW 120 0 11<|Zm 124 6<|YG 125 3 123 124<|mY 127 283 115 119 126 .nil)) .skip)<| .rg (YC 128 106 106))<| .rg (eF 129 1 5 6<|YA 132 1 3 131 8 130<|qw 134 1 5 1 133))<| .rg (YC 135 16 16))<|Zr (Zh 136 5 5<| .wk<|Zs 5 4 136 .nil) .ret⟩
def aoL:Qc Tryz.prog f348=some Xu.strip:=by kernel_rfl
variable{a:List Nat}{n:Bool}
def Ue(n:Bool)(a d:List Nat):rv (!n) a d= -rv n a d:=by
 have e:zv (!n) a= -zv n a:=by unfold zv;cases n<;>simp
 unfold rv;rw[e,Rat.neg_mkRat]
def Raw.not{d:List Nat}(h:Raw k n a d):Raw k (!n) a d:=⟨h.la,h.ld,h.sa,h.sd,h.k1⟩
def ah6{m:Bool}{d b c:List Nat}(hp:Raw k n a d)(hq:Raw k m b c)(hk:k<2^36):AC 65 [PV.rr n a d,PV.rr m b c] (· =PV.rat (rv n a d-rv m b c)):=by have h:=Mn hp hq.not hk;rw[Ue,<-Rat.sub_eq_add_neg]at h;refine aF Qd func65 aqQ λC hP=>?_;refine ay hP h ?_;refine Sz0 ?_;refine cx ?_;exact cf
def Bm{a b:Rat}(ha:rs a<=k)(hb:rs b<=k)(hk:k<2^36):AC 65 [PV.rat a,PV.rat b] (· =PV.rat (a-b)):=by
 have:=ah6 (jf ha) (jf hb) hk
 rwa[gm,gm]at this
def ah7{d:List Nat}(hp:Raw k n a d)(hk:k<2^36):AC 301 [PV.rr n a d] (· =PV.rat (-rv n a d)):=by refine aF Qd func301 alU λC hP=>?_;refine Sz0 ?_;refine kG hP (tH hp.la hp.ld hp.k1 hp.sa hp.sd Oz) rfl rfl rfl ?_;rintro _ ⟨n',a',d',rfl,g1,g2,g3,g4,g5,g6⟩;refine ay hP (Lo (n:= !n') g1 g2 Oz Oz) ?_;rw[Ue,g6];refine Sz0 ?_;refine cx ?_;exact cf
def K9{a:Rat}(ha:rs a<=k)(hk:k<2^36):AC 301 [PV.rat a] (· =PV.rat (-a)):=by
 have:=ah7 (jf ha) hk
 rwa[gm]at this
def qt(h1: -9223372036854775808<=x)(h2:x<=9223372036854775807):AC 35 [.int .i64 x] (· =PV.rat (x:Rat)):=vb h1 h2
variable{E T:Nat}
def RE{p:List Tm}{a:Rat}{K:Nat}(hp:PQ T K E p)(ha:rs a+1<=K)(hT:T<=2^36)(hK:K<=2^33)(hE:E<=2^38):AC 37 [PV.aC p,PV.rat a] (· =PV.aC (ee p a)):=
 Lu hp.b ha hK hE (by have:=hp.l;omega)
variable{bb i o:Nat}{cs:List Cd}{k:Int}{p:List Tm}{s:bR}{vs:List Vr}
abbrev O9(f:Nat)(bb:Nat)(args:List PV)(cs:List Cd)(vs:List Vr)(k:Int)(q:PV):Prop:=
 J9 Tryz.prog f bb args 120 cs.length vs.length k (te cs) (tf vs) q
def ah8{b:Nat}:(PV.jB b o).cells=[.jB b o]:=rfl
attribute [go_sem] ah8
def xb{n:Nat}{c:Cd}(hn:n<s.args.length)(hi:s.args[n]=(i:Int))(hic:i<cs.length)(hc:cs[i]=c):
  O9 142 bb [.int .i64 (n:Nat),.pt [.jB bb 0],.pt (PV.gK s).cells] cs vs k (PV.bj c):=by
 refine GP Qd func142 rfl aoz Nz λC hP hQ=>?_;simp only[Xb];refine cC ?_;refine Sz0 ?_;refine AX (Ba (s:=5) (γ:=1500000) Qw hQ (by decide) Qw) ?_;refine Sz2 hi hc ?_;exact ob (D:=PV.bj c) Qw rfl rfl
def RF{q:Rat}{K:Nat}(hp:PQ T K E p)(hq:rs q+1<=K)(hs:PV.rr s.n s.a s.d=PV.rat q)(hT:T<=2^36)(hK:K<=2^33)(hE:E<=2^38):AC 148 [PV.aC p,.pt (PV.gK s).cells] (· =PV.aC (ee p q)):=by have h:=RE hp hq hT hK hE;rw[<-hs]at h;refine aF Qd func148 aou λC hP=>?_;refine ay hP h ?_;exact cf
def RG{t:List Tm}{K:Nat}(hp:PQ T K E p)(ht:PQ T K E t)(hT:T<=2^15)(hK:T*(K+K)+(K+K)<=2^32)(hE:E<=2^37):AC 150 [PV.aC p,.pt [PV.aC t]] (· =PV.aC (dD p t)):=by have h:=KR hp ht hT hK hE;refine aF Qd func150 aov λC hP=>?_;refine ay hP h ?_;exact cf
set_option maxHeartbeats 2000000 in
def RH{i0 i1 ft:Nat}{a b r q:Cd}{l:List PV}(hn:1<s.args.length)(rU:s.args[0]=(i0:Int))(IU:s.args[1]=(i1:Int))(rP:i0<cs.length)(oF:i1<cs.length)(ea:cs[i0]=a)(eb:cs[i1]=b)
  (ha:CB a) (hb:CB b) (h1:AC ft [PV.aC (bX b.1 a.1),.pt l] (· =PV.aC r.1)) (h2:AC ft [PV.aC (bX b.2 a.2),.pt l] (· =PV.aC r.2))
  (h3:AC 40 [PV.aC a.1,PV.aC r.1] (· =PV.aC q.1)) (h4:AC 40 [PV.aC a.2,PV.aC r.2] (· =PV.aC q.2)):
  O9 143 bb [.fn ft [] [.pt l],.pt [.fn 142 [] [.pt [.jB bb 0],.pt (PV.gK s).cells]]] cs vs k (PV.bj q):=by
 have zf:=xb (cs:=cs) (vs:=vs) (k:=k) (bb:=bb) Oz rU rP ea;have DX:=xb (cs:=cs) (vs:=vs) (k:=k) (bb:=bb) hn IU oF eb;have dX:=L1 ha hb;have mC:=DP (c:=a);have jD:=Gw h3 h4;refine GP Qd func143 rfl (rh aow) Nz λC hP hQ=>?_;simp only[Xc];refine cC ?_;refine Sz0 ?_
 repeat' first
  |refine fU ?_ ?_
  |refine RU hP zf hQ Qw Qw Qw Qw rfl (by simp[eE]) (by simp) (by simp) ⟨⟨rfl,rfl⟩,λ_=>rfl⟩ ?_
  |refine RU hP DX hQ Qw Qw Qw Qw rfl (by simp[eE]) (by simp) (by simp) ⟨⟨rfl,rfl⟩,λ_=>rfl⟩ ?_
  |refine Qy hP dX ?_
  |refine Qy hP mC ?_
  |refine Qy hP h1 ?_
  |refine Qy hP h2 ?_
  |refine Qy hP jD ?_
  |simp+decide (disch:=try exact D0) only[go_sem]
 all_goals exact ob (D:=PV.bj q) Qw rfl rfl
variable{q:List Tm}{u:Nat}
abbrev Frm:=List Cd×List Vr×Nat
def bf(S:List bR):Nat->Frm
 |0=>([],[],0)
 | i+1=>((bf S i).1++[gp (S.getD i fY).k (rv (S.getD i fY).n (S.getD i fY).a (S.getD i fY).d) (dn (bf S i).1 (S.getD i fY).args) (bf S i).2.1.length (bf S i).2.2],
   (bf S i).2.1++ix (S.getD i fY).k (i:Nat) (bf S i).2.2,if(S.getD i fY).k=1 then(bf S i).2.2+1 else(bf S i).2.2)
def tU(S:List bR):∀i,(bf S i).1.length=i
 |0=>rfl
 |i+1=>by rw[bf,Kaz,tU S i];rfl
def Mq(k i:Int)(b:Nat):(ix k i b).length<=3:=by
 unfold ix mS
 repeat' split
 all_goals simp
def KK(S:List bR):∀i,(bf S i).2.1.length<=3*i/\(bf S i).2.2<=i
 |0=>⟨Kag _,Kag _⟩
 |i+1=>by obtain⟨h1,h2⟩:=KK S i;have h3:=Mq (S.getD i fY).k (i:Nat) (bf S i).2.2;rw[bf];refine⟨by simp only[Kaz];omega,?_⟩;simp only;split<;>omega
abbrev WQ(w:Nat)(c:Cd):Prop:=CQ w (16*w-8) w c
def L2(hq:cu q)(m:Rat):dD (mc m) q=ee q m:=
 AN (yH (LQ m).s hq.s) (ri hq.s m) λφ=>by
  rw[L5 (LQ m) hq,Hb,CC φ hq.c];have:∀(n:List Int),df (λk=>φ (eJ n k)) (mc m)=m*φ (eJ n []):=λn=>afT _ m
  rw[wN (ψ:=λn=>m*φ n) λs hs=>by rw[this,MO (hq.c s hs)],Mv]
def ajY(hp:cu p)(hq:cu q)(m:Rat):Qp p (dD (mc m) (bX q p))=Qp (ee p (1-m)) (ee q m):=by have h1:=Mx hq hp;rw[L2 h1];exact AN (yG hp (ri h1.s m)) (yG (ri hp.s _) (ri hq.s m)) λφ=>by rw[C3 hp.c (ri h1.s m).c,CC φ h1.c,Mw φ hq.c hp,C3 (ri hp.s _).c (ri hq.s m).c,CC φ hp.c,CC φ hq.c];grind
def St{v:Nat}{m:Rat}(hu:1<=u)(hv:1<=v)(hp:PQ u (16*u-8) u p)(hq:PQ v (16*v-8) v q)(hm:rs m<=2):PQ (u+v) (16*(u+v)-8) (u+v) (Qp p (dD (mc m) (bX q p))):=by
 rw[ajY hp.n hq.n];have h1:rs (1-m)+1<=5:=by have h:=o7 1 (-m);rw[DC,<-Rat.sub_eq_add_neg]at h;have:=ph;omega
 exact(((hp.mono (Kag _) (Kag _) (show u<=u+v by omega)).scale h1).add ((hq.mono (Kag _) (Kag _) (show v<=u+v by omega)).scale (show rs m+1<=3 by omega))).mono (Kag _) Oz (Kag _)
def Su{t:List Tm}{v:Nat}(hu:1<=u)(hv:1<=v)(hp:PQ u (16*u-8) u p)(hq:PQ v (16*v-8) v q)(hm:PQ 1 4 1 t):PQ (2*u+v) (16*(2*u+v)-8) (2*u+v) (Qp p (dD t (bX q p))):=by have hmul:=hm.mul ((hq.mono (Kag _) (Kag _) (show v<=u+v by omega)).sub (hp.mono (Kag _) (Kag _) (show u<=u+v by omega)));have ER:min 1 (v+u)*(4+(16*v-8+(16*u-8+2)))<=1*(4+(16*v-8+(16*u-8+2))):=Kap _ Oz;exact((hp.mono (Kag _) (Kag _) (show u<=2*u+v by omega)).add (hmul.mono (Kag _) (Kag _) (show 1+(u+v)<=2*u+v by omega))).mono Oz Oz (Kag _)
def HI{r:List Tm}{v x:Nat}(hu:1<=u)(hv:1<=v)(hx:1<=x)(hp:PQ u (16*u-8) u p)(hq:PQ v (16*v-8) v q)(hr:PQ x (16*x-8) x r){w:Nat}(hw:u+v+x=w):PQ w (16*w-8) w (gD p q r):=by subst hw;exact((hp.mono (Kag _) (Kag _) (show u<=u+v+x by omega)).add ((hq.mono (Kag _) (Kag _) (show v<=u+v+x by omega)).sub (hr.mono (Kag _) (Kag _) (show x<=u+v+x by omega)))).mono Oz Oz (Kag _)
variable{γ:Nat}
def adk:(∀(f:Nat)(a b:List PV),fj γ (.fn f a b)= .fn f a b)/\(∀(O i o:Nat),fj γ (.mp O i o)= .mp O i o)/\(∀(O i o:Nat),fj γ (.np O i o)= .np O i o):=⟨λ_ _ _=>rfl,λ_ _ _=>rfl,λ_ _ _=>rfl⟩
attribute [go_sem] adk
def ajZ(hp:cu p)(hq:cu q):vH (bX p q)=bX q p:=by
 have h:=Mx hp hq;have e:vH (bX p q)=ee (bX p q) (-1):=rfl;refine AN (by rw[e];exact ri h.s _) (Mx hq hp) λφ=>?_
 rw[Rf φ h.c,Mw φ hp.c hq,Mw φ hq.c hp];grind
set_option maxHeartbeats 8000000 in
def aoM{b:Nat}(aT:sD i s)(lz:cs.length=i)(hi:i<=1000)(hc:∀c∈cs,CB c)(hv:vs.length<60)(hb:b<1000)(hr:s.k=2->s.a.length<=2/\s.d.length<=2/\Raw 1048576 s.n s.a s.d):
  rL 76 [PV.gK s,.int .i64 (i:Nat)] cs vs (b:Nat) cs (vs++ix s.k (i:Nat) b) ((if s.k=1 then b+1 else b:Nat):Int) (PV.bj (gp s.k (rv s.n s.a s.d) (dn cs s.args) vs.length b)):=by
 have jU:s.args.length<=4:=by
  have:=aT.l;unfold eG at this
  repeat' split at this
  all_goals omega
 have hk:s.k=1\/s.k=2\/s.k=3\/s.k=4\/s.k=5\/s.k=6\/(7<=s.k/\s.k<=14):=by
  have:=aT.k;unfold eG at this
  repeat' split at this
  all_goals omega
 have hlen:=aT.l;have bW:∀n,n<s.args.length->∃(j:Nat)(c:Cd),(∀h:n<s.args.length,s.args[n]=(j:Int))/\j<cs.length/\(∀h:j<cs.length,cs[j]=c)/\CB c/\(dn cs s.args).getD n ([],[])=c:=λn hn=>by
  have hr:=aT.r _ (Kad hn);obtain⟨j,hj⟩:∃j:Nat,s.args[n]=(j:Int):=⟨s.args[n].toNat,Oz⟩
  have Zt:j<cs.length:=Oz;refine⟨j,cs[j],λ_=>hj,Zt,λ_=>rfl,hc _ (Kad _),?_⟩;rw[Kac,dn,Kaw,Kae hn,KbZ,Kbl,hj,Kbi,Kac,Kae Zt];rfl
 obtain⟨k,nm,args,n0,a0,d0⟩:=s;simp only at *
 rcases hk with rfl|rfl|rfl|rfl|rfl|rfl|⟨eU,qM⟩
 .have hp:=akn (cs:=cs) (vs:=vs) (s:=(i:Nat)) (b:=b) Oz hb;rw[show ix 1 (i:Nat) b=mS (i:Nat) b from rfl,show gp 1 (rv n0 a0 d0) (dn cs args) vs.length b=mT vs.length b from rfl,show(if(1:Int)=1 then b+1 else b)=b+1 from rfl];refine yA Qd func76 rfl yO Nz λC bb hP hQ=>?_;simp only[xA];refine cC ?_;refine Sz0 ?_;rw[yL (γ:=7) (β1:=3) (β2:=4) Qw Qw Qw (by decide) (by decide) (by decide) (by decide)];refine de ?_;refine AX (Ba (s:=17) (γ:=1000000) ba hQ (by decide) ba) ?_;refine de ?_;refine sE hP hp (.inl rfl) ba ba ba ba rfl rfl (by simp[eE]) (by simp) ⟨⟨rfl,rfl⟩,λ_=>rfl⟩ ?_;refine de ?_;exact ob (D:=PV.bj (mT vs.length b)) ba rfl ⟨rfl,by simp+decide (disch:=try exact E0) only[go_sem,ch,Kak,Kao,Kal,Kaq,Kai]<;>rfl,by simp+decide (disch:=try exact E0) only[go_sem,ch,Kak,Kao,Kal,Kaq,Kai]<;>rfl,by simp+decide (disch:=try exact E0) only[go_sem,ch,Kak,Kao,Kal,Kaq,Kai]<;>rfl,by simp+decide (disch:=try exact E0) only[go_sem,ch,Kak,Kao,Kal,Kaq,Kai]<;>rfl⟩
 .have td:args.length=2:=by have:eG 2=2:=(by decide);omega
  obtain⟨j0,c0,f0,l0,g0,b0,z0⟩:=bW 0 Oz;obtain⟨j1,c1,f1,l1,g1,b1,z1⟩:=bW 1 Oz;obtain⟨q1,q2,q3⟩:=hr rfl;have cU:rs (rv n0 a0 d0)+1<=2^18:=by have:=(show Raw 2 n0 a0 d0 from⟨q3.la,q3.ld,q1,q2,Oz⟩).rs;omega
  have hq:=yU q3.la q3.ld (by have:=aT.q;rwa[if_pos rfl]at this);have s1:=jh b1.x b0.x;have s2:=jh b1.y b0.y;have jU:=λbb=>RH (cs:=cs) (vs:=vs) (k:=(b:Nat)) (bb:=bb) (s:=⟨2,nm,args,n0,a0,d0⟩) (r:=(ee (bX c1.1 c0.1) (rv n0 a0 d0),ee (bX c1.2 c0.2) (rv n0 a0 d0))) (q:=(Qp c0.1 (ee (bX c1.1 c0.1) (rv n0 a0 d0)),Qp c0.2 (ee (bX c1.2 c0.2) (rv n0 a0 d0)))) (by show 1<args.length;omega) (f0 _) (f1 _) l0 l1 (g0 l0) (g1 l1) b0 b1
   (RF s1 Oz hq Oz Oz Oz) (RF s2 Oz hq Oz Oz Oz)
   (tV (T:=512) (K:=2^20) (E:=100) (b0.x.mono Oz Oz Oz) ((s1.scale cU).mono Oz Oz Oz) Oz Oz Oz)
   (tV (T:=512) (K:=2^20) (E:=100) (b0.y.mono Oz Oz Oz) ((s2.scale cU).mono Oz Oz Oz) Oz Oz Oz)
  have ec:gp 2 (rv n0 a0 d0) (dn cs args) vs.length b=(Qp c0.1 (ee (bX c1.1 c0.1) (rv n0 a0 d0)),Qp c0.2 (ee (bX c1.2 c0.2) (rv n0 a0 d0))):=by show sC ((dn cs args).getD 0 ([],[])) ((dn cs args).getD 1 ([],[])) (mc (rv n0 a0 d0))=_;rw[z0,z1,sC,L2 s1.n,L2 s2.n]
  rw[show ix 2 (i:Nat) b=[]from rfl,ec,Kai,show(if(2:Int)=1 then b+1 else b)=b from rfl];refine yA Qd func76 rfl yO Nz λC bb hP hQ=>?_;simp only[xA];refine cC ?_;refine Sz0 ?_;rw[yL (γ:=7) (β1:=3) (β2:=4) Qw Qw Qw (by decide) (by decide) (by decide) (by decide)];refine de ?_;refine H4 22 (f:=143) (O:=7) ba ba (by decide) ?_;refine de ?_;refine H4 23 (f:=148) (O:=4) ba ba (by decide) ?_;refine de ?_;refine wV hP (jU bb) hQ ba ba ba ba rfl (by simp[eE]) (by simp) (by simp) ⟨⟨rfl,rfl⟩,λ_=>rfl⟩ ?_;refine de ?_;exact ob (D:=PV.bj (Qp c0.1 (ee (bX c1.1 c0.1) (rv n0 a0 d0)),Qp c0.2 (ee (bX c1.2 c0.2) (rv n0 a0 d0)))) ba rfl ⟨rfl,by simp+decide (disch:=try exact E0) only[go_sem,ch,Kak,Kao,Kal,Kaq,Kai]<;>rfl,by simp+decide (disch:=try exact E0) only[go_sem,ch,Kak,Kao,Kal,Kaq,Kai]<;>rfl,by simp+decide (disch:=try exact E0) only[go_sem,ch,Kak,Kao,Kal,Kaq,Kai]<;>rfl,by simp+decide (disch:=try exact E0) only[go_sem,ch,Kak,Kao,Kal,Kaq,Kai]<;>rfl⟩
 .have ha3:args.length=3:=by have:eG 3=3:=(by decide);omega
  obtain⟨j0,c0,f0,l0,g0,b0,z0⟩:=bW 0 Oz;obtain⟨j1,c1,f1,l1,g1,b1,z1⟩:=bW 1 Oz;obtain⟨j2,c2,f2,l2,g2,b2,z2⟩:=bW 2 Oz;have s1:=jh b2.x b1.x;have s2:=jh b2.y b1.y;have zf:=λbb=>xb (cs:=cs) (vs:=vs) (k:=(b:Nat)) (bb:=bb) (s:=⟨3,nm,args,n0,a0,d0⟩) (n:=0) (by show 0<args.length;omega) (f0 _) l0 (g0 l0)
  have DX:=λbb=>xb (cs:=cs) (vs:=vs) (k:=(b:Nat)) (bb:=bb) (s:=⟨3,nm,args,n0,a0,d0⟩) (n:=1) (by show 1<args.length;omega) (f1 _) l1 (g1 l1)
  have M1:=λbb=>xb (cs:=cs) (vs:=vs) (k:=(b:Nat)) (bb:=bb) (s:=⟨3,nm,args,n0,a0,d0⟩) (n:=2) (by show 2<args.length;omega) (f2 _) l2 (g2 l2)
  have mC:=DP (c:=c0);have dX:=L1 b1 b2;have jD:=Gw (a:=c0) (b:=(bX c2.1 c1.1,bX c2.2 c1.2)) (r:=(gD c0.1 c2.1 c1.1,gD c0.2 c2.2 c1.2)) (tV (T:=512) (K:=2^20) (E:=100) (b0.x.mono Oz Oz Oz) (s1.mono Oz Oz Oz) Oz Oz Oz) (tV (T:=512) (K:=2^20) (E:=100) (b0.y.mono Oz Oz Oz) (s2.mono Oz Oz Oz) Oz Oz Oz);have ec:gp 3 (rv n0 a0 d0) (dn cs args) vs.length b=(gD c0.1 c2.1 c1.1,gD c0.2 c2.2 c1.2):=by show(gD ((dn cs args).getD 0 ([],[])).1 ((dn cs args).getD 2 ([],[])).1 ((dn cs args).getD 1 ([],[])).1,gD ((dn cs args).getD 0 ([],[])).2 ((dn cs args).getD 2 ([],[])).2 ((dn cs args).getD 1 ([],[])).2)=_;rw[z0,z1,z2]
  rw[show ix 3 (i:Nat) b=[]from rfl,ec,Kai,show(if(3:Int)=1 then b+1 else b)=b from rfl];refine yA Qd func76 rfl yO Nz λC bb hP hQ=>?_;simp only[xA];refine cC ?_;refine Sz0 ?_;rw[yL (γ:=7) (β1:=3) (β2:=4) Qw Qw Qw (by decide) (by decide) (by decide) (by decide)];refine de ?_
  repeat' first
   |refine fU ?_ ?_
   |refine Qy hP mC ?_
   |refine Qy hP dX ?_
   |refine Qy hP jD ?_
   |refine wV hP (zf bb) hQ ba ba ba ba rfl (by simp[eE]) (by simp) (by simp) ⟨⟨rfl,rfl⟩,λ_=>rfl⟩ ?_
   |refine wV hP (DX bb) hQ ba ba ba ba rfl (by simp[eE]) (by simp) (by simp) ⟨⟨rfl,rfl⟩,λ_=>rfl⟩ ?_
   |refine wV hP (M1 bb) hQ ba ba ba ba rfl (by simp[eE]) (by simp) (by simp) ⟨⟨rfl,rfl⟩,λ_=>rfl⟩ ?_
   |simp+decide (disch:=try exact E0) only[go_sem,ch,Kak,Kao,Kal,Kaq,Kai]
  all_goals
   exact ob (D:=PV.bj (gD c0.1 c2.1 c1.1,gD c0.2 c2.2 c1.2)) ba rfl ⟨rfl,by simp+decide (disch:=try exact E0) only[go_sem,ch,Kak,Kao,Kal,Kaq,Kai]<;>rfl,by simp+decide (disch:=try exact E0) only[go_sem,ch,Kak,Kao,Kal,Kaq,Kai]<;>rfl,by simp+decide (disch:=try exact E0) only[go_sem,ch,Kak,Kao,Kal,Kaq,Kai]<;>rfl,by simp+decide (disch:=try exact E0) only[go_sem,ch,Kak,Kao,Kal,Kaq,Kai]<;>rfl⟩
 .have ha3:args.length=3:=by have:eG 4=3:=(by decide);omega
  obtain⟨j0,c0,f0,l0,g0,b0,z0⟩:=bW 0 Oz;obtain⟨j1,c1,f1,l1,g1,b1,z1⟩:=bW 1 Oz;obtain⟨j2,c2,f2,l2,g2,b2,z2⟩:=bW 2 Oz;have s1:=jh b2.x b1.x;have s2:=jh b2.y b1.y;have s3:=jh b1.y b2.y;have zf:=λbb=>xb (cs:=cs) (vs:=vs) (k:=(b:Nat)) (bb:=bb) (s:=⟨4,nm,args,n0,a0,d0⟩) (n:=0) (by show 0<args.length;omega) (f0 _) l0 (g0 l0)
  have DX:=λbb=>xb (cs:=cs) (vs:=vs) (k:=(b:Nat)) (bb:=bb) (s:=⟨4,nm,args,n0,a0,d0⟩) (n:=1) (by show 1<args.length;omega) (f1 _) l1 (g1 l1)
  have M1:=λbb=>xb (cs:=cs) (vs:=vs) (k:=(b:Nat)) (bb:=bb) (s:=⟨4,nm,args,n0,a0,d0⟩) (n:=2) (by show 2<args.length;omega) (f2 _) l2 (g2 l2)
  have mC:=DP (c:=c0);have dX:=L1 b1 b2;have nX:=Wq s2.b Oz Oz Oz (by have:=s2.l;omega);rw[ajZ b2.y.n b1.y.n]at nX;have jD:=Gw (a:=c0) (b:=(bX c1.2 c2.2,bX c2.1 c1.1)) (r:=(gD c0.1 c1.2 c2.2,gD c0.2 c2.1 c1.1)) (tV (T:=512) (K:=2^20) (E:=100) (b0.x.mono Oz Oz Oz) (s3.mono Oz Oz Oz) Oz Oz Oz) (tV (T:=512) (K:=2^20) (E:=100) (b0.y.mono Oz Oz Oz) (s1.mono Oz Oz Oz) Oz Oz Oz);have ec:gp 4 (rv n0 a0 d0) (dn cs args) vs.length b=(gD c0.1 c1.2 c2.2,gD c0.2 c2.1 c1.1):=by show(gD ((dn cs args).getD 0 ([],[])).1 ((dn cs args).getD 1 ([],[])).2 ((dn cs args).getD 2 ([],[])).2,gD ((dn cs args).getD 0 ([],[])).2 ((dn cs args).getD 2 ([],[])).1 ((dn cs args).getD 1 ([],[])).1)=_;rw[z0,z1,z2]
  rw[show ix 4 (i:Nat) b=[]from rfl,ec,Kai,show(if(4:Int)=1 then b+1 else b)=b from rfl];refine yA Qd func76 rfl yO Nz λC bb hP hQ=>?_;simp only[xA];refine cC ?_;refine Sz0 ?_;rw[yL (γ:=7) (β1:=3) (β2:=4) Qw Qw Qw (by decide) (by decide) (by decide) (by decide)];refine de ?_
  repeat' first
   |refine fU ?_ ?_
   |refine Qy hP mC ?_
   |refine Qy hP dX ?_
   |refine Qy hP nX ?_
   |refine Qy hP jD ?_
   |refine wV hP (zf bb) hQ ba ba ba ba rfl (by simp[eE]) (by simp) (by simp) ⟨⟨rfl,rfl⟩,λ_=>rfl⟩ ?_
   |refine wV hP (DX bb) hQ ba ba ba ba rfl (by simp[eE]) (by simp) (by simp) ⟨⟨rfl,rfl⟩,λ_=>rfl⟩ ?_
   |refine wV hP (M1 bb) hQ ba ba ba ba rfl (by simp[eE]) (by simp) (by simp) ⟨⟨rfl,rfl⟩,λ_=>rfl⟩ ?_
   |simp+decide (disch:=try exact E0) only[go_sem,ch,Kak,Kao,Kal,Kaq,Kai]
  all_goals
   exact ob (D:=PV.bj (gD c0.1 c1.2 c2.2,gD c0.2 c2.1 c1.1)) ba rfl ⟨rfl,by simp+decide (disch:=try exact E0) only[go_sem,ch,Kak,Kao,Kal,Kaq,Kai]<;>rfl,by simp+decide (disch:=try exact E0) only[go_sem,ch,Kak,Kao,Kal,Kaq,Kai]<;>rfl,by simp+decide (disch:=try exact E0) only[go_sem,ch,Kak,Kao,Kal,Kaq,Kai]<;>rfl,by simp+decide (disch:=try exact E0) only[go_sem,ch,Kak,Kao,Kal,Kaq,Kai]<;>rfl⟩
 .have td:args.length=2:=by have:eG 5=2:=(by decide);omega
  obtain⟨j0,c0,f0,l0,g0,b0,z0⟩:=bW 0 Oz;obtain⟨j1,c1,f1,l1,g1,b1,z1⟩:=bW 1 Oz;have s1:=jh b1.x b0.x;have s2:=jh b1.y b0.y;have hV:PQ 512 (2^18+2) 100 (bJ vs.length):=PQ.var.mono Oz Oz Oz;have m1:=(s1.mul (PQ.var (v:=vs.length))).mono (T':=512) (K':=2^20) (E':=101) Oz Oz Oz;have m2:=(s2.mul (PQ.var (v:=vs.length))).mono (T':=512) (K':=2^20) (E':=101) Oz Oz Oz;have e1:(vs++[((1:Int),((i:Nat):Int),(0:Int))]).length=vs.length+1:=by simp
  have OH:=As (cs:=cs) (vs:=vs) (k:=1) (s:=(i:Nat)) (m:=0) (fr:=(b:Nat)) Oz;have jU:=λbb=>RH (cs:=cs) (vs:=vs++[(1,((i:Nat):Int),0)]) (k:=(b:Nat)) (bb:=bb) (s:=⟨5,nm,args,n0,a0,d0⟩) (r:=(dD (bX c1.1 c0.1) (bJ vs.length),dD (bX c1.2 c0.2) (bJ vs.length))) (q:=(Qp c0.1 (dD (bX c1.1 c0.1) (bJ vs.length)),Qp c0.2 (dD (bX c1.2 c0.2) (bJ vs.length)))) (by show 1<args.length;omega) (f0 _) (f1 _) l0 l1 (g0 l0) (g1 l1) b0 b1
   (RG s1 hV Oz Oz Oz) (RG s2 hV Oz Oz Oz)
   (tV (T:=512) (K:=2^20) (E:=101) (b0.x.mono Oz Oz Oz) m1 Oz Oz Oz)
   (tV (T:=512) (K:=2^20) (E:=101) (b0.y.mono Oz Oz Oz) m2 Oz Oz Oz)
  have ec:gp 5 (rv n0 a0 d0) (dn cs args) vs.length b=(Qp c0.1 (dD (bX c1.1 c0.1) (bJ vs.length)),Qp c0.2 (dD (bX c1.2 c0.2) (bJ vs.length))):=by show sC ((dn cs args).getD 0 ([],[])) ((dn cs args).getD 1 ([],[])) (bJ vs.length)=_;rw[z0,z1,sC,L5 hV.n s1.n,L5 hV.n s2.n]
  rw[show ix 5 (i:Nat) b=[(1,((i:Nat):Int),0)]from rfl,ec,show(if(5:Int)=1 then b+1 else b)=b from rfl];refine yA Qd func76 rfl yO Nz λC bb hP hQ=>?_;simp only[xA];refine cC ?_;refine Sz0 ?_;rw[yL (γ:=7) (β1:=3) (β2:=4) Qw Qw Qw (by decide) (by decide) (by decide) (by decide)];refine de ?_;refine AX (Ba (s:=55) (γ:=1000000) ba hQ (by decide) ba) ?_;refine de ?_;refine sE hP OH (.inl rfl) ba ba ba ba rfl rfl (by simp[eE]) (by simp) ⟨⟨rfl,rfl⟩,λ_=>rfl⟩ ?_;refine de ?_;refine H4 58 (f:=143) (O:=7) ba ba (by decide) ?_;refine de ?_;refine H4 59 (f:=150) (O:=10) ba ba (by decide) ?_;refine de ?_;refine wV hP (jU bb) hQ ba ba ba ba rfl (by simp[eE]) (by simp) (by simp) ⟨⟨rfl,rfl⟩,λ_=>rfl⟩ ?_;refine de ?_;exact ob (D:=PV.bj (Qp c0.1 (dD (bX c1.1 c0.1) (bJ vs.length)),Qp c0.2 (dD (bX c1.2 c0.2) (bJ vs.length)))) ba rfl ⟨rfl,by simp+decide (disch:=try exact E0) only[go_sem,ch,Kak,Kao,Kal,Kaq,Kai]<;>rfl,by simp+decide (disch:=try exact E0) only[go_sem,ch,Kak,Kao,Kal,Kaq,Kai]<;>rfl,by simp+decide (disch:=try exact E0) only[go_sem,ch,Kak,Kao,Kal,Kaq,Kai]<;>rfl,by simp+decide (disch:=try exact E0) only[go_sem,ch,Kak,Kao,Kal,Kaq,Kai]<;>rfl⟩
 .have e1:(vs++[((1:Int),((i:Nat):Int),(0:Int))]).length=vs.length+1:=by simp
  have e2:vs++[((1:Int),((i:Nat):Int),(0:Int))]++[((2:Int),((i:Nat):Int),(1:Int)),(2,((i:Nat):Int),1+1)]=vs++ix 6 (i:Nat) b:=by simp[ix]
  have OH:=As (cs:=cs) (vs:=vs) (k:=1) (s:=(i:Nat)) (m:=0) (fr:=(b:Nat)) Oz;have BO:=Vk (cs:=cs) (vs:=vs++[(1,((i:Nat):Int),0)]) (k:=(b:Nat)) (s:=(i:Nat)) (m:=1) (by rw[e1];omega) Oz;rw[e2,e1]at BO;rw[show gp 6 (rv n0 a0 d0) (dn cs args) vs.length b=(bJ (vs.length+1:Nat),bJ (vs.length+1+1:Nat))from rfl,show(if(6:Int)=1 then b+1 else b)=b from rfl];refine yA Qd func76 rfl yO Nz λC bb hP hQ=>?_;simp only[xA];refine cC ?_;refine Sz0 ?_;rw[yL (γ:=7) (β1:=3) (β2:=4) Qw Qw Qw (by decide) (by decide) (by decide) (by decide)];refine de ?_;refine AX (Ba (s:=63) (γ:=1000000) ba hQ (by decide) ba) ?_;refine de ?_;refine sE hP OH (.inl rfl) ba ba ba ba rfl rfl (by simp[eE]) (by simp) ⟨⟨rfl,rfl⟩,λ_=>rfl⟩ ?_;refine de ?_;refine AX (Ba (s:=66) (γ:=1000000) ba hQ (by decide) ba) ?_;refine de ?_;refine sE hP BO (.inl rfl) ba ba ba ba rfl rfl (by simp[eE]) (by simp) ⟨⟨rfl,rfl⟩,λ_=>rfl⟩ ?_;refine de ?_;exact ob (D:=PV.bj (bJ (vs.length+1:Nat),bJ (vs.length+1+1:Nat))) ba rfl ⟨rfl,by simp+decide (disch:=try exact E0) only[go_sem,ch,Kak,Kao,Kal,Kaq,Kai]<;>rfl,by simp+decide (disch:=try exact E0) only[go_sem,ch,Kak,Kao,Kal,Kaq,Kai]<;>rfl,by simp+decide (disch:=try exact E0) only[go_sem,ch,Kak,Kao,Kal,Kaq,Kai]<;>rfl,by simp+decide (disch:=try exact E0) only[go_sem,ch,Kak,Kao,Kal,Kaq,Kai]<;>rfl⟩
 .have BO:=Vk (cs:=cs) (vs:=vs) (k:=(b:Nat)) (s:=(i:Nat)) (m:=0) Oz Oz;have ev:ix k (i:Nat) b=[((2:Int),((i:Nat):Int),(0:Int)),(2,((i:Nat):Int),0+1)]:=by unfold ix;rw[if_neg Oz,if_neg Oz,if_neg Oz,if_neg Oz];rfl
  have ec:gp k (rv n0 a0 d0) (dn cs args) vs.length b=(bJ vs.length,bJ (vs.length+1:Nat)):=by unfold gp;rw[if_neg Oz,if_neg Oz,if_neg Oz,if_neg Oz,if_neg Oz,if_neg Oz]
  have dk:decide (k=1)=false/\decide (k=2)=false/\decide (k=3)=false/\decide (k=4)=false/\decide (k=5)=false/\decide (k=6)=false:=⟨decide_eq_false Oz,decide_eq_false Oz,decide_eq_false Oz,decide_eq_false Oz,decide_eq_false Oz,decide_eq_false Oz⟩
  rw[ev,ec,if_neg (show ¬k=1 by omega)];refine yA Qd func76 rfl yO Nz λC bb hP hQ=>?_;simp only[xA];refine cC ?_;refine Sz0 ?_;rw[yL (γ:=7) (β1:=3) (β2:=4) Qw Qw Qw (by decide) (by decide) (by decide) (by decide)];refine jQ dk ?_;refine AX (Ba (s:=69) (γ:=1000000) ba hQ (by decide) ba) ?_;refine de ?_;refine sE hP BO (.inl rfl) ba ba ba ba rfl rfl (by simp[eE]) (by simp) ⟨⟨rfl,rfl⟩,λ_=>rfl⟩ ?_;refine de ?_;exact ob (D:=PV.bj (bJ vs.length,bJ (vs.length+1:Nat))) ba rfl ⟨rfl,by simp+decide (disch:=try exact E0) only[go_sem,ch,Kak,Kao,Kal,Kaq,Kai]<;>rfl,by simp+decide (disch:=try exact E0) only[go_sem,ch,Kak,Kao,Kal,Kaq,Kai]<;>rfl,by simp+decide (disch:=try exact E0) only[go_sem,ch,Kak,Kao,Kal,Kaq,Kai]<;>rfl,by simp+decide (disch:=try exact E0) only[go_sem,ch,Kak,Kao,Kal,Kaq,Kai]<;>rfl⟩
variable{c:Cd}
abbrev PV.frame(cs:List Cd)(vs:List Vr):PV:=.agg [.sl 2 (cs.map PV.bj),.sl 3 (vs.map PV.fvar)]
def Sv{S:List bR}:∀ {n i:Nat} (h:i<n),(fh S n)[i]'(by rw[tJ];exact h)=kF (fh S i) (S.getD i fY).k (S.getD i fY).args
 | n+1,i,h=>by
  simp only[fh];by_cases e:i<n
  .rw[KbJ (by rw[tJ];exact e)];exact Sv e
  .obtain rfl:i=n:=by omega
   rw[Kcp (by rw[tJ];omega)];simp[tJ]
def AG{S:List bR}{n:Nat}(h:i<n):(fh S n).getD i 0=kF (fh S i) (S.getD i fY).k (S.getD i fY).args:=by rw[Kac,Kae (by rw[tJ];exact h)];exact Sv h
def WQ.one(hx:PQ 1 4 1 c.1)(hy:PQ 1 4 1 c.2):WQ 1 c:=⟨hx.mono Oz Oz Oz,hy.mono Oz Oz Oz⟩
def FK{w:Nat}(h:WQ w c)(hw:w<=8):CB c:=h.mono Oz Oz Oz
def Bb{S:List bR}{G:List bB}(hF:qj S G)(hb:∀s∈S,lX s):∀i,i<=S.length->∀n,n<i->∃w:Nat,1<=w/\w<=8/\(fh S i).getD n 0=(w:Int)/\WQ w ((bf S i).1.getD n ([],[]))
 |0,_,n,h=>by omega
 | i +1,hi,n,h=>by
  have ih:=Bb hF hb i Oz;have hl:=tU S i;have BR:i<S.length:=Oz;have hd:S.getD i fY=S[i]:=by rw[Kac,Kae BR];rfl
  have aT:=hF.f.s i BR;have fF:=hF.s _ (Kad BR);have uL:=(hb _ (Kad BR)).r;by_cases hn:n<i
  .obtain⟨w,h1,h2,h3,h4⟩:=ih n hn;refine⟨w,h1,h2,?_,?_⟩
   .rw[AG (show n<i+1 by omega),<-AG hn];exact h3
   .rw[bf];simp only;rw[Kac,Kbw Oz,<-List.getD_eq_getElem?_getD];exact h4
  obtain rfl:n=i:=by omega
  have Fc:(fh S (n+1)).getD n 0<=8:=by
   have e:(fh S (n+1)).getD n 0=(fh S S.length).getD n 0:=by rw[AG (Kce n),AG BR]
   rw[e,Kac,Kae (by rw[tJ];exact BR)];exact hF.t.w _ (Kad _)
  have hc:(bf S (n+1)).1.getD n ([],[])=gp S[n].k (rv S[n].n S[n].a S[n].d) (dn (bf S n).1 S[n].args) (bf S n).2.1.length (bf S n).2.2:=by rw[bf,hd];simp only;rw[Kac,Kbb Oz];simp[hl]
  rw[AG (Kce n),hd]at Fc;rw[AG (Kce n),hd,hc];have hlen:=aT.l;have bW:∀m,m<S[n].args.length->∃w:Nat,1<=w/\w<=8/\pk (fh S n) S[n].args m=(w:Int)/\WQ w ((dn (bf S n).1 S[n].args).getD m ([],[])):=λm hm=>by
   have hr:=aT.r _ (Kad hm);obtain⟨w,h1,h2,h3,h4⟩:=ih S[n].args[m].toNat Oz;refine⟨w,h1,h2,?_,?_⟩
   .unfold pk;rw[show S[n].args.getD m 0=S[n].args[m]by rw[Kac,Kae hm];rfl];exact h3
   .rw[show(dn (bf S n).1 S[n].args).getD m ([],[])=(bf S n).1.getD S[n].args[m].toNat ([],[])by rw[Kac,dn,Kaw,Kae hm];rfl];exact h4
  have hk:=aT.k;have hq:=aT.q;generalize S[n]=s at *
  generalize bf S n=F at *
  generalize dn F.1 s.args=L at *
  generalize fh S n=W at *
  have v1:∀m:Nat,PQ 1 4 1 (bJ m):=λm=>PQ.var
  have v0:PQ 1 4 1 []:=PQ.nil;by_cases k1:s.k=1
  .refine⟨1,Oz,Oz,by rw[k1];rfl,WQ.one ?_ ?_⟩
   all_goals
    rw[k1];simp only[gp,mT];rw[if_pos trivial]
    repeat' split
    all_goals first|exact v1 _|exact v0
  have EV:=(show Raw 2 s.n s.a s.d from⟨uL.la,uL.ld,fF.1,fF.2,Oz⟩).rs;by_cases k2:s.k=2
  .have jr:s.args.length=2:=by rw[k2]at hlen;have:eG 2=2:=(by decide);omega
   obtain⟨w0,a1,a2,a3,a4⟩:=bW 0 Oz;obtain⟨w1,b1,b2,b3,b4⟩:=bW 1 Oz;have e:kF W s.k s.args=((w0+w1:Nat):Int):=by rw[kF,if_pos k2,a3,b3];omega
   rw[e]at Fc⊢;refine⟨w0+w1,Oz,Oz,rfl,?_⟩;rw[gp,if_neg k1,if_pos k2];exact⟨St a1 b1 a4.x b4.x EV,St a1 b1 a4.y b4.y EV⟩
  by_cases k3:s.k=3\/s.k=4
  .have jr:s.args.length=3:=by
    rcases k3 with k3|k3
    .rw[k3]at hlen;have:eG 3=3:=by decide
     omega
    .rw[k3]at hlen;have:eG 4=3:=by decide
     omega
   obtain⟨w0,a1,a2,a3,a4⟩:=bW 0 Oz;obtain⟨w1,b1,b2,b3,b4⟩:=bW 1 Oz;obtain⟨w2,c1,c2,c3,c4⟩:=bW 2 Oz;have e:kF W s.k s.args=((w0+w1+w2:Nat):Int):=by rw[kF,if_neg k2,if_pos k3,a3,b3,c3];omega
   rw[e]at Fc⊢;refine⟨w0+w1+w2,Oz,Oz,rfl,?_⟩;rw[gp,if_neg k1,if_neg k2];by_cases q3:s.k=3
   .rw[if_pos q3];exact⟨HI a1 c1 b1 a4.x c4.x b4.x Oz,HI a1 c1 b1 a4.y c4.y b4.y Oz⟩
   .rw[if_neg q3,if_pos Oz];exact⟨HI a1 b1 c1 a4.x b4.y c4.y Oz,HI a1 c1 b1 a4.y c4.x b4.x Oz⟩
  by_cases k5:s.k=5
  .have jr:s.args.length=2:=by rw[k5]at hlen;have:eG 5=2:=(by decide);omega
   obtain⟨w0,a1,a2,a3,a4⟩:=bW 0 Oz;obtain⟨w1,b1,b2,b3,b4⟩:=bW 1 Oz;have e:kF W s.k s.args=((2*w0+w1:Nat):Int):=by rw[kF,if_neg k2,if_neg k3,if_pos k5,a3,b3];omega
   rw[e]at Fc⊢;refine⟨2*w0+w1,Oz,Oz,rfl,?_⟩;rw[gp,if_neg k1,if_neg k2,if_neg Oz,if_neg Oz,if_pos k5];exact⟨Su a1 b1 a4.x b4.x (v1 _),Su a1 b1 a4.y b4.y (v1 _)⟩
  .have e:kF W s.k s.args=((1:Nat):Int):=by rw[kF,if_neg k2,if_neg k3,if_neg k5];rfl
   rw[e]at Fc⊢;refine⟨1,Oz,Oz,rfl,?_⟩;rw[gp,if_neg k1,if_neg k2,if_neg Oz,if_neg Oz,if_neg k5];split
   .exact WQ.one (v1 _) (v1 _)
   .exact WQ.one (v1 _) (v1 _)
def UD{p q p' q':PV}{R:PV->Prop}(h:R (.aI [p',q']))(d1:p.aJ=true)(d2:q.aJ=true)(h1:PV.le p p')(h2:PV.le q q'):DL R p q:=by obtain⟨g1,r,g2,g3⟩:=ek (r:=.aI [p',q']) rfl d1 d2 h1 h2;subst g3;exact⟨g1,_,g2,h⟩
def ay0(hN:vg){S:List bR}{G:List bB}(hF:qj S G)(hS:S.length<2^40)(hG:G.length<2^40)(hb:∀s∈S,lX s)(hg:∀g∈G,iA g):
  AC 42 [PV.cn S G] (· = .aI [PV.frame (bf S S.length).1 (bf S S.length).2.1,.int .i64 0]):=by
 have hR:=Mo hN hS hG hb hg;have Ny:=hF.l;refine tM Qd func42 rfl ac7 Nz λC hP=>?_;simp only[Xx];refine cC ?_;refine Sz0 ?_;refine kG hP hR rfl rfl rfl ?_;rintro _ ⟨e,rfl,he2⟩;obtain rfl:e=0:=he2.2 hF.o;refine Sz0 ?_;refine bV (kv 5 2000020 Qw Oz rfl Oz) ?_;refine Sz0 ?_;refine bV (me (γ:=2000020) (e:=2) (ty:=76) (xs:=[.agg [.aa,.aa]]) (fz:=false) Tz0 (by simp) Oz (λx hx=>by rw[Kax.1 hx];rfl)) ?_;refine Sz0 ?_;refine bV (Dc (γ:=2000020) (e:=2) (ty:=76) (cs:=[.aa,.aa]) (cs':=[.aD 2000000 0 0,.aa]) 2000000 2 81 Tz0 Qw Oz Oz rfl (by simp)) ?_;refine Sz0 ?_;refine bV (JX (γ:=2000020) (e:=2) (ty:=76) (cs:=[.aD 2000000 0 0,.aa]) (cs':=[.aD 2000000 0 0,.aD 2000001 0 0]) 2000001 3 253 Tz0 Qw Oz Oz rfl (by simp)) ?_;refine Sz0 ?_;refine je eO [(3,3),(5,10),(20,62),(2000020,2000021)] [8,9,10,54,55] (λq J hp=>∃i,q=S.length-i/\i<=S.length/\J 5= .np 2000020 0 0/\J 6= .int .i64 ((bf S i).2.2:Nat)/\J 20= .int .i64 (i:Nat)/\J 2000020= .aH 2000020 2 76 [Iq i (bf S i).2.1.length]/\hp 2000020=some ⟨2,76,[],false⟩/\hp 2000021=none/\
   hp 2000000=some (te (bf S i).1)/\hp 2000001=some (tf (bf S i).2.1)/\hp 1=some ⟨2,25,[PV.cn S G],false⟩/\hp 2=some ⟨2,76,[.agg [.aa,.aa]],false⟩) S.length ?_ ?_
 .refine⟨0,rfl,Oz,?_⟩;refine Sz0 ?_;exact⟨rfl,rfl,rfl,rfl,rfl⟩
 rintro _ J h ⟨i,rfl,hi,j5,j6,kV,g5,k5,kn,k0,k1,kf,kr⟩;refine aZ kV (λhc=>?_) (λhc=>?_)
 .have au:i<S.length:=Oz;have hd:S.getD i fY=S[i]:=by rw[Kac,Kae au];rfl
  have ff:=tU S i;obtain⟨lE,pF⟩:=KK S i;have iG:∀c∈(bf S i).1,CB c:=λc hc=>by obtain⟨n,hn,rfl⟩:=KaH hc;obtain⟨w,_,w8,_,hw⟩:=Bb hF hb i hi n Oz;rw[Kac,Kae hn]at hw;exact FK hw w8
  have il:=acM (S:=S) (G:=G) (b:=(bf S i).2.2) (vs:=(bf S i).2.1) au Oz (hF.f.s i au) ff iG Oz Oz (λ_=>⟨(hF.s _ (Kad au)).1,(hF.s _ (Kad au)).2,(hb _ (Kad au)).r⟩);have zu:CB (gp S[i].k (rv S[i].n S[i].a S[i].d) (dn (bf S i).1 S[i].args) (bf S i).2.1.length (bf S i).2.2):=by obtain⟨w,_,w8,_,hw⟩:=Bb hF hb (i+1) Oz i Oz;rw[bf,hd,Kac]at hw;simp only at hw;rw[Kbb Oz,ff,Kbz]at hw;exact FK hw w8
  have jt:=Mq S[i].k (i:Nat) (bf S i).2.2;have mC:bf S (i+1)=((bf S i).1++[gp S[i].k (rv S[i].n S[i].a S[i].d) (dn (bf S i).1 S[i].args) (bf S i).2.1.length (bf S i).2.2],(bf S i).2.1++ix S[i].k (i:Nat) (bf S i).2.2,if S[i].k=1 then(bf S i).2.2+1 else(bf S i).2.2):=by rw[bf,hd]
  rw[sR,ff]at il;obtain⟨F,tc⟩:∃F,bf S i=F:=⟨_,rfl⟩
  rw[tc]at g5 k0 k1 j6 lE pF iG il zu jt mC ff;generalize gp S[i].k (rv S[i].n S[i].a S[i].d) (dn F.1 S[i].args) F.2.1.length F.2.2=c at *
  generalize ix S[i].k (i:Nat) F.2.2=nv at *
  generalize hx:S[i]=s at *
  refine Sz6 kV j5 j6 g5 kf hx ?_;refine bV (AF (γ:=2000020) (e:=2) (ty:=76) (cs:=[.aD 2000000 0 i,.aD 2000001 0 F.2.1.length]) (Tz1 g5)) ?_;refine Sz5 kV j5 j6 k5 kf ?_;refine sB hP il (Tz1 k0) (Tz1 k1) rfl rfl rfl (by simp) ?_;rw[DQ,DR (λx hx=>by rcases sA.1 hx with rfl|rfl<;>omega)];refine Sz2 j5 k5 ?_;refine bV (kv 9 2000021 (iQ kn) Oz rfl Oz) ?_;refine Sz1 kn ?_;refine bV (me (γ:=2000021) (e:=2) (ty:=76) (xs:=[.agg [.aa,.aa]]) (fz:=false) (Tz1 kn) (by simp) Oz (λx hx=>by rw[Kax.1 hx];rfl)) ?_;rw[aoC rfl Oz];have d1:decide (64<((F.2.1++nv).length:Int))=false:=decide_eq_false (by rw[Kaz];omega);have d2:decide (4000<(c.1.length:Int))=false:=decide_eq_false (by have:=zu.x.l;omega);have d3:decide (4000<(c.2.length:Int))=false:=decide_eq_false (by have:=zu.y.l;omega);refine Sz3 d1 d2 d3 ?_;refine bV (aoE 2000021) ?_;rw[aeQ Oz];generalize hJ:ep (one 2000021) _=J';have w5:J' 5= .np 2000020 0 0:=by rw[<-hJ];simp+decide (disch:=try exact D4 g5 j5 j6 kV) only[go_sem,g5,j5,j6,kV]<;>rfl
  have w6:J' 6= .int .i64 (F.2.2:Nat):=by rw[<-hJ];simp+decide (disch:=try exact D4 g5 j5 j6 kV) only[go_sem,g5,j5,j6,kV]<;>rfl
  have w8:J' 8= .mp 8 0 0:=by rw[<-hJ];simp+decide (disch:=try exact D4 g5 j5 j6 kV) only[go_sem,g5,j5,j6,kV]<;>rfl
  have w10:J' 10= .mp 10 0 0:=by rw[<-hJ];simp+decide (disch:=try exact D4 g5 j5 j6 kV) only[go_sem,g5,j5,j6,kV]<;>rfl
  have w20:J' 20= .int .i64 (i:Nat):=by rw[<-hJ];simp+decide (disch:=try exact D4 g5 j5 j6 kV) only[go_sem,g5,j5,j6,kV]<;>rfl
  have w50:J' 50= .aU [.aD 2000000 0 i,.aD 2000001 0 (F.2.1++nv).length]:=by rw[<-hJ];simp+decide (disch:=try exact D4 g5 j5 j6 kV) only[go_sem,g5,j5,j6,kV]<;>rfl
  have ayY:J' 2000020= .aH 2000020 2 76 [.aU [.undef,.undef]]:=by rw[<-hJ];simp+decide (disch:=try exact D4 g5 j5 j6 kV) only[go_sem,g5,j5,j6,kV]<;>rfl
  generalize hH:Ng (one 2000021) _=H';have v1:H' 1=some ⟨2,25,[PV.cn S G],false⟩:=by rw[<-hH];simp+decide (disch:=try exact D6 kf kr k5 k0 k1 kn) only[go_sem,kf,kr,k5,k0,k1,kn]<;>rfl
  have v2:H' 2=some ⟨2,76,[.agg [.aa,.aa]],false⟩:=by rw[<-hH];simp+decide (disch:=try exact D6 kf kr k5 k0 k1 kn) only[go_sem,kf,kr,k5,k0,k1,kn]<;>rfl
  have v8:H' 8=some ⟨6,68,[PV.gK s],false⟩:=by rw[<-hH];simp+decide (disch:=try exact D6 kf kr k5 k0 k1 kn) only[go_sem,kf,kr,k5,k0,k1,kn]<;>rfl
  have v10:H' 10=some ⟨2,81,[PV.bj c],false⟩:=by rw[<-hH];simp+decide (disch:=try exact D6 kf kr k5 k0 k1 kn) only[go_sem,kf,kr,k5,k0,k1,kn]<;>rfl
  have ayV:H' 2000000=some (te F.1):=by rw[<-hH];simp+decide (disch:=try exact D6 kf kr k5 k0 k1 kn) only[go_sem,kf,kr,k5,k0,k1,kn]<;>rfl
  have aaM:H' 2000001=some (tf (F.2.1++nv)):=by rw[<-hH];simp+decide (disch:=try exact D6 kf kr k5 k0 k1 kn) only[go_sem,kf,kr,k5,k0,k1,kn]<;>rfl
  have JT:H' 2000020=some ⟨2,76,[],false⟩:=by rw[<-hH];simp+decide (disch:=try exact D6 kf kr k5 k0 k1 kn) only[go_sem,kf,kr,k5,k0,k1,kn]<;>rfl
  have aaN:H' 2000021=none:=by rw[<-hH];simp+decide (disch:=try exact D6 kf kr k5 k0 k1 kn) only[go_sem,kf,kr,k5,k0,k1,kn]<;>rfl
  clear hJ hH;refine Sz6 w5 w50 ayY JT w10 v10 ?_;rw[wK (f:=PV.bj) (y:=c) (xs:=F.1) (ty':=81) (fz:=false) (iQ ayV) Qw Oz ff.symm Oz Oz Oz];refine Sz4 w5 JT w8 v8 ?_;refine Qm (λhk=>?_) (λhk=>?_)
  .refine Sz2 w6 w20 ?_;refine gO (S.length-(i+1)) Oz ⟨i+1,rfl,Oz,?_⟩;rw[mC,if_pos hk];exact Tz7 w5 w6 JT aaN aaM v1 v2
  .refine Sz2 w6 w20 ?_;refine gO (S.length-(i+1)) Oz ⟨i+1,rfl,Oz,?_⟩;rw[mC,if_neg hk];exact Tz7 w5 w6 JT aaN aaM v1 v2
 obtain rfl:i=S.length:=by omega
 refine Sz3 j5 g5 k5 ?_;have kS:=tU S S.length;obtain⟨F,tc⟩:∃F,bf S S.length=F:=⟨_,rfl⟩
 rw[tc]at k0 k1 kS⊢;refine HV 63 1 (p:=.aU [.ms 2000000 S.length,.ms 2000001 F.2.1.length]) (D:=PV.frame F.1 F.2.1) Qw ?_ (λl hl=>?_)
 .refine⟨λc hc=>?_,?_,?_⟩
  .simp only[KaA,KaR,or_false]at hc;rcases hc with rfl|rfl<;>rfl
  .simp[vJ,iE,k0,k1,te,tf,PV.frame];exact⟨Kaf (by simp[kS]),Kaf (by simp)⟩
  .simp[xp,nw]
 have z2:FW.Qu h l 2=some ⟨2,76,[.agg [.aa,.aa]],false⟩:=by rw[Gv hl Oz,kr]
 refine Sz1 z2 ?_;refine ss (nH ?_);refine Sz0 ?_;have hh:=Qi (.agg [.sl 2 (F.1.map PV.bj),.sl 3 (F.2.1.map PV.fvar)]);exact UD rfl rfl rfl hh (Qi _)
set_option maxHeartbeats 4000000 in
def La{S:List bR}{G:List bB}(hF:qj S G)(hb:∀s∈S,lX s)(hg:∀g∈G,iA g):
  AC 29 [PV.cn S G] (· = .aI [PV.frame (bf S S.length).1 (bf S S.length).2.1,.int .i64 0]):=by
 have hR:=akm hb hg hF.o;have Ny:=hF.l;refine tM Qd func29 rfl adF Nz λC hP=>?_;simp only[Xq];refine cC ?_;refine ay hP hR ?_;refine Sz0 ?_;refine bV (kv 16 2000010 Qw Oz rfl Oz) ?_;refine Sz0 ?_;refine bV (me (γ:=2000010) (e:=3) (ty:=120) (xs:=[.agg [.aa,.aa,.int .i64 0]]) (fz:=false) Tz0 (by simp) Oz (λx hx=>by rw[Kax.1 hx];rfl)) ?_;refine Sz0 ?_;refine bV (Dc (γ:=2000010) (e:=3) (ty:=120) (cs:=[.aa,.aa,.int .i64 0]) (cs':=[.aD 2000000 0 0,.aa,.int .i64 0]) 2000000 2 81 Tz0 Qw Oz Oz rfl (by simp)) ?_;refine Sz0 ?_;refine bV (JX (γ:=2000010) (e:=3) (ty:=120) (cs:=[.aD 2000000 0 0,.aa,.int .i64 0]) (cs':=[.aD 2000000 0 0,.aD 2000001 0 0,.int .i64 0]) 2000001 3 253 Tz0 Qw Oz Oz rfl (by simp)) ?_;refine Sz0 ?_;refine je eO [(3,3),(5,8),(20,65),(2000010,2000010)] [7,8,60,61] (λq J hp=>∃i,q=S.length-i/\i<=S.length/\J 5= .np 2000010 0 0/\J 20= .int .i64 (i:Nat)/\J 2000010=uv 2000010 120 i (bf S i).2.1.length ((bf S i).2.2:Nat)/\hp 2000010=some ⟨3,120,[],false⟩/\
   hp 2000000=some (te (bf S i).1)/\hp 2000001=some (tf (bf S i).2.1)/\hp 1=some ⟨2,25,[PV.cn S G],false⟩/\hp 2=some ⟨2,76,[.agg [.aa,.aa]],false⟩) S.length ?_ ?_
 .refine⟨0,rfl,Oz,?_⟩;refine Sz0 ?_;exact⟨rfl,rfl,rfl,rfl⟩
 rintro _ J h ⟨i,rfl,hi,j5,kV,g5,k5,k0,k1,kf,kr⟩;refine aZ kV (λhc=>?_) (λhc=>?_)
 .have au:i<S.length:=Oz;have hd:S.getD i fY=S[i]:=by rw[Kac,Kae au];rfl
  have ff:=tU S i;obtain⟨lE,pF⟩:=KK S i;have iG:∀c∈(bf S i).1,CB c:=λc hc=>by obtain⟨n,hn,rfl⟩:=KaH hc;obtain⟨w,_,w8,_,hw⟩:=Bb hF hb i hi n Oz;rw[Kac,Kae hn]at hw;exact FK hw w8
  have il:=aoM (vs:=(bf S i).2.1) (b:=(bf S i).2.2) (hF.f.s i au) ff Oz iG Oz Oz (λ_=>⟨(hF.s _ (Kad au)).1,(hF.s _ (Kad au)).2,(hb _ (Kad au)).r⟩);have zu:CB (gp S[i].k (rv S[i].n S[i].a S[i].d) (dn (bf S i).1 S[i].args) (bf S i).2.1.length (bf S i).2.2):=by obtain⟨w,_,w8,_,hw⟩:=Bb hF hb (i+1) Oz i Oz;rw[bf,hd,Kac]at hw;simp only at hw;rw[Kbb Oz,ff,Kbz]at hw;exact FK hw w8
  have jt:=Mq S[i].k (i:Nat) (bf S i).2.2;have mC:bf S (i+1)=((bf S i).1++[gp S[i].k (rv S[i].n S[i].a S[i].d) (dn (bf S i).1 S[i].args) (bf S i).2.1.length (bf S i).2.2],(bf S i).2.1++ix S[i].k (i:Nat) (bf S i).2.2,if S[i].k=1 then(bf S i).2.2+1 else(bf S i).2.2):=by rw[bf,hd]
  rw[rL,ff]at il;obtain⟨F,tc⟩:∃F,bf S i=F:=⟨_,rfl⟩
  rw[tc]at g5 k0 k1 lE pF iG il zu jt mC ff;generalize gp S[i].k (rv S[i].n S[i].a S[i].d) (dn F.1 S[i].args) F.2.1.length F.2.2=c at *
  generalize ix S[i].k (i:Nat) F.2.2=nv at *
  generalize(if S[i].k=1 then F.2.2+1 else F.2.2)=b' at *
  generalize hx:S[i]=s at *
  refine Sz5 kV j5 g5 kf hx ?_;refine sE hP il (.inr rfl) (iQ g5) (iQ k5) (iQ k0) (iQ k1) rfl rfl (by simp[eE]) (by simp) ⟨⟨rfl,rfl⟩,λ_=>rfl⟩ ?_;rw[GM,CL,DQ,DR (λx hx=>by rcases sA.1 hx with rfl|rfl<;>omega)];have d1:decide (64<((F.2.1++nv).length:Int))=false:=decide_eq_false (by rw[Kaz];omega);have d2:decide (4000<(c.1.length:Int))=false:=decide_eq_false (by have:=zu.x.l;omega);have d3:decide (4000<(c.2.length:Int))=false:=decide_eq_false (by have:=zu.y.l;omega);refine Sz5 j5 k5 d1 d2 d3 ?_;rw[wK (f:=PV.bj) (y:=c) (xs:=F.1) (ty':=81) (fz:=false) Qw Qw Oz ff.symm Oz Oz Oz];refine Sz3 j5 kV k5 ?_;refine gO (S.length-(i+1)) Oz ⟨i+1,rfl,Oz,?_⟩;rw[mC];refine Sz4 j5 k5 kf kr ?_;trivial
 obtain rfl:i=S.length:=by omega
 refine Sz3 j5 g5 k5 ?_;have kS:=tU S S.length;obtain⟨F,tc⟩:∃F,bf S S.length=F:=⟨_,rfl⟩
 rw[tc]at k0 k1 kS⊢;refine HV 69 1 (p:=.aU [.ms 2000000 S.length,.ms 2000001 F.2.1.length]) (D:=PV.frame F.1 F.2.1) Qw ?_ (λl hl=>?_)
 .refine⟨λc hc=>?_,?_,?_⟩
  .simp only[KaA,KaR,or_false]at hc;rcases hc with rfl|rfl<;>rfl
  .simp[vJ,iE,k0,k1,te,tf,PV.frame];exact⟨Kaf (by simp[kS]),Kaf (by simp)⟩
  .simp[xp,nw]
 have z2:FW.Qu h l 2=some ⟨2,76,[.agg [.aa,.aa]],false⟩:=by rw[Gv hl Oz,kr]
 refine Sz1 z2 ?_;refine ss (nH ?_);refine Sz0 ?_;have hh:=Qi (.agg [.sl 2 (F.1.map PV.bj),.sl 3 (F.2.1.map PV.fvar)]);exact UD rfl rfl rfl hh (Qi _)
end Go.Proofs.YtikalonaompbdaaGreat
namespace Go.FW
open Go
variable{i:Nat}{l:Array Bool}{ops:Array Oper}{sk:List It}
section
variable {C : Ctx} {fr : Fr} {hp : HP} {w : World} {a : Act} {R : Qf}
def si:List Bool->Nat
 | []=>0
 |true::l=>si l
 |false::l=>si l+1
def Sw:∀ {l:List Bool} {i:Nat},l[i]? =some false->si (l.set i true)+1=si l
 | [],i,h=>by simp at h
 |b::l,0,h=>by simp at h;subst h;simp[si]
 |b::l,i+1,h=>by simp at h;have:=Sw h;cases b<;>simp[si]<;>omega
def Sx:∀(n:Nat),si (List.replicate n false)=n
 |0=>rfl
 |n+1=>by simp[KbC,si,Sx n]
def RI:∀ {l:List Bool} {i:Nat},si l=0->l[i]? ≠some false
 | [],i,_=>by simp
 |true::l,0,_=>by simp
 |true::l,i+1,h=>by simpa using RI (l:=l) (i:=i) (by simpa[si]using h)
 |false::l,_,h=>by simp[si]at h
def VQ{md:Region.Mode}(h:i∈Region.ready .any ops l):l.toList[i]? =some false:=by
 obtain⟨h1,_⟩:=mem_ready.1 h;rcases KcF i l.size with h'|h'
 .simp[h']at h1 ⊢;exact h1
 .simp[KcA h']at h1
def ns(l:Array Bool):Nat->Bool:=λi=>l.getD i false
def aoN(h:l.getD i true=false):ns (l.setIfInBounds i true)=λk=>k==i||ns l k:=by
 funext k;unfold ns;have hi:i<l.size:=by
  rcases KcF i l.size with h'|h'
  .exact h'
  .simp[KcA h']at h
 by_cases hk:i=k
 .subst hk;simp[hi]
 .rw[getD_set_ne false hk];simp[Ne.symm hk]
def ah9(n:Nat):ns (Array.replicate n false)=λ_=>false:=by funext k;unfold ns;simp[Array.getD]
def aoO{Q:Exit->Act->World->Prop}(I:(Nat->Bool)->Qf)
  (oL:∀l i,ov ops l->i∈Region.ready .any ops l->∃o g,ops[i]? =some o/\nD C.P C.N true ops o=some g/\∀fr hp,I (ns l) fr hp->iy C g.g g.o fr hp (λfr hp=>∃aX aB,Wk fr hp aX aB/\I (λk=>k==i||ns l k) aX aB))
  (NW:∀l fr hp,Region.ready .any ops l=[]->l.size=ops.size->I (ns l) fr hp->∃aX aB,Wk fr hp aX aB/\vc C R sk aX aB)
  (hQ:∀aG hp' yn w',eT C aG hp' yn w'->vc C R sk aG hp'->Q .normal { tmps:=yn,defers:=[] } w'):
  ∀(n:Nat)(l:Array Bool)(fr:Fr)(hp:HP)(a:Act)(w:World),si l.toList=n->l.size=ops.size->ov ops l->a.defers=[]->eT C fr hp a.tmps w->I (ns l) fr hp->wpAny C.P .any ops (NoPanic Q) n l a w:=by
 intro n;have fin:∀(l:Array Bool)(fr:Fr)(hp:HP)(a:Act)(w:World),Region.ready .any ops l=[]->l.size=ops.size->a.defers=[]->eT C fr hp a.tmps w->I (ns l) fr hp->NoPanic Q .normal a w:=by intro l fr hp a w hr hz hd hs hI;obtain⟨tmps,defers⟩:=a;simp only at hd hs;subst hd;obtain⟨aX,aB,hw,hv⟩:=NW l fr hp hr hz hI;exact hQ aX aB tmps w (hw _ _ _ hs) hv
 induction n with
 | zero=>
  intro l fr hp a w hn hz NT hd hs hI;have hr:Region.ready .any ops l=[]:=by
   cases h:Region.ready .any ops l with
   |nil=>rfl
   |cons i is=>exact absurd (VQ (md:=.any) (by rw[h];exact Kcm)) (RI hn)
  exact⟨hr,fin l fr hp a w hr hz hd hs hI⟩
 |succ n ih=>intro l fr hp a w hn hz NT hd hs hI;refine⟨λhr=>fin l fr hp a w hr hz hd hs hI,λi hi=>?_⟩;obtain⟨o,g,ho,hg,hv⟩:=oL l i NT hi;obtain⟨ρ,nY⟩:=hs;refine wpOp_mono (λa' w' hA=>?_) (LL ho hd nY hg (hv fr hp hI));obtain⟨wa,⟨aG,hp',fS,aX,aB,hw,tu⟩,_⟩:=hA;have:=Sw (VQ (md:=.any) hi);exact ih _ aX aB a' w' (by rw[Array.toList_setIfInBounds];omega) (by simpa using hz) (NT.step hi) wa (hw _ _ _ fS) (by rw[aoN (mem_ready.1 hi).1];exact tu)
def Uf{id:Nat}(gs:List rf)(af:List (List Nat))(hm:C.P.follows .mixedOrders=true)
  (hg:ops.toList.map (nD C.P C.N true ops)=gs.map some) (ha:ops.toList.map (λo=>(o.after.toList.filter (Region.binds .any)).map (·.on))=af)
  (aA:∀i,i<af.length->∀k∈af.getD i [],k<i) (I:(Nat->Bool)->Qf) (h0:I (λ_=>false) fr hp)
  (oL:∀l i g,gs[i]? =some g->l i=false->(∀k∈af.getD i [],l k=true)->(∀j,l j=true->∀k∈af.getD j [],l k=true)->
   ∀fr hp,I l fr hp->iy C g.g g.o fr hp (λfr hp=>∃aX aB,Wk fr hp aX aB/\I (λk=>k==i||l k) aX aB))
  (NW:∀l fr hp,(∀i,i<gs.length->l i=true)->I l fr hp->∃aX aB,Wk fr hp aX aB/\vc C R sk aX aB):vc C R (.c (.raw id ops)::sk) fr hp:=by
 have avL:∀(i:Nat)(o:Oper),ops[i]? =some o->∃g,gs[i]? =some g/\nD C.P C.N true ops o=some g:=by
  intro i o ho;have h1:(ops.toList.map (nD C.P C.N true ops))[i]? =some (nD C.P C.N true ops o):=by simp[ho]
  rw[hg,Kaw]at h1;cases h2:gs[i]? with
  |none=>simp[h2]at h1
  |some g=>rw[h2]at h1;exact⟨g,rfl,(Kbn h1).symm⟩
 have M0:∀(i:Nat)(o:Oper),ops[i]? =some o->af.getD i []=(o.after.toList.filter (Region.binds .any)).map (·.on):=by intro i o ho;rw[<-ha];simp[ho]
 have opAt:∀i,i<gs.length->∃o,ops[i]? =some o:=by intro i hi;have h1:=congrArg List.length hg;simp only[KaC,Kcd]at h1;exact⟨ops[i]'Oz,by simp⟩
 have down:∀l,ov ops l->∀j,ns l j=true->∀k∈af.getD j [],ns l k=true:=by
  intro l hd j hj k hk;rcases KcF j ops.size with h'|h'
  .have ho:ops[j]? =some ops[j]:=by simp[h']
   rw[M0 j _ ho]at hk;obtain⟨e,he,rfl⟩:=KaD.1 hk;obtain⟨he,hb⟩:=KcY.1 he;exact hd j _ ho hj e (by simpa using he) hb
  .have:af.getD j []=[]:=by rw[<-ha];simp[KcA h']
   rw[this]at hk;cases hk
 rw[vc];intro tmps w Q hs hQ;refine wp_region_noPanic (wp_region_any hm (aoO I ?_ ?_ hQ _ _ fr hp _ _ ?_ (by simp) (ov.start ops) rfl hs.drew (by rw[ah9];exact h0)))
 .intro l i hd hi;obtain⟨h1,o,ho,h2⟩:=mem_ready.1 hi;obtain⟨g,hgi,aj⟩:=avL i o ho;refine⟨o,g,ho,aj,oL (ns l) i g hgi ?_ ?_ (down l hd)⟩
  .cases h:ns l i with
   |false=>rfl
   |true=>exact absurd h (Pq h1)
  .intro k hk;rw[M0 i o ho]at hk;obtain⟨e,he,rfl⟩:=KaD.1 hk;obtain⟨he,hb⟩:=KcY.1 he;exact h2 e (by simpa using he) hb
 .intro l fr hp hr hz hI;refine NW (ns l) fr hp ?_ hI;intro i;induction i using Nat.strongRecOn with
  | ind i ih=>
   intro hi;cases h:ns l i with
   |true=>rfl
   | false=>
    exfalso;obtain⟨o,ho⟩:=opAt i hi;have fF:i<ops.size:=(Kbp.1 ho).1;have:i∈Region.ready .any ops l:=by
     refine mem_ready.2 ⟨?_,o,ho,?_⟩
     .unfold ns at h;have iU:i<l.size:=Oz;simp[iU]at h⊢;exact h
     .intro e he hb;have hk:e.on∈af.getD i []:=by rw[M0 i o ho];exact KaD.2 ⟨e,KcY.2 ⟨by simpa using he,hb⟩,rfl⟩
      have iU:i<af.length:=by rw[<-ha];simpa using fF
      have zC:=aA i iU _ hk;exact ih e.on zC Oz
    rw[hr]at this;cases this
 .rw[Array.toList_replicate,Sx]
end
def wkx{C:Ctx}{R:Qf}{fr oB:Fr}{hp iI:HP}(h:Wk fr hp oB iI)(k:∃aX aB,Wk oB iI aX aB/\vc C R sk aX aB):∃aX aB,Wk fr hp aX aB/\vc C R sk aX aB:=
 k.elim λa k=>k.elim λb k=>⟨a,b,h.trans k.1,k.2⟩
def Sy{C:Ctx}{R:Qf}{fr:Fr}{hp:HP}(h:vc C R sk fr hp):∃aX aB,Wk fr hp aX aB/\vc C R sk aX aB:=⟨_,_,Wk.refl _ _,h⟩
def aof{fr aG:Fr}{hp hp':HP}(hh:∀O,hp' O=hp O\/hp' O=none)(hf:∀s,aG s= .undef\/(aG s=bF id (fr s)/\∀O∈(fr s).refs++(fr s).aO,hp' O=hp O)):Wk fr hp aG hp':=by
 rintro C tmps w ⟨ρ,hs⟩;have hk:∀O hb,hp' O=some hb->hp O=some hb:=λO hb h=>by
  rcases hh O with e|e
  .rw[<-e];exact h
  .rw[e]at h;cases h
 have hX:∀b,aM C ρ hp' b->aM C ρ hp b:=by
  rintro b (hx|⟨γ,hg,g1,g2,g3⟩)
  .exact .inl hx
  .exact .inr ⟨γ,hg,hk _ _ g1,g2,g3⟩
 refine⟨ρ,hs.sz,hs.ext,hs.fG,λγ hb ak=>?_,λγ δ b g1 g2 g3 g4=>?_,λi=>?_⟩
 .obtain⟨q1,q2,q3,q4,q5⟩:=hs.own γ hb (hk _ _ ak);refine⟨q1,q2,?_,q4,q5⟩;cases hq:ρ γ with
  |none=>rw[hq]at q3;exact q3
  |some b=>rw[hq]at q3;exact⟨q3.1,q3.2.1,q3.2.2.move rfl rfl rfl rfl λq u hq=>Qn.sub hq hX⟩
 .obtain⟨x1,k1⟩:=Kbq.1 g1;obtain⟨x2,k2⟩:=Kbq.1 g2;exact hs.inj γ δ b (by rw[hk _ _ k1];simp) (by rw[hk _ _ k2];simp) g3 g4
 .rcases hf i with e|⟨e,hr⟩
  .rw[e];trivial
  .rw[e];exact(hs.cQ i).iY hX λO ao=>⟨rfl,(λhb hq=>⟨hb,by show hp' O=_;rw[hr O ao];exact hq,rfl,rfl,rfl⟩),id⟩
def yP(id:Nat):Code->Option (Array Oper)
 |.region i ops _=>if i=id then some ops else none
 |.seq a b=>(yP id a).or (yP id b)
 |.cond _ a b=>(yP id a).or (yP id b)
 |.block _ a=>yP id a
 |.loop a=>yP id a
 |_=>none
def UE(f:Func)(id:Nat):Array Oper:=((f.body.bind (yP id)).getD #[])
end Go.FW
