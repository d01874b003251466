/- Part 6 of the proof of MatrixSolves: W6, CA, A1, A2, FwNH. Own lemmas; no conditions. -/
import Derived.Test.YtkoclfmjlolkhaaGreatMatrixSolvesPart5
set_option linter.unusedSimpArgs false
set_option linter.unusedVariables false
set_option linter.unnecessarySimpa false
set_option maxRecDepth 100000
namespace Go.Proofs.YtkoclfmjlolkhaaGreat
open Go Go.FW
theorem Q3r{x y:Int}(hx:nl x.natAbs<2^38)(hy:nl y.natAbs<2^38)(h0:y≠0):Qd Tryz.prog 187 [PV.zz x,PV.zz y] (· = .tup [PV.rat ((x:Rat)/(y:Rat)),.int .i64 0]):=by
 have hv:=Qrg x y h0
 have hr:=Qjv (n:=decide (x<0) !=decide (y<0)) (a:=dig x.natAbs) (d:=dig y.natAbs) (Ql _) (Ql _) hx hy
 rw[rv,Q5,hv]at hr
 have hs:=Qh5 (n:=decide (y<0)) (a:=dig y.natAbs) (Ql _) (by show nl _<_;omega)
 rw[Qe9]at hs
 generalize(x:Rat)/(y:Rat)=Q at *
 refine Qi Qt Tryz.func187 rfl Qabo (by simp[Q7d]) fun C hP=> ?_;simp only[Q7d,Zo,Zg,Zm,Zc,Zf,Zl,Zh,Zs,Zi,Zb,Zk,Zn,Zu,Zq,Zr,Zz]
 simp+decide (disch:=try exact D0) only[go_sem]
 refine Qa hP hs rfl rfl rfl ?_
 simp+decide (disch:=try exact D0) only[go_sem]
 refine Qb (fun h=>absurd (Qp1.1 h) h0) (fun _=> ?_)
 simp+decide (disch:=try exact D0) only[go_sem]
 refine Qa hP hr rfl rfl rfl ?_
 simp+decide (disch:=try exact D0) only[go_sem]
 refine Qb1 ?_
 simp+decide (disch:=try exact D0) only[go_sem]
 exact Qb2 rfl rfl rfl (Qy _) (Qy _)
theorem Q3s{n m:Bool}{a d b c:List Nat}{k:Nat}(hp:Raw k n a d)(hq:Raw k m b c)(hk:k<2^34)(h0:rv m b c≠0):Qd Tryz.prog 123 [PV.rr n a d,PV.rr m b c] (· = .tup [PV.rat (rv n a d/rv m b c),.int .i64 0]):=by
 refine Qi Qt Tryz.func123 rfl Qabp (by simp[Q7e]) fun C hP=> ?_;simp only[Q7e,Zo,Zg,Zm,Zc,Zf,Zl,Zh,Zs,Zi,Zb,Zk,Zn,Zu,Zq,Zr,Zz]
 simp+decide (disch:=try exact D0) only[go_sem]
 refine Qcs hP (Qdp hp.la hp.ld hp.k1 hp.sa hp.sd (by omega)) rfl rfl rfl ?_
 rintro _ ⟨n',a',d',rfl,g1,g2,g3,g4,g5,g6⟩
 simp+decide (disch:=try exact D0) only[go_sem]
 refine Qcs hP (Qdp hq.la hq.ld hq.k1 hq.sa hq.sd (by omega)) rfl rfl rfl ?_
 rintro _ ⟨m',b',c',rfl,e1,e2,e3,e4,e5,e6⟩
 simp+decide (disch:=try exact D0) only[go_sem]
 have hza:nl (zv n' a').natAbs<=k:=by rw[Qbe];exact Nat.le_trans (Qam g1) g3
 have hzb:nl (zv m' b').natAbs<=k:=by rw[Qbe];exact Nat.le_trans (Qam e1) e3
 have hvd:nl (val d')<=k:=Nat.le_trans (Qam g2) g4
 have hvc:nl (val c')<=k:=Nat.le_trans (Qam e2) e4
 have h3:=Qar (zv n' a') (val c')
 have h6:=Qar (zv m' b') (val d')
 rw[Int.natAbs_natCast]at h3 h6
 have hzb0:zv m' b'≠0:=fun h=>h0 (by rw[<-e6,rv,h,Rat.zero_mkRat])
 have hne:zv m' b'*(val d':Int)≠0:=Int.mul_ne_zero hzb0 (by omega)
 have hfin:=Qaf0 (n:=n') (a:=a') (m:=m') (b:=b') g5 e5 hzb0
 rw[g6,e6]at hfin
 have hm1:=Qd1 (n:=n') (m:=false) g1 e2 (by omega) (by omega)
 have hm2:=Qd1 (n:=m') (m:=false) e1 g2 (by omega) (by omega)
 rw[Qf1]at hm1 hm2
 refine Qa hP (Qej c') rfl rfl rfl ?_
 simp+decide (disch:=try exact D0) only[go_sem]
 refine Qa hP hm1 rfl rfl rfl ?_
 simp+decide (disch:=try exact D0) only[go_sem]
 refine Qa hP (Qej d') rfl rfl rfl ?_
 simp+decide (disch:=try exact D0) only[go_sem]
 refine Qa hP hm2 rfl rfl rfl ?_
 generalize zv n' a'*(val c':Int)=X at *
 generalize zv m' b'*(val d':Int)=Y at *
 simp+decide (disch:=try exact D0) only[go_sem]
 refine Qa hP (Q3r (x:=X) (y:=Y) (by omega) (by omega) hne) rfl rfl rfl ?_
 rw[hfin]
 generalize rv n a d/rv m b c=Q at *
 simp+decide (disch:=try exact D0) only[go_sem]
 refine Qb1 ?_
 simp+decide (disch:=try exact D0) only[go_sem]
 exact Qb2 rfl rfl rfl (Qy _) (Qy _)
theorem Q0d{a b:Rat}{k:Nat}(ha:rs a<=k)(hb:rs b<=k)(hk:k<2^34)(h0:b≠0):Qd Tryz.prog 123 [PV.rat a,PV.rat b] (· = .tup [PV.rat (a/b),.int .i64 0]):=by
 have:=Q3s (Qcn ha) (Qcn hb) hk (by rw[Qc6];exact h0)
 rwa[Qc6,Qc6]at this
theorem Qto{x:Int}(hx:nl x.natAbs<2^40):Qd Tryz.prog 130 [PV.zz x] (· =PV.zz (-x)):=by
 have hs:=Qel (n:= !decide (x<0)) (a:=dig x.natAbs) (Ql _) (by show nl _<_;omega)
 have e:zv (!decide (x<0)) (dig x.natAbs)= -x:=by
  rw[Qhf];by_cases h:x<0<;>simp[h]<;>omega
 rw[e]at hs
 refine Qi Qt Tryz.func130 rfl Qacr (by simp[Q8f]) fun C hP=> ?_;simp only[Q8f,Zo,Zg,Zm,Zc,Zf,Zl,Zh,Zs,Zi,Zb,Zk,Zn,Zu,Zq,Zr,Zz]
 simp+decide (disch:=try exact D0) only[go_sem]
 refine Qa hP hs rfl rfl rfl ?_
 simp+decide (disch:=try exact D0) only[go_sem]
 refine Qa1 ?_
 simp+decide (disch:=try exact D0) only[go_sem]
 exact Qc rfl rfl
theorem Qrh{x y:Int}(hx:nl x.natAbs<2^35)(hy:nl y.natAbs<2^35)(h0:y≠0):Qd Tryz.prog 121 [PV.zz x,PV.zz y] (· = .tup [PV.rat ((x:Rat)/(y:Rat)),.int .i64 0]):=by
 have h3:(y:Rat)≠0:=by rw[Ne,Rat.intCast_eq_zero_iff];exact h0
 have hnx:nl (-x).natAbs<2^35:=by rw[Int.natAbs_neg];exact hx
 have o1:=Qgd (z:=x) (D:=y.natAbs) (by omega) (by omega)
 have o2:=Qgd (z:= -x) (D:=y.natAbs) (by omega) (by omega)
 have e1:¬y<0->mkRat x y.natAbs=(x:Rat)/(y:Rat):=fun h=>by
  rw[Rat.mkRat_eq_div,<-Rat.intCast_natCast]
  congr 2;omega
 have e2:y<0->mkRat (-x) y.natAbs=(x:Rat)/(y:Rat):=fun h=>by
  have e:(((y.natAbs:Nat):Int):Rat)= -(y:Rat):=by rw[<-Rat.intCast_neg];congr 1;omega
  rw[Rat.mkRat_eq_div,<-Rat.intCast_natCast,e,Rat.intCast_neg]
  grind
 refine Qi Qt Tryz.func121 rfl Qacv (by simp[Q8j]) fun C hP=> ?_;simp only[Q8j,Zo,Zg,Zm,Zc,Zf,Zl,Zh,Zs,Zi,Zb,Zk,Zn,Zu,Zq,Zr,Zz]
 simp+decide (disch:=try exact D0) only[go_sem]
 refine Qa hP (Qrf (by omega)) rfl rfl rfl ?_
 simp+decide (disch:=try exact D0) only[go_sem]
 refine Qb (fun h=>absurd (Qp1.1 h) h0) (fun _=> ?_)
 simp+decide (disch:=try exact D0) only[go_sem]
 refine Qb (fun hn=> ?_) (fun hn=> ?_)
 ·rw[e2 hn]at o2
  generalize(x:Rat)/(y:Rat)=Q at *
  simp+decide (disch:=try exact D0) only[go_sem]
  refine Qa hP (Qto (x:=x) (by omega)) rfl rfl rfl ?_
  simp+decide (disch:=try exact D0) only[go_sem]
  refine Qa hP o2 rfl rfl rfl ?_
  simp+decide (disch:=try exact D0) only[go_sem]
  refine Qb1 ?_
  simp+decide (disch:=try exact D0) only[go_sem]
  exact Qb2 rfl rfl rfl (Qy _) (Qy _)
 ·rw[e1 hn]at o1
  generalize(x:Rat)/(y:Rat)=Q at *
  simp+decide (disch:=try exact D0) only[go_sem]
  refine Qa hP o1 rfl rfl rfl ?_
  simp+decide (disch:=try exact D0) only[go_sem]
  refine Qb1 ?_
  simp+decide (disch:=try exact D0) only[go_sem]
  exact Qb2 rfl rfl rfl (Qy _) (Qy _)
theorem Q0e{n m:Bool}{a d b c:List Nat}{k:Nat}(hp:Raw k n a d)(hq:Raw k m b c)(hk:k<2^33)(h0:rv m b c≠0):Qd Tryz.prog 143 [PV.rr n a d,PV.rr m b c] (· = .tup [PV.rat (rv n a d/rv m b c),.int .i64 0]):=by
 have hx:=hp.rs
 have hy:=hq.rs
 unfold FW.rs at hx hy
 refine Qi Qt Tryz.func143 rfl Qacz (by simp[Q8n]) fun C hP=> ?_;simp only[Q8n,Zo,Zg,Zm,Zc,Zf,Zl,Zh,Zs,Zi,Zb,Zk,Zn,Zu,Zq,Zr,Zz]
 simp+decide (disch:=try exact D0) only[go_sem]
 refine Qa hP (Qea hp (by omega)) rfl rfl rfl ?_
 simp+decide (disch:=try exact D0) only[go_sem]
 refine Qa hP (Qea hq (by omega)) rfl rfl rfl ?_
 generalize rv n a d=p at *
 generalize rv m b c=q at *
 have h1:=Qar p.num (q.den:Int)
 have h2:=Qar q.num (p.den:Int)
 rw[Int.natAbs_natCast]at h1 h2
 have hq0:q.num≠0:=fun h=>h0 (Rat.num_eq_zero.1 h)
 have hne:q.num*(p.den:Int)≠0:=Int.mul_ne_zero hq0 (by have:=p.den_nz;omega)
 have hfin:((p.num*(q.den:Int):Int):Rat)/((q.num*(p.den:Int):Int):Rat)=p/q:=by
  have k1:((p.den:Int):Rat)≠0:=by rw[Ne,Rat.intCast_eq_zero_iff];have:=p.den_nz;omega
  have k2:((q.den:Int):Rat)≠0:=by rw[Ne,Rat.intCast_eq_zero_iff];have:=q.den_nz;omega
  have k3:((q.num:Int):Rat)≠0:=by rw[Ne,Rat.intCast_eq_zero_iff];exact hq0
  have d1:p=(p.num:Rat)/((p.den:Int):Rat):=by
   conv=>lhs;rw[<-Rat.mkRat_self p]
   rw[Rat.mkRat_eq_div,Rat.intCast_natCast]
  have d2:q=(q.num:Rat)/((q.den:Int):Rat):=by
   conv=>lhs;rw[<-Rat.mkRat_self q]
   rw[Rat.mkRat_eq_div,Rat.intCast_natCast]
  rw[Rat.intCast_mul,Rat.intCast_mul]
  generalize(p.num:Rat)=A at *
  generalize(q.num:Rat)=B at *
  generalize((p.den:Int):Rat)=D at *
  generalize((q.den:Int):Rat)=F at *
  rw[d1,d2]
  grind
 simp+decide (disch:=try exact D0) only[go_sem]
 refine Qa hP (Qei (dig q.den)) rfl rfl rfl ?_
 simp+decide (disch:=try exact D0) only[go_sem]
 refine Qa hP (Qg0 (x:=p.num) (d:=q.den) (by omega) (by omega)) rfl rfl rfl ?_
 simp+decide (disch:=try exact D0) only[go_sem]
 refine Qa hP (Qei (dig p.den)) rfl rfl rfl ?_
 simp+decide (disch:=try exact D0) only[go_sem]
 refine Qa hP (Qg0 (x:=q.num) (d:=p.den) (by omega) (by omega)) rfl rfl rfl ?_
 generalize p.num*(q.den:Int)=X at *
 generalize q.num*(p.den:Int)=Y at *
 simp+decide (disch:=try exact D0) only[go_sem]
 refine Qa hP (Qrh (x:=X) (y:=Y) (by omega) (by omega) hne) rfl rfl rfl ?_
 rw[hfin]
 generalize p/q=Q at *
 simp+decide (disch:=try exact D0) only[go_sem]
 refine Qb1 ?_
 simp+decide (disch:=try exact D0) only[go_sem]
 exact Qb2 rfl rfl rfl (Qy _) (Qy _)
theorem Q8q{a b:Rat}{k:Nat}(ha:rs a<=k)(hb:rs b<=k)(hk:k<2^33)(h0:b≠0):Qd Tryz.prog 143 [PV.rat a,PV.rat b] (· = .tup [PV.rat (a/b),.int .i64 0]):=by
 have:=Q0e (Qcn ha) (Qcn hb) hk (by rw[Qc6];exact h0)
 rwa[Qc6,Qc6]at this
theorem Qn4{x y:Int}(hx: -9223372036854775808<=x/\x<=9223372036854775807)(hy: -9223372036854775808<=y/\y<=9223372036854775807)(h0:y≠0):Qd Tryz.prog 51 [.int .i64 x,.int .i64 y] (· =PV.rat ((x:Rat)/(y:Rat))):=by
 have n1:=Qd9 (n:=x.natAbs) (by omega)
 have n2:=Qd9 (n:=y.natAbs) (by omega)
 have hm:=Qrh (x:=x) (y:=y) (by omega) (by omega) h0
 generalize(x:Rat)/(y:Rat)=Q at *
 refine Qi Qt Tryz.func51 rfl Qafk (by simp[c51]) fun C hP=> ?_;simp only[c51,Zo,Zg,Zm,Zc,Zf,Zl,Zh,Zs,Zi,Zb,Zk,Zn,Zu,Zq,Zr,Zz]
 simp+decide (disch:=try exact D0) only[go_sem]
 refine Qa hP (Qm1 hx.1 hx.2) rfl rfl rfl ?_
 simp+decide (disch:=try exact D0) only[go_sem]
 refine Qa hP (Qm1 hy.1 hy.2) rfl rfl rfl ?_
 simp+decide (disch:=try exact D0) only[go_sem]
 refine Qa hP hm rfl rfl rfl ?_
 simp+decide (disch:=try exact D0) only[go_sem]
 refine Qa1 ?_
 simp+decide (disch:=try exact D0) only[go_sem]
 exact Qc rfl rfl
def c52:SFn:=⟨35,[.t 2],Zr (Zo (.box 1 3 24 (.t 0))<|
 Zo (.mv 2 (.c (.bool false))) .nil)<| .seq (Zr (Zf 3 0 1<|
 Zl 4 1 3<|
 Zk 5 .lss 4 0<|
 Zm 6 5<|
 Zg 6 false (.fld 7 0 (.t 1))<|
 Zg 6 false (.ld 8 1 false (.t 7))<|
 Zg 6 false (.bin 9 .gtr false (.t 8) (.c (Zz 40)))<|
 Zo (.pick 10 (.t 6) (.c (.bool true)) (.t 9))<|
 Zm 11 10<|
 Zg 11 false (.fld 12 1 (.t 1))<|
 Zg 11 false (.ld 13 1 false (.t 12))<|
 Zg 11 false (.bin 14 .lss false (.t 13) (.c (Zz 0)))<|
 Zo (.pick 15 (.t 11) (.c (.bool true)) (.t 14))<|
 Zm 16 15<|
 Zg 16 false (.fld 17 1 (.t 1))<|
 Zg 16 false (.ld 18 1 false (.t 17))<|
 Zg 16 false (.bin 19 .gtr false (.t 18) (.c (Zz 40)))<|
 Zo (.pick 20 (.t 16) (.c (.bool true)) (.t 19))<|
 Zm 21 20<|
 Zg 21 false (.fld 22 2 (.t 1))<|
 Zg 21 false (.ld 23 1 false (.t 22))<|
 Zg 21 false (.len 24 (.t 23))<|
 Zg 21 false (.fld 25 0 (.t 1))<|
 Zg 21 false (.ld 26 1 false (.t 25))<|
 Zg 21 false (.fld 27 1 (.t 1))<|
 Zg 21 false (.ld 28 1 false (.t 27))<|
 Zg 21 false (.bin 29 .mul false (.t 26) (.t 28))<|
 Zg 21 false (.bin 30 .neq false (.t 24) (.t 29))<|
 Zo (.pick 31 (.t 21) (.c (.bool true)) (.t 30)) .nil)<| .cond (.t 31) (Zr (Zo (.mv 2 (.c (.bool false))) .nil) .ret) .skip)<|Zr (Zf 32 2 1<|
 Zl 33 1 32<|
 Zq 34 false 53 [.t 33]<|
 Zm 2 34 .nil) .ret⟩
theorem Qaf1:Qe Tryz.prog Tryz.f52=some c52:=by kernel_rfl
def c53:SFn:=⟨15,[.t 2],Zr (Zo (.mv 2 (.c (.bool false))) .nil)<| .seq (Zr (Zm 5 0<|
 Zn 6 5<|
 Zc 7 0 .nil)<| .block 0<| .loop<|Zr (Zb 8 .lss 7 6 .nil)<| .seq (.cond (.t 8) .skip (.exit 0))<| .seq (.block 1<|Zr (Zi 9 3 5 7<|
 Zh 10 3 9<|
 Zo (.alloc 4 3 51 (.agg [.bool false,.nilS,.nilS]))<|
 Zs 3 4 10 .nil)<|Zr (Zh 11 3 4<|
 Zq 12 false 122 [.t 11]<|
 Zu 13 12 .nil)<| .cond (.t 13) (Zr (Zo (.mv 2 (.c (.bool false))) .nil) .ret) .skip)<| .rg (Zk 14 .add 7 1<|
 Zm 7 14 .nil))<|Zr (Zo (.mv 2 (.c (.bool true))) .nil) .ret⟩
theorem Qaf2:Qe Tryz.prog Tryz.f53=some c53:=by kernel_rfl
def c45:SFn:=⟨42,[.cell 6 3 true,.t 7],Zr (Zo (.alloc 6 3 24 (.agg [Zz 0,Zz 0,.nilS]))<|
 Zc 7 0 .nil)<| .seq (.block 0<|Zr (Zm 9 0<|
 Zk 10 .lss 9 0<|
 Zm 11 10<|
 Zg 11 false (.mv 12 (.t 0))<|
 Zg 11 false (.bin 13 .gtr false (.t 12) (.c (Zz 40)))<|
 Zo (.pick 14 (.t 11) (.c (.bool true)) (.t 13))<|
 Zm 15 14<|
 Zg 15 false (.mv 16 (.t 1))<|
 Zg 15 false (.bin 17 .lss false (.t 16) (.c (Zz 0)))<|
 Zo (.pick 18 (.t 15) (.c (.bool true)) (.t 17))<|
 Zm 19 18<|
 Zg 19 false (.mv 20 (.t 1))<|
 Zg 19 false (.bin 21 .gtr false (.t 20) (.c (Zz 40)))<|
 Zo (.pick 22 (.t 19) (.c (.bool true)) (.t 21))<|
 Zm 8 22 .nil)<| .cond (.t 8) (Zr (Zo (.bld 23 [Zz 0,Zz 0,.nilS] [])<|
 Zs 3 6 23<|
 Zc 7 2 .nil) .ret) (Zr (Zm 25 2<|
 Zn 26 25<|
 Zm 27 0<|
 Zm 28 1<|
 Zb 29 .mul 27 28<|
 Zb 30 .neq 26 29<|
 Zm 24 30 .nil)<| .cond (.t 24) (Zr (Zo (.bld 31 [Zz 0,Zz 0,.nilS] [])<|
 Zs 3 6 31<|
 Zc 7 16 .nil) .ret) (Zr (Zm 33 2<|
 Zq 34 false 53 [.t 33]<|
 Zu 35 34<|
 Zm 32 35 .nil)<| .cond (.t 32) (Zr (Zo (.bld 36 [Zz 0,Zz 0,.nilS] [])<|
 Zs 3 6 36<|
 Zc 7 1 .nil) .ret) .skip)))<|Zr (Zm 37 0<|
 Zm 38 1<|
 Zm 39 2<|
 Zo (.app 40 3 56 51 (.c .nilS) (.t 39))<|
 Zo (.bld 41 [Zz 0,Zz 0,.nilS] [(0,1,.t 37),(1,1,.t 38),(2,1,.t 40)])<|
 Zs 3 6 41<|
 Zc 7 0 .nil) .ret⟩
theorem Qaf3:Qe Tryz.prog Tryz.f45=some c45:=by kernel_rfl
def c47:SFn:=⟨29,[.cell 2 3 true,.t 3],Zr (Zo (.box 1 3 24 (.t 0))<|
 Zo (.alloc 2 3 51 (.agg [.bool false,.nilS,.nilS]))<|
 Zc 3 0 .nil)<| .seq (Zr (Zh 5 3 1<|
 Zq 6 false 52 [.t 5]<|
 Zu 7 6 .nil)<| .cond (.t 7) (Zr (Zo (.bld 8 [.bool false,.nilS,.nilS] [])<|
 Zs 3 2 8<|
 Zc 3 1 .nil) .ret) .skip)<| .seq (Zr (Zf 9 0 1<|
 Zl 10 1 9<|
 Zf 11 1 1<|
 Zl 12 1 11<|
 Zb 13 .neq 10 12 .nil)<| .cond (.t 13) (Zr (Zo (.bld 14 [.bool false,.nilS,.nilS] [])<|
 Zs 3 2 14<|
 Zc 3 16 .nil) .ret) .skip)<|Zr (Zh 15 3 1<|
 Zf 17 1 1<|
 Zl 18 1 17<|
 .br (Zq 16 true 54 [.t 15]<|
 .br (Zq 19 false 55 [.t 16,.t 18]<|
 Zo (.alloc 4 5 87 (.agg [.nilS,.nilS,.bool false,.nilS,.nilS]))<|
 Zs 5 4 19 .nil) (Zo (.alloc 4 5 87 (.agg [.nilS,.nilS,.bool false,.nilS,.nilS]))<|
 Zq 19 false 55 [.t 16,.t 18]<|
 Zs 5 4 19 .nil)) (Zo (.alloc 4 5 87 (.agg [.nilS,.nilS,.bool false,.nilS,.nilS]))<|
 Zq 16 true 54 [.t 15]<|
 Zq 19 false 55 [.t 16,.t 18]<|
 Zs 5 4 19 .nil))<| .seq (Zr (Zf 20 1 4<|
 Zl 21 1 20<|
 Zn 22 21<|
 Zf 23 0 1<|
 Zl 24 1 23<|
 Zb 25 .lss 22 24 .nil)<| .cond (.t 25) (Zr (Zq 26 false 61 [.c (Zz 0)]<|
 Zs 3 2 26<|
 Zc 3 0 .nil) .ret) .skip)<|Zr (Zf 27 2 4<|
 Zh 28 3 27<|
 Zs 3 2 28<|
 Zc 3 0 .nil) .ret⟩
theorem Qaf4:Qe Tryz.prog Tryz.f47=some c47:=by kernel_rfl
def c56:SFn:=⟨18,[.t 2],Zr (Zo (.mv 2 (.c .nilS)) .nil)<|Zr (Zm 5 0<|
 Zo (.mk 6 3 56 51 (.agg [.bool false,.nilS,.nilS]) (.t 5) (.t 5))<|
 Zm 3 6 .nil)<| .seq (Zr (Zm 7 3<|
 Zn 8 7<|
 Zc 9 0 .nil)<| .block 0<| .loop<|Zr (Zb 10 .lss 9 8 .nil)<| .seq (.cond (.t 10) .skip (.exit 0))<| .seq (.block 1<|Zr (Zm 11 9<|
 Zm 4 11 .nil)<| .rg (Zm 12 3<|
 Zm 13 4<|
 Zq 14 false 61 [.c (Zz 0)]<|
 Zi 15 3 12 13<|
 Zs 3 15 14 .nil))<| .rg (Zk 16 .add 9 1<|
 Zm 9 16 .nil))<|Zr (Zm 17 3<|
 Zm 2 17 .nil) .ret⟩
theorem Q3t:Qe Tryz.prog Tryz.f56=some c56:=by kernel_rfl
def c57:SFn:=⟨35,[.t 2],Zr (Zo (.box 1 3 24 (.t 0))<|
 Zo (.mv 2 (.c (.bool false))) .nil)<| .seq (Zr (Zf 3 0 1<|
 Zl 4 1 3<|
 Zk 5 .lss 4 0<|
 Zm 6 5<|
 Zg 6 false (.fld 7 0 (.t 1))<|
 Zg 6 false (.ld 8 1 false (.t 7))<|
 Zg 6 false (.bin 9 .gtr false (.t 8) (.c (Zz 40)))<|
 Zo (.pick 10 (.t 6) (.c (.bool true)) (.t 9))<|
 Zm 11 10<|
 Zg 11 false (.fld 12 1 (.t 1))<|
 Zg 11 false (.ld 13 1 false (.t 12))<|
 Zg 11 false (.bin 14 .lss false (.t 13) (.c (Zz 0)))<|
 Zo (.pick 15 (.t 11) (.c (.bool true)) (.t 14))<|
 Zm 16 15<|
 Zg 16 false (.fld 17 1 (.t 1))<|
 Zg 16 false (.ld 18 1 false (.t 17))<|
 Zg 16 false (.bin 19 .gtr false (.t 18) (.c (Zz 40)))<|
 Zo (.pick 20 (.t 16) (.c (.bool true)) (.t 19))<|
 Zm 21 20<|
 Zg 21 false (.fld 22 2 (.t 1))<|
 Zg 21 false (.ld 23 1 false (.t 22))<|
 Zg 21 false (.len 24 (.t 23))<|
 Zg 21 false (.fld 25 0 (.t 1))<|
 Zg 21 false (.ld 26 1 false (.t 25))<|
 Zg 21 false (.fld 27 1 (.t 1))<|
 Zg 21 false (.ld 28 1 false (.t 27))<|
 Zg 21 false (.bin 29 .mul false (.t 26) (.t 28))<|
 Zg 21 false (.bin 30 .neq false (.t 24) (.t 29))<|
 Zo (.pick 31 (.t 21) (.c (.bool true)) (.t 30)) .nil)<| .cond (.t 31) (Zr (Zo (.mv 2 (.c (.bool false))) .nil) .ret) .skip)<|Zr (Zf 32 2 1<|
 Zl 33 1 32<|
 Zq 34 false 58 [.t 33]<|
 Zm 2 34 .nil) .ret⟩
theorem Qaf5:Qe Tryz.prog Tryz.f57=some c57:=by kernel_rfl
def c58:SFn:=⟨16,[.t 2],Zr (Zo (.mv 2 (.c (.bool false))) .nil)<| .seq (Zr (Zc 3 0 .nil)<| .block 0<| .loop<| .seq (Zr (Zm 4 3<|
 Zm 5 0<|
 Zn 6 5<|
 Zb 7 .lss 4 6 .nil)<| .cond (.t 7) .skip (.exit 0))<| .seq (.block 1<|Zr (Zm 10 0<|
 Zm 11 3<|
 Zi 12 3 10 11<|
 Zh 13 3 12<|
 Zq 14 false 25 [.t 13]<|
 Zu 15 14 .nil)<| .cond (.t 15) (Zr (Zo (.mv 2 (.c (.bool false))) .nil) .ret) .skip)<| .rg (Zm 8 3<|
 Zk 9 .add 8 1<|
 Zm 3 9 .nil))<|Zr (Zo (.mv 2 (.c (.bool true))) .nil) .ret⟩
theorem Qaf6:Qe Tryz.prog Tryz.f58=some c58:=by kernel_rfl
def c17:SFn:=⟨27,[.t 4],Zr (Zo (.mv 4 (.c (.bool false))) .nil)<| .seq (Zr (Zm 6 0<|
 Zn 7 6<|
 Zm 8 1<|
 Zn 9 8<|
 Zb 10 .neq 7 9 .nil)<| .cond (.t 10) (Zr (Zo (.mv 4 (.c (.bool false))) .nil) .ret) .skip)<| .seq (Zr (Zc 5 0 .nil)<| .block 0<| .loop<| .seq (Zr (Zm 11 5<|
 Zm 12 0<|
 Zn 13 12<|
 Zb 14 .lss 11 13 .nil)<| .cond (.t 14) .skip (.exit 0))<| .seq (.block 1<|Zr (Zm 17 0<|
 Zm 18 5<|
 Zi 19 3 17 18<|
 Zh 20 3 19<|
 Zm 21 1<|
 Zm 22 5<|
 Zi 23 3 21 22<|
 Zh 24 3 23<|
 Zq 25 false 49 [.t 20,.t 24]<|
 Zu 26 25 .nil)<| .cond (.t 26) (Zr (Zo (.mv 4 (.c (.bool false))) .nil) .ret) .skip)<| .rg (Zm 15 5<|
 Zk 16 .add 15 1<|
 Zm 5 16 .nil))<|Zr (Zo (.mv 4 (.c (.bool true))) .nil) .ret⟩
theorem Qaf7:Qe Tryz.prog Tryz.f17=some c17:=by kernel_rfl
def Q8r:SFn:=⟨17,[.t 4],Zr (Zo (.box 2 3 24 (.t 0))<|
 Zo (.mv 4 (.c .nilS)) .nil)<|Zr (Zf 5 2 2<|
 Zl 6 1 5<|
 Zm 7 1<|
 Zf 8 1 2<|
 Zl 9 1 8<|
 Zb 10 .mul 7 9<|
 Zm 11 1<|
 Zk 12 .add 11 1<|
 Zf 13 1 2<|
 Zl 14 1 13<|
 Zb 15 .mul 12 14<|
 Zo (.sl 16 3 (.t 6) (some (.t 10)) (some (.t 15)) none)<|
 Zm 4 16 .nil) .ret⟩
theorem Qac0:Qe Tryz.prog Tryz.f124=some Q8r:=by kernel_rfl
def Q8s:SFn:=⟨30,[.t 6],Zr (Zo (.box 5 3 51 (.t 2))<|
 Zo (.mv 6 (.c .nilS)) .nil)<|Zr (Zo (.mv 7 (.c .nilS)) .nil)<| .seq (Zr (Zc 8 0 .nil)<| .block 0<| .loop<| .seq (Zr (Zm 9 8<|
 Zm 10 0<|
 Zn 11 10<|
 Zb 12 .lss 9 11 .nil)<| .cond (.t 12) .skip (.exit 0))<| .seq (.block 1<| .rg (Zm 15 7<|
 Zm 16 0<|
 Zm 17 8<|
 Zi 18 3 16 17<|
 Zh 19 3 18<|
 Zh 20 3 5<|
 Zm 21 1<|
 Zm 22 8<|
 Zi 23 3 21 22<|
 Zh 24 3 23<|
 Zq 25 true 85 [.t 20,.t 24]<|
 Zq 26 true 145 [.t 19,.t 25]<|
 Zo (.bs 27 3 51 [.t 26])<|
 Zo (.app 28 3 56 51 (.t 15) (.t 27))<|
 Zm 7 28 .nil))<| .rg (Zm 13 8<|
 Zk 14 .add 13 1<|
 Zm 8 14 .nil))<|Zr (Zm 29 7<|
 Zm 6 29 .nil) .ret⟩
theorem Qac1:Qe Tryz.prog Tryz.f126=some Q8s:=by kernel_rfl
def Q8t:SFn:=⟨29,[.t 4],Zr (Zo (.box 3 3 51 (.t 1))<|
 Zo (.mv 4 (.c .nilS)) .nil)<|Zr (Zo (.mv 5 (.c .nilS)) .nil)<| .seq (Zr (Zc 6 0 .nil)<| .block 0<| .loop<| .seq (Zr (Zm 9 6<|
 Zm 10 0<|
 Zn 11 10<|
 Zb 12 .lss 9 11 .nil)<| .cond (.t 12) .skip (.exit 0))<| .seq (.block 1<|Zr (Zm 16 0<|
 Zm 17 6<|
 Zi 18 3 16 17<|
 Zh 19 3 18<|
 Zh 20 3 3<|
 .br (Zq 21 true 143 [.t 19,.t 20]<|
 Zm 15 21<|
 Zo (.ext 22 (.t 15) 0)<|
 Zo (.ext 23 (.t 15) 1)<|
 Zo (.alloc 7 3 51 (.agg [.bool false,.nilS,.nilS]))<|
 Zs 3 7 22<|
 Zm 8 23 .nil) (Zo (.alloc 7 3 51 (.agg [.bool false,.nilS,.nilS]))<|
 Zq 21 true 143 [.t 19,.t 20]<|
 Zm 15 21<|
 Zo (.ext 22 (.t 15) 0)<|
 Zo (.ext 23 (.t 15) 1)<|
 Zs 3 7 22<|
 Zm 8 23 .nil))<| .rg (Zm 24 5<|
 Zh 25 3 7<|
 Zo (.bs 26 3 51 [.t 25])<|
 Zo (.app 27 3 56 51 (.t 24) (.t 26))<|
 Zm 5 27 .nil))<| .rg (Zm 13 6<|
 Zk 14 .add 13 1<|
 Zm 6 14 .nil))<|Zr (Zm 28 5<|
 Zm 4 28 .nil) .ret⟩
theorem Qac2:Qe Tryz.prog Tryz.f125=some Q8t:=by kernel_rfl
def c46:SFn:=⟨20,[.t 2],Zr (Zo (.mv 2 (.c .nilS)) .nil)<|Zr (Zo (.mv 3 (.c .nilS)) .nil)<| .seq (Zr (Zc 4 0 .nil)<| .block 0<| .loop<| .seq (Zr (Zm 5 4<|
 Zm 6 0<|
 Zn 7 6<|
 Zb 8 .lss 5 7 .nil)<| .cond (.t 8) .skip (.exit 0))<| .seq (.block 1<| .rg (Zm 11 3<|
 Zm 12 0<|
 Zm 13 4<|
 Zi 14 1 12 13<|
 Zl 15 1 14<|
 Zq 16 false 50 [.t 15]<|
 Zo (.bs 17 3 51 [.t 16])<|
 Zo (.app 18 3 56 51 (.t 11) (.t 17))<|
 Zm 3 18 .nil))<| .rg (Zm 9 4<|
 Zk 10 .add 9 1<|
 Zm 4 10 .nil))<|Zr (Zm 19 3<|
 Zm 2 19 .nil) .ret⟩
theorem Qaf8:Qe Tryz.prog Tryz.f46=some c46:=by kernel_rfl
def c12:SFn:=⟨54,[.t 0],Zr (Zo (.mv 0 (.c (.bool false))) .nil)<|Zr (Zo (.bs 9 1 3 [.c (Zz 0),.c (Zz 1),.c (Zz 1),.c (Zz 0)])<|
 Zq 10 false 46 [.t 9]<|
 Zq 11 false 45 [.c (Zz 2),.c (Zz 2),.t 10]<|
 Zm 8 11<|
 Zo (.ext 12 (.t 8) 0)<|
 Zo (.ext 13 (.t 8) 1)<|
 Zo (.alloc 1 3 24 (.agg [Zz 0,Zz 0,.nilS]))<|
 Zs 3 1 12<|
 Zm 2 13 .nil)<|Zr (Zh 15 3 1<|
 Zq 16 false 47 [.t 15]<|
 Zm 14 16<|
 Zo (.ext 17 (.t 14) 0)<|
 Zo (.ext 18 (.t 14) 1)<|
 Zo (.alloc 3 3 51 (.agg [.bool false,.nilS,.nilS]))<|
 Zs 3 3 17<|
 Zm 4 18 .nil)<|Zr (Zh 20 3 1<|
 Zq 21 false 48 [.t 20]<|
 Zm 19 21<|
 Zo (.ext 22 (.t 19) 0)<|
 Zo (.ext 23 (.t 19) 1)<|
 Zo (.ext 24 (.t 19) 2)<|
 Zo (.alloc 6 3 24 (.agg [Zz 0,Zz 0,.nilS]))<|
 Zm 5 22<|
 Zs 3 6 23<|
 Zm 7 24 .nil)<|Zr (Zm 25 2<|
 Zk 26 .eql 25 0<|
 Zm 27 26<|
 Zg 27 true (.mv 28 (.t 4))<|
 Zg 27 true (.bin 29 .eql false (.t 28) (.c (Zz 0)))<|
 Zo (.pick 30 (.t 27) (.t 29) (.c (.bool false)))<|
 Zm 31 30<|
 Zg 31 true (.mv 32 (.t 7))<|
 Zg 31 true (.bin 33 .eql false (.t 32) (.c (Zz 0)))<|
 Zo (.pick 34 (.t 31) (.t 33) (.c (.bool false)))<|
 Zm 35 34<|
 Zg 35 true (.ld 36 3 true (.t 3))<|
 Zg 35 true (.call (some 37) true (.c (.fn 50 [] [])) [.c (Zz (-1))])<|
 Zg 35 true (.call (some 38) true (.c (.fn 49 [] [])) [.t 36,.t 37])<|
 Zo (.pick 39 (.t 35) (.t 38) (.c (.bool false)))<|
 Zm 40 39<|
 Zg 40 true (.mv 41 (.t 5))<|
 Zg 40 true (.call (some 42) true (.c (.fn 51 [] [])) [.c (Zz 1),.c (Zz 2)])<|
 Zg 40 true (.call (some 43) true (.c (.fn 51 [] [])) [.c (Zz (-1)),.c (Zz 2)])<|
 Zg 40 true (.bs 44 3 51 [.t 42,.t 43])<|
 Zg 40 true (.call (some 45) true (.c (.fn 17 [] [])) [.t 41,.t 44])<|
 Zo (.pick 46 (.t 40) (.t 45) (.c (.bool false)))<|
 Zm 47 46<|
 Zg 47 true (.fld 48 2 (.t 6))<|
 Zg 47 true (.ld 49 1 false (.t 48))<|
 Zg 47 true (.bs 50 1 3 [.c (Zz 1),.c (Zz 1),.c (Zz (-1)),.c (Zz 1)])<|
 Zg 47 true (.call (some 51) true (.c (.fn 46 [] [])) [.t 50])<|
 Zg 47 true (.call (some 52) true (.c (.fn 17 [] [])) [.t 49,.t 51])<|
 Zo (.pick 53 (.t 47) (.t 52) (.c (.bool false)))<|
 Zm 0 53 .nil) .ret⟩
theorem Qaf9:Qe Tryz.prog Tryz.f12=some c12:=by kernel_rfl
def c11:SFn:=⟨33,[.t 4],Zr (Zo (.mv 4 (.c (.bool false))) .nil)<| .seq (Zr (Zm 6 0<|
 Zn 7 6<|
 Zm 8 1<|
 Zb 9 .gtr 7 8 .nil)<| .cond (.t 9) (Zr (Zo (.mv 4 (.c (.bool false))) .nil) .ret) .skip)<| .seq (Zr (Zc 5 0 .nil)<| .block 0<| .loop<| .seq (Zr (Zm 10 5<|
 Zm 11 0<|
 Zn 12 11<|
 Zb 13 .lss 10 12 .nil)<| .cond (.t 13) .skip (.exit 0))<| .seq (.block 1<|Zr (Zm 16 0<|
 Zm 17 5<|
 Zi 18 3 16 17<|
 Zf 19 0 18<|
 Zf 20 1 19<|
 Zl 21 1 20<|
 Zn 22 21<|
 Zk 23 .gtr 22 3<|
 Zm 24 23<|
 Zg 24 false (.mv 25 (.t 0))<|
 Zg 24 false (.mv 26 (.t 5))<|
 Zg 24 false (.idx 27 3 (.t 25) (.t 26))<|
 Zg 24 false (.fld 28 2 (.t 27))<|
 Zg 24 false (.ld 29 1 false (.t 28))<|
 Zg 24 false (.len 30 (.t 29))<|
 Zg 24 false (.bin 31 .gtr false (.t 30) (.c (Zz 3)))<|
 Zo (.pick 32 (.t 24) (.c (.bool true)) (.t 31)) .nil)<| .cond (.t 32) (Zr (Zo (.mv 4 (.c (.bool false))) .nil) .ret) .skip)<| .rg (Zm 14 5<|
 Zk 15 .add 14 1<|
 Zm 5 15 .nil))<|Zr (Zo (.mv 4 (.c (.bool true))) .nil) .ret⟩
theorem Qaga:Qe Tryz.prog Tryz.f11=some c11:=by kernel_rfl
def c10:SFn:=⟨17,[.t 2],Zr (Zo (.mv 2 (.c (.bool false))) .nil)<| .seq (Zr (Zc 3 0 .nil)<| .block 0<| .loop<| .seq (Zr (Zm 4 3<|
 Zm 5 0<|
 Zn 6 5<|
 Zb 7 .lss 4 6 .nil)<| .cond (.t 7) .skip (.exit 0))<| .seq (.block 1<|Zr (Zm 10 0<|
 Zm 11 3<|
 Zi 12 3 10 11<|
 Zf 13 2 12<|
 Zl 14 1 13<|
 Zq 15 false 11 [.t 14,.c (Zz 25)]<|
 Zu 16 15 .nil)<| .cond (.t 16) (Zr (Zo (.mv 2 (.c (.bool false))) .nil) .ret) .skip)<| .rg (Zm 8 3<|
 Zk 9 .add 8 1<|
 Zm 3 9 .nil))<|Zr (Zo (.mv 2 (.c (.bool true))) .nil) .ret⟩
theorem Qagb:Qe Tryz.prog Tryz.f10=some c10:=by kernel_rfl
def c3:SFn:=⟨84,[.t 4],Zr (Zo (.box 2 3 24 (.t 0))<|
 Zo (.mv 4 (.c (.bool false))) .nil)<| .seq (Zr (Zh 14 3 2<|
 Zo (.bs 15 3 24 [.t 14])<|
 Zq 16 false 10 [.t 15]<|
 Zu 17 16<|
 Zm 18 17<|
 Zg 18 false (.mv 19 (.t 1))<|
 Zg 18 false (.call (some 20) false (.c (.fn 11 [] [])) [.t 19,.c (Zz 8)])<|
 Zg 18 false (.un 21 .not (.t 20))<|
 Zo (.pick 22 (.t 18) (.c (.bool true)) (.t 21)) .nil)<| .cond (.t 22) (Zr (Zq 23 false 12 []<|
 Zm 4 23 .nil) .ret) .skip)<|Zr (Zh 25 3 2<|
 Zm 26 1<|
 Zq 27 false 13 [.t 25,.t 26]<|
 Zm 24 27<|
 Zo (.ext 28 (.t 24) 0)<|
 Zo (.ext 29 (.t 24) 1)<|
 Zm 5 28<|
 Zm 6 29 .nil)<|Zr (Zh 31 3 2<|
 Zm 32 1<|
 Zq 33 false 14 [.t 31,.t 32]<|
 Zm 30 33<|
 Zo (.ext 34 (.t 30) 0)<|
 Zo (.ext 35 (.t 30) 1)<|
 Zm 7 34<|
 Zm 8 35 .nil)<|Zr (Zh 37 3 2<|
 Zq 38 false 15 [.t 37]<|
 Zm 36 38<|
 Zo (.ext 39 (.t 36) 0)<|
 Zo (.ext 40 (.t 36) 1)<|
 Zm 9 39<|
 Zm 10 40 .nil)<|Zr (Zh 42 3 2<|
 Zq 43 false 16 [.t 42]<|
 Zm 41 43<|
 Zo (.ext 44 (.t 41) 0)<|
 Zo (.ext 45 (.t 41) 1)<|
 Zm 11 44<|
 Zm 12 45 .nil)<| .seq (Zr (Zm 46 5<|
 Zm 47 7<|
 Zq 48 false 17 [.t 46,.t 47]<|
 Zu 49 48<|
 Zm 50 49<|
 Zg 50 false (.mv 51 (.t 6))<|
 Zg 50 false (.mv 52 (.t 8))<|
 Zg 50 false (.bin 53 .neq false (.t 51) (.t 52))<|
 Zo (.pick 54 (.t 50) (.c (.bool true)) (.t 53))<|
 Zm 55 54<|
 Zg 55 false (.mv 56 (.t 9))<|
 Zg 55 false (.len 57 (.t 56))<|
 Zg 55 false (.mv 58 (.t 11))<|
 Zg 55 false (.len 59 (.t 58))<|
 Zg 55 false (.bin 60 .neq false (.t 57) (.t 59))<|
 Zo (.pick 61 (.t 55) (.c (.bool true)) (.t 60))<|
 Zm 62 61<|
 Zg 62 false (.mv 63 (.t 10))<|
 Zg 62 false (.mv 64 (.t 12))<|
 Zg 62 false (.bin 65 .neq false (.t 63) (.t 64))<|
 Zo (.pick 66 (.t 62) (.c (.bool true)) (.t 65)) .nil)<| .cond (.t 66) (Zr (Zo (.mv 4 (.c (.bool false))) .nil) .ret) .skip)<| .seq (Zr (Zc 13 0 .nil)<| .block 0<| .loop<| .seq (Zr (Zm 67 13<|
 Zm 68 9<|
 Zn 69 68<|
 Zb 70 .lss 67 69 .nil)<| .cond (.t 70) .skip (.exit 0))<| .seq (.block 1<|Zr (Zm 73 9<|
 Zm 74 13<|
 Zi 75 1 73 74<|
 Zl 76 1 75<|
 Zm 77 11<|
 Zm 78 13<|
 Zi 79 1 77 78<|
 Zl 80 1 79<|
 Zq 81 false 17 [.t 76,.t 80]<|
 Zu 82 81 .nil)<| .cond (.t 82) (Zr (Zo (.mv 4 (.c (.bool false))) .nil) .ret) .skip)<| .rg (Zm 71 13<|
 Zk 72 .add 71 1<|
 Zm 13 72 .nil))<|Zr (Zq 83 false 12 []<|
 Zm 4 83 .nil) .ret⟩
theorem Q0f:Qe Tryz.prog Tryz.f3=some c3:=by kernel_rfl
def c54:SFn:=⟨38,[.t 2],Zr (Zo (.box 1 3 24 (.t 0))<|
 Zo (.mv 2 (.c .nilS)) .nil)<|Zr (Zf 5 0 1<|
 Zl 6 1 5<|
 Zo (.mk 7 1 24 22 .nilS (.t 6) (.t 6))<|
 .wk<| .wk<|Zm 3 7 .nil)<| .seq (Zr (Zf 8 0 1<|
 Zl 9 1 8<|
 Zc 10 0 .nil)<| .block 0<| .loop<|Zr (Zb 11 .lss 10 9 .nil)<| .seq (.cond (.t 11) .skip (.exit 0))<| .seq (.block 1<|Zr (Zm 12 10<|
 Zm 4 12 .nil)<|Zr (Zm 13 3<|
 Zm 14 4<|
 Zf 15 1 1<|
 Zl 16 1 15<|
 Zo (.mk 17 3 56 51 (.agg [.bool false,.nilS,.nilS]) (.t 16) (.t 16))<|
 .wk<|Zi 18 1 13 14<|
 Zs 1 18 17 .nil)<| .rg (Zm 19 3<|
 Zm 20 4<|
 Zi 21 1 19 20<|
 Zl 22 1 21<|
 Zf 23 2 1<|
 Zl 24 1 23<|
 Zm 25 4<|
 Zf 26 1 1<|
 Zl 27 1 26<|
 Zb 28 .mul 25 27<|
 Zm 29 4<|
 Zk 30 .add 29 1<|
 Zf 31 1 1<|
 Zl 32 1 31<|
 Zb 33 .mul 30 32<|
 Zo (.sl 34 3 (.t 24) (some (.t 28)) (some (.t 33)) none)<|
 Zo (.cpy 35 3 (.t 22) (.t 34)) .nil))<| .rg (Zk 36 .add 10 1<|
 Zm 10 36 .nil))<|Zr (Zm 37 3<|
 Zm 2 37 .nil) .ret⟩
theorem Q3u:Qe Tryz.prog Tryz.f54=some c54.strip:=by kernel_rfl
def Qwe:SFn:=⟨30,[],Zr (Zo (.box 5 3 51 (.t 2)) .nil)<| .seq (Zr (Zh 7 3 5<|
 Zq 8 false 38 [.t 7]<|
 Zk 9 .eql 8 0 .nil)<| .cond (.t 9) .ret .skip)<|Zr (Zm 10 0<|
 Zn 11 10<|
 Zc 12 0 .nil)<| .block 0<| .loop<|Zr (Zb 13 .lss 12 11 .nil)<| .seq (.cond (.t 13) .skip (.exit 0))<| .seq (.block 1<|Zr (Zm 14 12<|
 Zm 6 14 .nil)<| .rg (Zm 15 0<|
 Zm 16 6<|
 Zm 17 0<|
 Zm 18 6<|
 Zi 19 3 17 18<|
 Zh 20 3 19<|
 Zh 21 3 5<|
 Zm 22 1<|
 Zm 23 6<|
 Zi 24 3 22 23<|
 Zh 25 3 24<|
 Zq 26 true 105 [.t 21,.t 25]<|
 Zq 27 true 181 [.t 20,.t 26]<|
 Zi 28 3 15 16<|
 Zs 3 28 27 .nil))<| .rg (Zk 29 .add 12 1<|
 Zm 12 29 .nil)⟩
theorem Qyk:Qe Tryz.prog Tryz.f117=some Qwe.strip:=by kernel_rfl
def Qwf:SFn:=⟨33,[.t 6],Zr (Zo (.box 5 3 51 (.t 2))<|
 Zo (.mv 6 (.c .nilS)) .nil)<|Zr (Zm 9 0<|
 Zn 10 9<|
 Zo (.mk 11 3 56 51 (.agg [.bool false,.nilS,.nilS]) (.t 10) (.t 10))<|
 Zm 7 11 .nil)<| .seq (Zr (Zm 12 0<|
 Zn 13 12<|
 Zc 14 0 .nil)<| .block 0<| .loop<|Zr (Zb 15 .lss 14 13 .nil)<| .seq (.cond (.t 15) .skip (.exit 0))<| .seq (.block 1<|Zr (Zm 16 14<|
 Zm 8 16 .nil)<| .rg (Zm 17 7<|
 Zm 18 8<|
 Zm 19 0<|
 Zm 20 8<|
 Zi 21 3 19 20<|
 Zh 22 3 21<|
 Zh 23 3 5<|
 Zm 24 1<|
 Zm 25 8<|
 Zi 26 3 24 25<|
 Zh 27 3 26<|
 Zq 28 true 105 [.t 23,.t 27]<|
 Zq 29 true 107 [.t 22,.t 28]<|
 Zi 30 3 17 18<|
 Zs 3 30 29 .nil))<| .rg (Zk 31 .add 14 1<|
 Zm 14 31 .nil))<|Zr (Zm 32 7<|
 Zm 6 32 .nil) .ret⟩
theorem Qyl:Qe Tryz.prog Tryz.f180=some Qwf.strip:=by kernel_rfl
def Q8u:SFn:=⟨32,[.t 2],Zr (Zo (.mv 2 (.c (.bool false))) .nil)<| .seq (Zr (Zm 5 0<|
 Zn 6 5<|
 Zc 7 0 .nil)<| .block 0<| .loop<|Zr (Zb 8 .lss 7 6 .nil)<| .seq (.cond (.t 8) .skip (.exit 0))<| .seq (.block 1<|Zr (Zm 9 7<|
 Zm 3 9 .nil)<|Zr (Zm 10 3<|
 Zc 11 0 .nil)<| .block 2<| .loop<|Zr (Zb 12 .lss 11 10 .nil)<| .seq (.cond (.t 12) .skip (.exit 2))<| .seq (.block 3<|Zr (Zm 13 11<|
 Zm 4 13 .nil)<|Zr (Zm 14 0<|
 Zm 15 3<|
 Zi 16 1 14 15<|
 Zl 17 1 16<|
 Zm 18 4<|
 Zi 19 3 17 18<|
 Zh 20 3 19<|
 Zm 21 0<|
 Zm 22 4<|
 Zi 23 1 21 22<|
 Zl 24 1 23<|
 Zm 25 3<|
 Zi 26 3 24 25<|
 Zh 27 3 26<|
 Zq 28 false 179 [.t 20,.t 27]<|
 Zu 29 28 .nil)<| .cond (.t 29) (Zr (Zo (.mv 2 (.c (.bool false))) .nil) .ret) .skip)<| .rg (Zk 30 .add 11 1<|
 Zm 11 30 .nil))<| .rg (Zk 31 .add 7 1<|
 Zm 7 31 .nil))<|Zr (Zo (.mv 2 (.c (.bool true))) .nil) .ret⟩
theorem Qac3:Qe Tryz.prog Tryz.f115=some Q8u.strip:=by kernel_rfl
def Q8v:SFn:=⟨102,[.t 2],Zr (Zo (.mv 2 (.c .nilS)) .nil)<|Zr (Zq 13 false 61 [.c (Zz 1)]<|
 Zo (.alloc 3 3 51 (.agg [.bool false,.nilS,.nilS]))<|
 Zs 3 3 13 .nil)<| .seq (Zr (Zm 14 0<|
 Zn 15 14<|
 Zc 16 0 .nil)<| .block 0<| .loop<|Zr (Zb 17 .lss 16 15 .nil)<| .seq (.cond (.t 17) .skip (.exit 0))<| .seq (.block 1<|Zr (Zm 18 16<|
 Zm 4 18 .nil)<|Zr (Zm 19 0<|
 Zm 20 4<|
 Zi 21 1 19 20<|
 Zl 22 1 21<|
 Zm 23 4<|
 Zi 24 3 22 23<|
 Zh 25 3 24<|
 Zo (.alloc 5 3 51 (.agg [.bool false,.nilS,.nilS]))<|
 Zs 3 5 25 .nil)<|Zr (Zh 26 3 5<|
 Zq 27 false 38 [.t 26]<|
 Zk 28 .neq 27 0 .nil)<| .cond (.t 28) (Zr (Zh 30 3 3<|
 Zh 31 3 5<|
 Zq 32 false 123 [.t 30,.t 31]<|
 Zm 29 32<|
 Zo (.ext 33 (.t 29) 0)<|
 Zo (.ext 34 (.t 29) 1)<|
 Zo (.alloc 6 3 51 (.agg [.bool false,.nilS,.nilS]))<|
 Zs 3 6 33<|
 Zm 7 34 .nil)<|Zr (Zh 35 3 5<|
 Zm 36 0<|
 Zn 37 36<|
 Zm 39 0<|
 Zm 40 4<|
 Zi 41 1 39 40<|
 Zl 42 1 41<|
 Zh 43 3 6<|
 Zq 38 true 56 [.t 37]<|
 Zq 44 true 180 [.t 38,.t 42,.t 43]<|
 Zo (.bld 45 [.bool false,.nilS,.nilS,.nilS] [(0,3,.t 35),(3,1,.t 44)])<|
 Zo (.bs 46 4 133 [.t 45])<|
 Zm 2 46 .nil) .ret) .skip)<| .rg (Zk 47 .add 16 1<|
 Zm 16 47 .nil))<| .seq (Zr (Zm 48 0<|
 Zn 49 48<|
 Zc 50 0 .nil)<| .block 2<| .loop<|Zr (Zb 51 .lss 50 49 .nil)<| .seq (.cond (.t 51) .skip (.exit 2))<| .seq (.block 3<|Zr (Zm 52 50<|
 Zm 8 52 .nil)<|Zr (Zm 53 0<|
 Zm 54 8<|
 Zi 55 1 53 54<|
 Zl 56 1 55<|
 Zn 57 56<|
 Zc 58 0 .nil)<| .block 4<| .loop<|Zr (Zb 59 .lss 58 57 .nil)<| .seq (.cond (.t 59) .skip (.exit 4))<| .seq (.block 5<|Zr (Zm 60 58<|
 Zi 61 3 56 58<|
 Zh 62 3 61<|
 Zo (.alloc 10 3 51 (.agg [.bool false,.nilS,.nilS]))<|
 Zm 9 60<|
 Zs 3 10 62 .nil)<|Zr (Zh 63 3 10<|
 Zq 64 false 38 [.t 63]<|
 Zk 65 .neq 64 0 .nil)<| .cond (.t 65) (Zr (Zh 67 3 3<|
 Zh 68 3 10<|
 Zh 69 3 10<|
 .br (Zq 70 true 107 [.t 68,.t 69]<|
 .br (Zq 71 true 123 [.t 67,.t 70]<|
 Zm 66 71<|
 Zo (.ext 72 (.t 66) 0)<|
 Zo (.ext 73 (.t 66) 1)<|
 Zo (.alloc 11 3 51 (.agg [.bool false,.nilS,.nilS]))<|
 Zs 3 11 72<|
 Zm 12 73 .nil) (Zo (.alloc 11 3 51 (.agg [.bool false,.nilS,.nilS]))<|
 Zq 71 true 123 [.t 67,.t 70]<|
 Zm 66 71<|
 Zo (.ext 72 (.t 66) 0)<|
 Zo (.ext 73 (.t 66) 1)<|
 Zs 3 11 72<|
 Zm 12 73 .nil)) (Zo (.alloc 11 3 51 (.agg [.bool false,.nilS,.nilS]))<|
 Zq 70 true 107 [.t 68,.t 69]<|
 Zq 71 true 123 [.t 67,.t 70]<|
 Zm 66 71<|
 Zo (.ext 72 (.t 66) 0)<|
 Zo (.ext 73 (.t 66) 1)<|
 Zs 3 11 72<|
 Zm 12 73 .nil))<|Zr (Zh 74 3 11<|
 Zm 75 0<|
 Zm 76 8<|
 Zi 77 1 75 76<|
 Zl 78 1 77<|
 Zm 79 0<|
 Zm 80 9<|
 Zi 81 1 79 80<|
 Zl 82 1 81<|
 Zh 83 3 3<|
 Zh 86 3 11<|
 Zm 88 0<|
 Zm 89 8<|
 Zi 90 1 88 89<|
 Zl 91 1 90<|
 Zm 92 0<|
 Zm 93 9<|
 Zi 94 1 92 93<|
 Zl 95 1 94<|
 Zq 84 true 180 [.t 78,.t 82,.t 83]<|
 Zo (.bld 85 [.bool false,.nilS,.nilS,.nilS] [(0,3,.t 74),(3,1,.t 84)])<|
 Zq 87 true 62 [.t 86]<|
 Zq 96 true 61 [.c (Zz (-1))]<|
 Zq 97 true 180 [.t 91,.t 95,.t 96]<|
 Zo (.bld 98 [.bool false,.nilS,.nilS,.nilS] [(0,3,.t 87),(3,1,.t 97)])<|
 Zo (.bs 99 4 133 [.t 85,.t 98])<|
 Zm 2 99 .nil) .ret) .skip)<| .rg (Zk 100 .add 58 1<|
 Zm 58 100 .nil))<| .rg (Zk 101 .add 50 1<|
 Zm 50 101 .nil))<|Zr (Zo (.mv 2 (.c .nilS)) .nil) .ret⟩
theorem Qac4:Qe Tryz.prog Tryz.f116=some Q8v.strip:=by kernel_rfl
def c55:SFn:=⟨137,[.cell 4 5 true],Zr (Zo (.alloc 4 5 87 (.agg [.nilS,.nilS,.bool false,.nilS,.nilS])) .nil)<|Zr (Zm 12 0<|
 Zq 13 false 61 [.c (Zz 1)]<|
 Zo (.bld 14 [.nilS,.nilS,.bool false,.nilS,.nilS] [(0,1,.t 12),(2,3,.t 13)])<|
 Zo (.alloc 5 5 87 (.agg [.nilS,.nilS,.bool false,.nilS,.nilS]))<|
 .wk<| .wk<|Zs 5 5 14 .nil)<| .seq (Zr (Zm 15 1<|
 .wk<|Zc 16 0 .nil)<| .block 0<| .loop<|Zr (Zb 17 .lss 16 15 .nil)<| .seq (.cond (.t 17) .skip (.exit 0))<| .seq (.block 1<|Zr (Zm 18 16<|
 Zm 6 18 .nil)<|Zr (Zf 19 1 5<|
 Zl 20 1 19<|
 Zn 21 20<|
 Zm 7 21 .nil)<|Zr (Zm 22 7<|
 Zm 8 22 .nil)<| .seq (.block 2<| .loop<| .seq (Zr (Zm 23 8<|
 Zm 24 0<|
 Zn 25 24<|
 Zb 26 .lss 23 25<|
 Zm 27 26<|
 Zg 27 true (.mv 28 (.t 0))<|
 Zg 27 true (.mv 29 (.t 8))<|
 Zg 27 true (.idx 30 1 (.t 28) (.t 29))<|
 Zg 27 true (.ld 31 1 false (.t 30))<|
 Zg 27 true (.mv 32 (.t 6))<|
 Zg 27 true (.idx 33 3 (.t 31) (.t 32))<|
 Zg 27 true (.ld 34 3 true (.t 33))<|
 Zg 27 true (.call (some 35) false (.c (.fn 38 [] [])) [.t 34])<|
 Zg 27 true (.bin 36 .eql false (.t 35) (.c (Zz 0)))<|
 Zo (.pick 37 (.t 27) (.t 36) (.c (.bool false))) .nil)<| .cond (.t 37) .skip (.exit 2))<| .block 3<| .rg (Zm 38 8<|
 Zk 39 .add 38 1<|
 Zm 8 39 .nil))<| .seq (Zr (Zm 40 8<|
 Zm 41 0<|
 Zn 42 41<|
 Zb 43 .eql 40 42 .nil)<| .cond (.t 43) (.exit 1) .skip)<| .seq (Zr (Zm 44 8<|
 Zm 45 7<|
 Zb 46 .neq 44 45 .nil)<| .cond (.t 46) (Zr (Zm 47 0<|
 Zm 48 8<|
 Zm 49 0<|
 Zm 50 7<|
 Zm 51 0<|
 Zm 52 7<|
 Zi 53 1 51 52<|
 Zl 54 1 53<|
 Zm 55 0<|
 Zm 56 8<|
 Zi 57 1 55 56<|
 Zl 58 1 57<|
 Zi 59 1 47 48<|
 Zs 1 59 54<|
 Zi 60 1 49 50<|
 Zs 1 60 58 .nil)<| .rg (Zf 61 2 5<|
 Zh 62 3 61<|
 Zq 63 false 62 [.t 62]<|
 Zf 64 2 5<|
 Zs 3 64 63 .nil)) .skip)<|Zr (Zm 65 0<|
 Zm 66 7<|
 Zi 67 1 65 66<|
 Zl 68 1 67<|
 Zm 69 6<|
 Zi 70 3 68 69<|
 Zh 71 3 70<|
 Zo (.alloc 9 3 51 (.agg [.bool false,.nilS,.nilS]))<|
 Zs 3 9 71 .nil)<|Zr (Zf 72 2 5<|
 Zh 73 3 72<|
 Zh 74 3 9<|
 Zq 75 false 105 [.t 73,.t 74]<|
 Zf 76 2 5<|
 Zs 3 76 75 .nil)<| .seq (Zr (Zm 77 0<|
 Zm 78 7<|
 Zi 79 1 77 78<|
 Zl 80 1 79<|
 Zn 81 80<|
 Zc 82 0 .nil)<| .block 4<| .loop<|Zr (Zb 83 .lss 82 81 .nil)<| .seq (.cond (.t 83) .skip (.exit 4))<| .seq (.block 5<|Zr (Zm 84 82<|
 Zm 10 84 .nil)<| .rg (Zm 86 0<|
 Zm 87 7<|
 Zi 88 1 86 87<|
 Zl 89 1 88<|
 Zm 90 10<|
 Zm 91 0<|
 Zm 92 7<|
 Zi 93 1 91 92<|
 Zl 94 1 93<|
 Zm 95 10<|
 Zi 96 3 94 95<|
 Zh 97 3 96<|
 Zh 98 3 9<|
 Zq 99 true 123 [.t 97,.t 98]<|
 Zm 85 99<|
 Zo (.ext 100 (.t 85) 0)<|
 Zo (.ext 101 (.t 85) 1)<|
 Zi 102 3 89 90<|
 Zs 3 102 100 .nil))<| .rg (Zk 103 .add 82 1<|
 Zm 82 103 .nil))<| .seq (Zr (Zm 104 0<|
 Zn 105 104<|
 Zc 106 0 .nil)<| .block 6<| .loop<|Zr (Zb 107 .lss 106 105 .nil)<| .seq (.cond (.t 107) .skip (.exit 6))<| .seq (.block 7<|Zr (Zm 108 106<|
 Zm 11 108 .nil)<|Zr (Zm 109 11<|
 Zm 110 7<|
 Zb 111 .neq 109 110 .nil)<| .cond (.t 111) (.rg (Zm 112 0<|
 Zm 113 11<|
 Zi 114 1 112 113<|
 Zl 115 1 114<|
 Zm 116 0<|
 Zm 117 7<|
 Zi 118 1 116 117<|
 Zl 119 1 118<|
 Zm 120 0<|
 Zm 121 11<|
 Zi 122 1 120 121<|
 Zl 123 1 122<|
 Zm 124 6<|
 Zi 125 3 123 124<|
 Zh 126 3 125<|
 Zq 127 false 117 [.t 115,.t 119,.t 126] .nil)) .skip)<| .rg (Zk 128 .add 106 1<|
 Zm 106 128 .nil))<| .rg (Zf 129 1 5<|
 Zl 130 1 129<|
 Zm 131 6<|
 Zo (.bs 132 1 3 [.t 131])<|
 Zo (.app 133 1 8 3 (.t 130) (.t 132))<|
 Zf 134 1 5<|
 Zs 1 134 133 .nil))<| .rg (Zk 135 .add 16 1<|
 Zm 16 135 .nil))<|Zr (Zh 136 5 5<|
 .wk<|Zs 5 4 136 .nil) .ret⟩
theorem Q3v:Qe Tryz.prog Tryz.f55=some c55.strip:=by kernel_rfl
theorem Q3w(n:Bool)(a d:List Nat):rv (!n) a d= -rv n a d:=by
 have e:zv (!n) a= -zv n a:=by unfold zv;cases n<;>simp
 unfold rv;rw[e,Rat.neg_mkRat]
theorem Raw.not{n:Bool}{a d:List Nat}{k:Nat}(h:Raw k n a d):Raw k (!n) a d:=⟨h.la,h.ld,h.sa,h.sd,h.k1⟩
theorem Q3x{n m:Bool}{a d b c:List Nat}{k:Nat}(hp:Raw k n a d)(hq:Raw k m b c)(hk:k<2^36):Qd Tryz.prog 181 [PV.rr n a d,PV.rr m b c] (· =PV.rat (rv n a d-rv m b c)):=by
 have h:=Qte hp hq.not hk
 rw[Q3w,<-Rat.sub_eq_add_neg]at h
 refine Qi Qt Tryz.func181 rfl Qabm (by simp[Q7b]) fun C hP=> ?_;simp only[Q7b,Zo,Zg,Zm,Zc,Zf,Zl,Zh,Zs,Zi,Zb,Zk,Zn,Zu,Zq,Zr,Zz]
 simp+decide (disch:=try exact D0) only[go_sem]
 refine Qa hP h rfl rfl rfl ?_
 simp+decide (disch:=try exact D0) only[go_sem]
 refine Qa1 ?_
 simp+decide (disch:=try exact D0) only[go_sem]
 exact Qc rfl rfl
theorem Q9o{a b:Rat}{k:Nat}(ha:rs a<=k)(hb:rs b<=k)(hk:k<2^36):Qd Tryz.prog 181 [PV.rat a,PV.rat b] (· =PV.rat (a-b)):=by
 have:=Q3x (Qcn ha) (Qcn hb) hk
 rwa[Qc6,Qc6]at this
theorem Q3y{n:Bool}{a d:List Nat}{k:Nat}(hp:Raw k n a d)(hk:k<2^36):Qd Tryz.prog 62 [PV.rr n a d] (· =PV.rat (-rv n a d)):=by
 refine Qi Qt Tryz.func62 rfl Qae2 (by simp[c62]) fun C hP=> ?_;simp only[c62,Zo,Zg,Zm,Zc,Zf,Zl,Zh,Zs,Zi,Zb,Zk,Zn,Zu,Zq,Zr,Zz]
 simp+decide (disch:=try exact D0) only[go_sem]
 refine Qcs hP (Qdp hp.la hp.ld hp.k1 hp.sa hp.sd (by omega)) rfl rfl rfl ?_
 rintro _ ⟨n',a',d',rfl,g1,g2,g3,g4,g5,g6⟩
 simp+decide (disch:=try exact D0) only[go_sem]
 refine Qa hP (Qjv (n:= !n') g1 g2 (by omega) (by omega)) rfl rfl rfl ?_
 rw[Q3w,g6]
 simp+decide (disch:=try exact D0) only[go_sem]
 refine Qa1 ?_
 simp+decide (disch:=try exact D0) only[go_sem]
 exact Qc rfl rfl
theorem Q0g{a:Rat}{k:Nat}(ha:rs a<=k)(hk:k<2^36):Qd Tryz.prog 62 [PV.rat a] (· =PV.rat (-a)):=by
 have:=Q3y (Qcn ha) hk
 rwa[Qc6]at this
theorem Qn5{x:Int}(h1: -9223372036854775808<=x)(h2:x<=9223372036854775807):Qd Tryz.prog 61 [.int .i64 x] (· =PV.rat (x:Rat)):=Q3o h1 h2
theorem Qwg{a:Rat}{k:Nat}(ha:rs a<=k)(hk:k<2^35):Qd Tryz.prog 63 [PV.rat a] (· =PV.rat (-a)):=by
 have h1:nl a.num.natAbs<=k:=by unfold rs at ha;omega
 have h2:nl a.den<=k:=by unfold rs at ha;omega
 have h3:nl (-a.num).natAbs<=k:=by rw[Int.natAbs_neg];exact h1
 have e:mkRat (-a.num) a.den= -a:=by rw[<-Rat.neg_mkRat,Rat.mkRat_self]
 have hn:=Qto (x:=a.num) (by omega)
 have ho:=Qgd (z:= -a.num) (D:=a.den) (by omega) (by omega)
 rw[e]at ho
 refine Qi Qt Tryz.func63 rfl Qafw (by simp[c63]) fun C hP=> ?_;simp only[c63,Zo,Zg,Zm,Zc,Zf,Zl,Zh,Zs,Zi,Zb,Zk,Zn,Zu,Zq,Zr,Zz]
 simp+decide (disch:=try exact D0) only[go_sem]
 refine Qa hP hn rfl rfl rfl ?_
 simp+decide (disch:=try exact D0) only[go_sem]
 refine Qa hP ho rfl rfl rfl ?_
 simp+decide (disch:=try exact D0) only[go_sem]
 refine Qa1 ?_
 simp+decide (disch:=try exact D0) only[go_sem]
 exact Qc rfl rfl
theorem Q8w{a b:Rat}{k:Nat}(ha:rs a<=k)(hb:rs b<=k)(hk:k<2^34):Qd Tryz.prog 145 [PV.rat a,PV.rat b] (· =PV.rat (a-b)):=by
 have h:=Q8o (a:=a) (b:= -b) ha (by rw[Qlp];exact hb) hk
 rw[<-Rat.sub_eq_add_neg]at h
 refine Qi Qt Tryz.func145 rfl Qacy (by simp[Q8m]) fun C hP=> ?_;simp only[Q8m,Zo,Zg,Zm,Zc,Zf,Zl,Zh,Zs,Zi,Zb,Zk,Zn,Zu,Zq,Zr,Zz]
 simp+decide (disch:=try exact D0) only[go_sem]
 refine Qa hP (Qwg hb (by omega)) rfl rfl rfl ?_
 simp+decide (disch:=try exact D0) only[go_sem]
 refine Qa hP h rfl rfl rfl ?_
 simp+decide (disch:=try exact D0) only[go_sem]
 refine Qa1 ?_
 simp+decide (disch:=try exact D0) only[go_sem]
 exact Qc rfl rfl
theorem Qri{l:List Rat}{R m:Nat}(hl:l.length=R*m)(hR:0<R)(hR2:R<=40)(hm:m<=40):
  Qbr Tryz.prog 54 [PV.mat R m l] (fun _=> .undef) hp0 (fun r F H=>r= .nso 2000000 0 R/\F 2000000= .nst 2000000 1 22 (Qx (rws 3000000 R fun _=>m))/\H 2000000=some ⟨1,22,[],false⟩/\
   ∀i,i<R->H (3000000+i)=some ⟨3,51,Qh PV.rat (Q3 l m i) m,false⟩):=by
 refine Qdb Qt Tryz.func54 rfl Q3u (by simp[c54]) fun C hP=> ?_;simp only[c54,Zo,Zg,Zm,Zc,Zf,Zl,Zh,Zs,Zi,Zb,Zk,Zn,Zu,Zq,Zr,Zz]
 simp+decide (disch:=try exact D0) only[go_sem]
 refine Qch (Qiy 7 2000000 rfl (by omega) rfl (by omega)) ?_
 simp+decide (disch:=try exact D0) only[go_sem]
 refine Qch (Qvz (γ:=2000000) (e:=1) (ty:=22) (xs:=List.replicate R .nilS) (fz:=false) T0 (by intro h;have:=congrArg List.length h;simp at this;omega) (by omega) (fun x hx=>by rw[List.eq_of_mem_replicate hx];rfl)) ?_
 rw[Q3c 3000000 R fun _=>m]
 simp+decide (disch:=try exact D0) only[go_sem]
 refine Qat (by repeat (first|exact Qw|exact Qo|exact Qp|exact Qq|exact Qr|apply Qn|apply Qv|apply Qz|apply Q6|apply Q7|apply Qk)) [(3,4),(10,36),(2000000,2000000)] [17] (fun n J hp=>∃i,n=R-i/\i<=R/\J 3= .nso 2000000 0 R/\J 10= .int .i64 (i:Nat)/\J 2000000= .nst 2000000 1 22 (Qdv 3000000 i R fun _=>m)/\
   hp 1=some ⟨3,24,[PV.mat R m l],false⟩/\hp 2000000=some ⟨1,22,[],false⟩/\(∀j,j<i->hp (3000000+j)=some ⟨3,51,Qh PV.rat (Q3 l m j) m,false⟩)/\∀j,i<=j->hp (3000000+j)=none) R ?_ ?_
 ·refine⟨0,rfl,by omega,?_⟩
  simp+decide (disch:=try exact D0) only[go_sem]
  exact⟨rfl,(fun j hj=>by omega),fun j hj=>trivial⟩
 rintro _ J h ⟨i,rfl,hi,h3,h10,hg,h1,hh,hrow,hno⟩
 simp+decide (disch:=try exact D2 h3 h10) only[go_sem,h3,h10]
 refine Qb (fun hc=> ?_) (fun hc=> ?_)
 ·have hi':i<R:=by omega
  have hfr:=hno i (Nat.le_refl _)
  simp+decide (disch:=try exact D4 h3 h10 h1 hg) only[go_sem,h3,h10,h1,hg]
  refine Qch (Qiy 17 (3000000+i) (T1 hfr) (by omega) rfl (by omega)) ?_
  have hgm:∀L,rnP (mvN 17 (3000000+i)) (.nst 2000000 1 22 (Qdv 3000000 i R L))= .nst 2000000 1 22 (Qdv 3000000 i R L):=fun L=>Qacb (by omega) (by omega) (by omega)
  simp+decide (disch:=try exact D6 h3 h10 h1 hg hh hgm) only[go_sem,h3,h10,h1,hg,hh,hgm]
  rw[Qab9 (ty:=22) (B:=3000000) (i:=i) (n:=R) (L:=fun _=>m) (e0:=1) (ty0:=22) (xs0:=[]) (T2 hg hgm) (T1 hh) hi' (by omega) rfl]
  have hld:=fun(K:Qf) (fr:Fr) (hp:HP) d=>Qaca (d:=d) (fr:=fr) (hp:=hp) (K:=K) (γ:=2000000) (j:=i) (i:=i+1) (n:=R) (ty:=22) (B:=3000000) (L:=fun _=>m)
  have hb1:(i+1)*m<=R*m:=Nat.mul_le_mul_right _ hi'
  have hb2:i*m<=(i+1)*m:=Nat.mul_le_mul_right _ (by omega)
  have e1:(i:Int)*(m:Int)=((i*m:Nat):Int):=by rw[Int.natCast_mul]
  have e2:((i:Int)+1)*(m:Int)=(((i+1)*m:Nat):Int):=by rw[Int.natCast_mul];rfl
  have hcr:=Qtj hl hi'
  have hRm:R*m<=40*40:=Nat.mul_le_mul hR2 hm
  simp+decide (disch:=try exact D9 h3 h10 h1 hg hh hgm hld e1 e2) only[go_sem,h3,h10,h1,hg,hh,hgm,hld,e1,e2]
  rw[Qahl (xs:=List.replicate m (.agg [.bool false,.nilS,.nilS])) (ty:=51) T0 (by omega) (by simp) (by rw[hcr,Qaa])]
  rw[hcr]
  simp+decide (disch:=try exact D2 h3 h10) only[go_sem,h3,h10]
  refine Qak (R-(i+1)) (by omega) ⟨i+1,rfl,by omega,?_⟩
  simp+decide (disch:=try exact D4 h3 h10 h1 hh) only[go_sem,h3,h10,h1,hh]
  refine⟨fun j hj=> ?_,fun j hj=> ?_⟩
  ·by_cases e:j=i
   ·subst e;simp+decide (disch:=try exact D0) only[go_sem]
   ·simp+decide (disch:=try exact D1 e) only[go_sem,e]
    exact hrow j (by omega)
  ·have e:¬j=i:=by omega
   simp+decide (disch:=try exact D1 e) only[go_sem,e]
   exact hno j (by omega)
 ·obtain rfl:i=R:=by omega
  rw[Q3d]at hg
  simp+decide (disch:=try exact D1 h3) only[go_sem,h3]
  refine Qmv ?_
  simp+decide (disch:=try exact D2 hg hh) only[go_sem,hg,hh]
  exact hrow
end Go.Proofs.YtkoclfmjlolkhaaGreat
namespace Go.FW
open Go
variable {C : Ctx} {ρ : Nat -> Option Nat} {fr fr' : Fr} {hp : HP} {w : World} {K R : Qf}
theorem Qbr.data{P:Program}{f:FuncId}{args:List PV}{Post:PV->Fr->HP->Prop}{Rr:PV->Prop}(k:Nat)(h:Qbr P f args (fun _=> .undef) hp0 Post)(hl:args.length<=1000000)
  (hpost:∀r F H,Post r F H->Qnx (Qfb r F) k r/\Rr (Qjw (Qfb r F) H k r)):Qd P f args Rr:=by
 refine⟨h.1,fun w X vals hX hsz hrep=> ?_⟩
 let C:Ctx:=Ctx.plain P args.length w X hX hl
 have hsim:Q4 C (fun _=>none) (Qky args fun _=> .undef) hp0 vals w:=by
  refine⟨hsz,Ext.refl _ _,(fun _ _ h=>by cases h),by simp[hp0],by simp[hp0],fun i=> ?_⟩
  unfold Qky
  split
  ·cases hi:args[i]? with
   |none=>trivial
   |some p=>
    simp only[Option.getD_some]
    refine Qm.ofData ((hrep i p hi).mono (fun _ _ _=>rfl) (fun b _ hn hx=> ?_) (Nat.le_refl _))
    rcases hx with hx|⟨_,_,h1,_⟩
    ·exact hn hx
    ·simp[hp0]at h1
  ·trivial
 refine(h.2 C _ vals w rfl rfl rfl hsim).mono ?_
 rintro e w' ⟨v,ρ',r,F,H,rfl,hs,hp⟩
 obtain⟨h1,h2⟩:=hpost r F H hp
 have hr0:Qfb r F 0=r:=rfl
 obtain⟨ρ2,hs2⟩:=Qv1 (fr:=Qfb r F) (hp:=H) 0 k (by rw[hr0];exact h1) (C.setN 1 (by decide)) #[v] w' ⟨ρ',hs⟩
 refine⟨v,_,rfl,Ctx.plain_ext hs2.ext,?_,h2⟩
 have hsl:=hs2.slots 0
 rw[hr0]at hsl
 have e1:upd (Qfb r F) 0 (Qjw (Qfb r F) H k r) 0=Qjw (Qfb r F) H k r:=by simp[upd]
 rw[e1]at hsl
 have hd:Qco w' (Xof C ρ2 (Q9 H (Qsi (Qfb r F) k r))) (Qjw (Qfb r F) H k r) v:=by
  cases r with
  |rag cs=>exact hsl
  | nso γ o n=>
   cases k with
   |zero=>cases h1
   | succ k=>
    simp only[Qnx,okD]at h1
    split at h1
    ·rename_i hγ
     simp only[Qjw,dsn,hγ]at hsl⊢
     exact hsl
    ·exact h1.elim
  |_=>cases h1
 exact hd.mono (fun _ _ _=>rfl) (fun b _ hn hx=>hn (.inl hx)) (Nat.le_refl _)
theorem Qtp{γ ty n:Nat}{l:List (Nat×Nat)}(hγ:fr γ= .nst γ 1 ty (Qx l))(hn:n=l.length)(h2:2000000<=γ)(hl:∀x∈l,2000000<=x.1):Qnx fr 2 (.nso γ 0 n):=by
 simp only[Qnx,okD,hγ]
 refine⟨trivial,by simp[isY];omega,by simp[Qx,hn],fun x hx c hc=> ?_⟩
 obtain⟨y,hy,rfl⟩:=List.mem_map.1 (List.mem_of_mem_drop (List.mem_of_mem_take hx))
 obtain rfl:c= .mso y.1 0 y.2:=by simpa[PV.ncells,PV.cells]using hc
 have:=hl y hy
 simp only[okD,isY];simp;omega
theorem Qwh{γ ty n e':Nat}{l:List (Nat×Nat)}(hγ:fr γ= .nst γ 1 ty (Qx l))(hn:n=l.length)(ys:Nat->List PV)(hh:∀x∈l,∃ty' fz,hp x.1=some ⟨e',ty',ys x.1,fz⟩):
  Qjw fr hp 2 (.nso γ 0 n)= .sl 1 (l.map fun x=> .sl e' ((ys x.1).take x.2)):=by
 simp only[Qjw,dsn,hγ,List.drop_zero]
 rw[List.take_of_length_le (by simp[Qx,hn])]
 simp only[Qx,List.map_map]
 congr 1
 refine List.map_congr_left fun x hx=> ?_
 obtain⟨ty',fz,h⟩:=hh x hx
 simp[Function.comp,PV.ncells,PV.cells,mkA,dsn,h]
theorem Q0h {P : Program} {f : FuncId} {fn : Func} {sf : SFn} {args : List PV} {Rr : PV -> Prop} (hm : P.follows .mixedOrders = true) (hf : P.funcs[f]? = some fn) (hname : (fn.name != "runtime.NumGoroutine") = true) (hc : Qe P fn = some sf.strip) (hn : args.length <= sf.n /\ sf.n <= 1000000)
  (hv:∀C:Ctx,C.P=P->C.N=sf.n->vc C (Qmu (Qdc sf.rs Rr)) [.c sf.body] (Qfp args) hp0):Qd P f args Rr:=by
 simp only[Qe,Option.bind_eq_some_iff,Option.map_eq_some_iff]at hc
 obtain⟨c,hb,sb,hcb,rs,hrs,hsf⟩:=hc
 obtain⟨n,rs',body⟩:=sf
 simp only[SFn.strip,SFn.mk.injEq]at hsf
 obtain⟨rfl,rfl,rfl⟩:=hsf
 refine⟨by simp[Qjo,hf,hb];simpa using hname,fun w X vals hX hsz hrep=> ?_⟩
 let C:Ctx:=Ctx.plain P fn.ntmps w X hX hn.2
 refine calls_of_wp hf hb ?_
 have hsz':(vals++Array.replicate (fn.ntmps-vals.size) undef).size=fn.ntmps:=by simp at hn ⊢;omega
 have hsim:Sim C (Qfp args) hp0 (vals++Array.replicate (fn.ntmps-vals.size) undef) w:=by
  refine⟨fun _=>none,hsz',Ext.refl _ _,(fun _ _ h=>by cases h),by simp[hp0],by simp[hp0],fun i=> ?_⟩
  unfold Qfp
  cases hi:args[i]? with
  |none=>trivial
  | some p=>
   simp only[Option.getD_some]
   have hil:i<vals.size:=by rw[hsz];exact(List.getElem?_eq_some_iff.1 hi).1
   have hr:=hrep i p hi
   have e:(vals++Array.replicate (fn.ntmps-vals.size) undef).getD i undef=vals.getD i undef:=by
    rw[Qbb,if_pos hil]
   rw[e]
   refine Qm.ofData (hr.mono (fun _ _ _=>rfl) (fun b _ hn hx=> ?_) (Nat.le_refl _))
   rcases hx with hx|⟨_,_,h1,_⟩
   ·exact hn hx
   ·simp[hp0]at h1
 have fin:∀(fr:Fr)(hp:HP)(a:Act)(w':World),a.defers=[]->Sim C fr hp a.tmps w'->Qmu (Qdc rs Rr) fr hp->
   a.defers=[]/\∃v,(results fn a.tmps).run P w'= .ok v w'/\∃v' r,Ending.returned v= .returned v'/\Ext Qbd w w'/\Qco w' X r v'/\Rr r:=by
  rintro fr hp a w' hd hs0 ⟨fr1,hp1,hw,hr⟩
  obtain⟨ρ,hs⟩:=hw C _ _ hs0
  obtain⟨v,r,h1,h2,h3⟩:=Qsv (C:=C) rfl hrs hs hr
  exact⟨hd,v,h1,v,r,rfl,Ctx.plain_ext hs.ext,h2,h3⟩
 exact Qkp (C:=C) (R:=Qmu (Qdc rs Rr)) hm c body [] _ (Qfp args) hp0 _ w hcb ⟨fun fr hp a w' hd hs hv=>(by rw[Qif]at hv;exact fin fr hp a w' hd hs hv),fun id sk' he=>(by simp[FW.Qah]at he),fin⟩ rfl hsim (hv C rfl rfl)
theorem Qcz {P : Program} {f : FuncId} {fn : Func} {sf : SFn} {args : List PV} {Rr : PV -> Prop} (hm : P.follows .mixedOrders = true) (hf : P.funcs[f]? = some fn) (hname : (fn.name != "runtime.NumGoroutine") = true) (hc : Qe P fn = some sf.strip) (hn : args.length <= sf.n /\ sf.n <= 1000000)
  (hv:∀C:Ctx,C.P=P->vc C (Qmu (Qdc sf.rs Rr)) [.c sf.body] (Qfp args) hp0):Qd P f args Rr:=
 Q0h hm hf hname hc hn fun C h _=>hv C h
theorem Qkh{Post:PV->Fr->HP->Prop}(h:Post (.tup []) fr hp):Qjx [] Post fr hp:=by
 refine Qd4 ?_
 simp only[Qdc,List.flatMap_nil,Qqo]
 exact⟨by simp,_,Q40 _,h⟩
theorem Qac5{ty w i d:Nat}{fz:Bool}{f:Nat->Rat}(h:i<w):ldM (some ⟨3,ty,Qh PV.rat f w,fz⟩) 3 true i 0 d fr hp K=K (upd fr d (PV.rat (f i))) hp:=by
 rw[Qih (by rw[Qaa];exact h) (by omega) (by simp),Qc7];rfl
theorem Qfm{ty β w i:Nat}{f:Nat->Rat}{v:Rat}(h:i<w):stM (some ⟨3,ty,Qh PV.rat f w,false⟩) β 3 i 0 (PV.rat v) fr hp K=K fr (Qg hp β ⟨3,ty,Qh PV.rat (fun c=>if c=i then v else f c) w,false⟩):=by
 have e:=Qe5 (fr:=fr) (hp:=hp) (K:=K) (n:=3) (ty:=ty) (β:=β) (i:=i) (xs:=Qh PV.rat f w) (v:=PV.rat v) (by rw[Qaa];exact h) rfl rfl
 rw[Qv4 (g:=fun c=>if c=i then v else f c) fun k _=>rfl]at e
 exact e
theorem Qm2{e ty:Nat}{xs ys:List PV}{fz:Bool}(h:xs=ys):HB.mk e ty xs fz=HB.mk e ty ys fz:=by rw[h]
theorem Qlw:(Qfc (.tup [])=True)/\(∀(k:IntKind)(n:Int),Qfc (.int k n)=True)/\(∀b:Bool,Qfc (.bool b)=True)/\(∀(e:Nat)(xs:List PV),Qfc (.sl e xs)=True)/\(∀cs:List PV,Qfc (.agg cs)=True)/\(∀cs:List PV,Qfc (.tup cs)=True):=by
 refine⟨?_,?_,?_,?_,?_,?_⟩<;>intros<;>simp[Qfc,PV.refs,PV.sref,rnP,rn1]
attribute [go_sem] Qlw Qac5
end Go.FW
