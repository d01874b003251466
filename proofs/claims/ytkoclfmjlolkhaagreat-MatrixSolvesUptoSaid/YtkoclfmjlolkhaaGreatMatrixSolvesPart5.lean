/- Part 5 of the proof of MatrixSolves: L1, CM, CP, R3, R4, M1, M2, P1, P2, P3, P8, CS2, CS3, CU, W1, W2, W3, CS, S1, S2, S3, S4, S5, S6, S7, S8, S9, T1, T1b, T1c, T1d, U1, U2, P4, U3, CL, U4, U7, U8, U10, W4, W5, FwUD. Own lemmas; no conditions. -/
import Derived.Test.YtkoclfmjlolkhaaGreatMatrixSolvesPart4
set_option linter.unusedSimpArgs false
set_option linter.unusedVariables false
set_option linter.unnecessarySimpa false
set_option maxRecDepth 100000
namespace Go.Proofs.YtkoclfmjlolkhaaGreat
open Go Go.FW Go.ChangeShapes Go.WideShapes Go.ChangeAt Go.RowKit
variable {H : Type} {enc : TypeId × Value -> H}
def I64(x:Int):Prop:= -9223372036854775808<=x/\x<=9223372036854775807
theorem Q3k:Rd enc 24 fun ps=>∃(r c:Int)(l:List RQ),ps=(PV.rmat r c l).cells/\I64 r/\I64 c/\Qbs l:=by
 refine(Qv9 (Qs:=[fun ps=>∃n:Int,ps=[.int .i64 n]/\ -9223372036854775808<=n/\n<=9223372036854775807,fun ps=>∃n:Int,ps=[.int .i64 n]/\ -9223372036854775808<=n/\n<=9223372036854775807,fun ps=>∃l:List RQ,ps=[PV.rqs l]/\Qbs l]) Qbt Tryz.underlying24 (by kernel_rfl) ⟨rfl,Qtb Tryz.underlying3,by kernel_rfl,Qtb Tryz.underlying3,by kernel_rfl,Qyi,trivial⟩).mono ?_
 rintro ps ⟨p,q,rfl,⟨r,rfl,h1⟩,p2,q2,rfl,⟨c,rfl,h2⟩,p3,q3,rfl,⟨l,rfl,h3⟩,rfl⟩
 exact⟨r,c,l,rfl,h1,h2,h3⟩
variable {w : World} {base : Nat} {spare : Nat -> Bool} {held : Bool} {r : Reach} {b0 : Nat} {v : Value} {d : DataW H} {ps : List MemPlace}
theorem Qz9(Qc5:Value.okWide Tryz.prog w r b0 24 v)(hd:DataW.Trod enc Tryz.prog w base spare held 24 v d ps)(hn:Rows.uptoBulk d<=1048576):∃r c l,Qag w Qbd (PV.rmat r c l) v/\I64 r/\I64 c/\Qbs l:=by
 obtain⟨p,⟨r,c,l,rfl,h1,h2,h3⟩,h4⟩:=Qzv Tryz.underlying24 Qc5 Q3k hd hn
 exact⟨r,c,l,h4,h1,h2,h3⟩
end Go.Proofs.YtkoclfmjlolkhaaGreat
namespace Go.Proofs.YtkoclfmjlolkhaaGreat
open Go Go.FW
theorem Q3l{n m:Bool}{a d b c:List Nat}{k:Nat}(hp:Raw k n a d)(hq:Raw k m b c)(hk:k<2^36):Qd Tryz.prog 105 [PV.rr n a d,PV.rr m b c] (· =PV.rat (rv n a d*rv m b c)):=by
 refine Qi Qt Tryz.func105 rfl Qabn (by simp[Q7c]) fun C hP=> ?_;simp only[Q7c,Zo,Zg,Zm,Zc,Zf,Zl,Zh,Zs,Zi,Zb,Zk,Zn,Zu,Zq,Zr,Zz]
 simp+decide (disch:=try exact D0) only[go_sem]
 refine Qcs hP (Qdp hp.la hp.ld hp.k1 hp.sa hp.sd (by omega)) rfl rfl rfl ?_
 rintro _ ⟨n',a',d',rfl,g1,g2,g3,g4,g5,g6⟩
 simp+decide (disch:=try exact D0) only[go_sem]
 refine Qcs hP (Qdp hq.la hq.ld hq.k1 hq.sa hq.sd (by omega)) rfl rfl rfl ?_
 rintro _ ⟨m',b',c',rfl,e1,e2,e3,e4,e5,e6⟩
 simp+decide (disch:=try exact D0) only[go_sem]
 have hza:nl (zv n' a').natAbs<=k:=by rw[Qbe];exact Nat.le_trans (Qam g1) g3
 have hzb:nl (zv m' b').natAbs<=k:=by rw[Qbe];exact Nat.le_trans (Qam e1) e3
 have hvd:nl (val d')<=k:=Nat.le_trans (Qam g2) g4
 have hvc:nl (val c')<=k:=Nat.le_trans (Qam e2) e4
 have h3:=Qar (zv n' a') (zv m' b')
 have h6:=Qfy (val d') (val c')
 refine Qa hP (Qd1 (n:=n') (m:=m') g1 e1 (by omega) (by omega)) rfl rfl rfl ?_
 simp+decide (disch:=try exact D0) only[go_sem]
 refine Qa hP (Qmr g2 e2 (by omega) (by omega)) rfl rfl rfl ?_
 simp+decide (disch:=try exact D0) only[go_sem]
 refine Qa hP (Qix (z:=zv n' a'*zv m' b') (Ql _) (by omega) (by show nl _<_;omega)) rfl rfl rfl ?_
 simp+decide (disch:=try exact D0) only[go_sem]
 refine Qa1 ?_
 simp+decide (disch:=try exact D0) only[go_sem]
 refine Qc ?_ rfl
 rw[Q5,<-g6,<-e6]
 unfold rv
 rw[Rat.mkRat_mul_mkRat]
theorem Qm0{n:Bool}{a d:List Nat}{k:Nat}(hp:Raw k n a d)(hk:k<2^36):Qd Tryz.prog 38 [PV.rr n a d] (· = .int .i64 (Qd0 (rv n a d))):=by
 refine Qi Qt Tryz.func38 rfl Qae1 (by simp[c38]) fun C hP=> ?_;simp only[c38,Zo,Zg,Zm,Zc,Zf,Zl,Zh,Zs,Zi,Zb,Zk,Zn,Zu,Zq,Zr,Zz]
 simp+decide (disch:=try exact D0) only[go_sem]
 refine Qcs hP (Qdp hp.la hp.ld hp.k1 hp.sa hp.sd (by omega)) rfl rfl rfl ?_
 rintro _ ⟨n',a',d',rfl,g1,g2,g3,g4,g5,g6⟩
 simp+decide (disch:=try exact D0) only[go_sem]
 refine Qa hP (Qh5 g1 (by omega)) rfl rfl rfl ?_
 simp+decide (disch:=try exact D0) only[go_sem]
 exact Qc (by rw[<-g6];unfold rv;rw[Q2q g5]) rfl
theorem Q3m{n m:Bool}{a d b c:List Nat}{k:Nat}(hp:Raw k n a d)(hq:Raw k m b c)(hk:k<2^36):Qd Tryz.prog 204 [PV.rr n a d,PV.rr m b c] (· = .int .i64 (Qkr (rv n a d) (rv m b c))):=by
 refine Qi Qt Tryz.func204 rfl Qabi (by simp[Q67]) fun C hP=> ?_;simp only[Q67,Zo,Zg,Zm,Zc,Zf,Zl,Zh,Zs,Zi,Zb,Zk,Zn,Zu,Zq,Zr,Zz]
 simp+decide (disch:=try exact D0) only[go_sem]
 refine Qa hP (Qm0 hp hk) rfl rfl rfl ?_
 simp+decide (disch:=try exact D0) only[go_sem]
 refine Qa hP (Qm0 hq hk) rfl rfl rfl ?_
 simp+decide (disch:=try exact D0) only[go_sem]
 refine Qb (fun h1=> ?_) (fun h1=> ?_)
 ·simp+decide (disch:=try exact D0) only[go_sem]
  refine Qb (fun h2=> ?_) (fun h2=> ?_)
  ·simp+decide (disch:=try exact D0) only[go_sem]
   exact Qc (by rw[Qvm h2]) rfl
  ·simp+decide (disch:=try exact D0) only[go_sem]
   exact Qc (by rw[Q52 (by omega)]) rfl
 simp+decide (disch:=try exact D0) only[go_sem]
 refine Qcs hP (Qdp hp.la hp.ld hp.k1 hp.sa hp.sd (by omega)) rfl rfl rfl ?_
 rintro _ ⟨n',a',d',rfl,g1,g2,g3,g4,g5,g6⟩
 simp+decide (disch:=try exact D0) only[go_sem]
 refine Qcs hP (Qdp hq.la hq.ld hq.k1 hq.sa hq.sd (by omega)) rfl rfl rfl ?_
 rintro _ ⟨m',b',c',rfl,e1,e2,e3,e4,e5,e6⟩
 have hza:nl (zv n' a').natAbs<=k:=by rw[Qbe];exact Nat.le_trans (Qam g1) g3
 have hzb:nl (zv m' b').natAbs<=k:=by rw[Qbe];exact Nat.le_trans (Qam e1) e3
 have hvd:nl (val d')<=k:=Nat.le_trans (Qam g2) g4
 have hvc:nl (val c')<=k:=Nat.le_trans (Qam e2) e4
 have h3:=Qar (zv n' a') (val c')
 have h4:=Qar (zv m' b') (val d')
 rw[Int.natAbs_natCast]at h3 h4
 simp+decide (disch:=try exact D0) only[go_sem]
 refine Qa hP (Qej _) rfl rfl rfl ?_
 simp+decide (disch:=try exact D0) only[go_sem]
 refine Qa hP (Qd1 (n:=n') (m:=false) g1 e2 (by omega) (by omega)) rfl rfl rfl ?_
 simp+decide (disch:=try exact D0) only[go_sem]
 refine Qa hP (Qej _) rfl rfl rfl ?_
 simp+decide (disch:=try exact D0) only[go_sem]
 refine Qa hP (Qd1 (n:=m') (m:=false) e1 g2 (by omega) (by omega)) rfl rfl rfl ?_
 rw[Qf1,Qf1]
 simp+decide (disch:=try exact D0) only[go_sem]
 refine Qa hP (Q7i (x:=zv n' a'*(val c':Int)) (y:=zv m' b'*(val d':Int)) (by omega) (by omega)) rfl rfl rfl ?_
 simp+decide (disch:=try exact D0) only[go_sem]
 exact Qc (by rw[<-g6,<-e6];unfold rv;rw[Qx9 g5 e5]) rfl
theorem Qxg{n m:Bool}{a d b c:List Nat}{k:Nat}(hp:Raw k n a d)(hq:Raw k m b c)(hk:k<2^36):Qd Tryz.prog 179 [PV.rr n a d,PV.rr m b c] (· = .bool (decide (rv n a d=rv m b c))):=by
 refine Qi Qt Tryz.func179 rfl Qabj (by simp[Q68]) fun C hP=> ?_;simp only[Q68,Zo,Zg,Zm,Zc,Zf,Zl,Zh,Zs,Zi,Zb,Zk,Zn,Zu,Zq,Zr,Zz]
 simp+decide (disch:=try exact D0) only[go_sem]
 refine Qa hP (Q3m hp hq hk) rfl rfl rfl ?_
 simp+decide (disch:=try exact D0) only[go_sem]
 exact Qc (congrArg PV.bool (decide_eq_decide.2 Qs4)) rfl
theorem Q3n{x:Int}(h1: -9223372036854775808<=x)(h2:x<=9223372036854775807):Qd Tryz.prog 127 [.int .i64 x] (· =PV.zz x):=by
 refine Qi Qt Tryz.func127 rfl Qaa6 (by simp[Q6v]) fun C hP=> ?_;simp only[Q6v,Zo,Zg,Zm,Zc,Zf,Zl,Zh,Zs,Zi,Zb,Zk,Zn,Zu,Zq,Zr,Zz]
 simp+decide (disch:=try exact D0) only[go_sem]
 refine Qb (fun hc=> ?_) (fun hc=> ?_)
 ·obtain⟨y,hy⟩:∃y:Nat,x= -((y:Int)+1):=⟨(-(x+1)).toNat,by omega⟩
  have e1:IntKind.i64.wrap (x+1)= -(y:Int):=by rw[Qgt (by omega) (by omega)];omega
  have e2:IntKind.i64.wrap (0- -(y:Int))=(y:Int):=by rw[Qgt (by omega) (by omega)];omega
  have e3:IntKind.u64.wrap (y:Int)=(y:Int):=Qe8 (by omega) (by omega)
  have e4:IntKind.u64.wrap ((y+1:Nat):Int)=((y+1:Nat):Int):=Qe8 (by omega) (by omega)
  simp+decide (disch:=try exact D4 e1 e2 e3 e4) only[go_sem,e1,e2,e3,e4]
  refine Qa hP (Qor (by omega)) rfl rfl rfl ?_
  simp+decide (disch:=try exact D0) only[go_sem]
  refine Qa hP (Qfl true (y+1)) rfl rfl rfl ?_
  simp+decide (disch:=try exact D0) only[go_sem]
  refine Qa1 ?_
  simp+decide (disch:=try exact D0) only[go_sem]
  exact Qc (congrArg PV.zz (by simp;omega)) rfl
 ·obtain⟨y,rfl⟩:∃y:Nat,x=y:=⟨x.toNat,by omega⟩
  simp+decide (disch:=try exact D0) only[go_sem]
  refine Qa hP (Qor (by omega)) rfl rfl rfl ?_
  simp+decide (disch:=try exact D0) only[go_sem]
  refine Qa hP (Qfl false y) rfl rfl rfl ?_
  simp+decide (disch:=try exact D0) only[go_sem]
  refine Qa1 ?_
  simp+decide (disch:=try exact D0) only[go_sem]
  exact Qc (congrArg PV.zz (by simp)) rfl
theorem Q3o{x:Int}(h1: -9223372036854775808<=x)(h2:x<=9223372036854775807):Qd Tryz.prog 61 [.int .i64 x] (· =PV.rat (x:Rat)):=by
 refine Qi Qt Tryz.func61 rfl Qae0 (by simp[c61]) fun C hP=> ?_;simp only[c61,Zo,Zg,Zm,Zc,Zf,Zl,Zh,Zs,Zi,Zb,Zk,Zn,Zu,Zq,Zr,Zz]
 simp+decide (disch:=try exact D0) only[go_sem]
 refine Qa hP (Q3n h1 h2) rfl rfl rfl ?_
 simp+decide (disch:=try exact D0) only[go_sem]
 refine Qa hP Qkf rfl rfl rfl ?_
 simp+decide (disch:=try exact D0) only[go_sem]
 refine Qa1 ?_
 simp+decide (disch:=try exact D0) only[go_sem]
 exact Qc (by rw[PV.rat,Rat.num_intCast,Rat.den_intCast,PV.num,PV.num,Qga];rfl) rfl
theorem Qwa{n:Bool}{a:List Nat}(ha:Qj a)(hla:a.length<2^42):Qd Tryz.prog 185 [PV.zi n a] (· = .bool (Qgc n a)):=by
 refine Qi Qt Tryz.func185 rfl Qaa4 (by simp[Q6t]) fun C hP=> ?_;simp only[Q6t,Zo,Zg,Zm,Zc,Zf,Zl,Zh,Zs,Zi,Zb,Zk,Zn,Zu,Zq,Zr,Zz]
 simp+decide (disch:=try exact D0) only[go_sem]
 refine Qbq (fun h0=> ?_) (fun h0=> ?_)
 ·have:a=[]:=List.length_eq_zero_iff.1 (by omega)
  subst this
  simp+decide (disch:=try exact D0) only[go_sem]
  cases n
  ·simp+decide (disch:=try exact D0) only[go_sem]
   refine Qc (congrArg PV.bool ?_) rfl
   simp[Qgc]
  ·simp+decide (disch:=try exact D0) only[go_sem]
   refine Qc (congrArg PV.bool ?_) rfl
   simp[Qgc]
 ·obtain⟨k,hk⟩:∃k,a.length=k+1:=⟨a.length-1,by omega⟩
  have hne:a≠[]:=fun h=>by rw[h]at hk;simp at hk
  have hl:=Qpc hk
  have e:((k+1:Nat):Int)-1=k:=by omega
  generalize hx:a[k]'(by omega)=x at *
  simp+decide (disch:=try exact D3 hk e hx) only[go_sem,hk,e,hx]
  refine Qbq (fun h=> ?_) (fun h=>absurd (by omega) h)
  simp+decide (disch:=try exact D3 hk e hx) only[go_sem,hk,e,hx]
  refine Qc (congrArg PV.bool ?_) rfl
  unfold Qgc
  rw[if_neg hne,hl]
  exact decide_eq_decide.2 ⟨fun h h'=>h (by injection h' with h';rw[h'];rfl),fun h h'=>h (by rw[show x=0 by omega])⟩
theorem Qxh{n:Bool}{a d:List Nat}{k:Nat}(hp:Raw k n a d)(hk:k<2^36):Qd Tryz.prog 122 [PV.rr n a d] (· = .bool (Qgn n a d)):=by
 obtain⟨ha,hd,sa,sd,k1⟩:=hp
 refine Qi Qt Tryz.func122 rfl Qabh (by simp[Q66]) fun C hP=> ?_;simp only[Q66,Zo,Zg,Zm,Zc,Zf,Zl,Zh,Zs,Zi,Zb,Zk,Zn,Zu,Zq,Zr,Zz]
 simp+decide (disch:=try exact D0) only[go_sem]
 refine Qa hP (Qwa ha (by omega)) rfl rfl rfl ?_
 unfold Qgn
 simp+decide (disch:=try exact D0) only[go_sem]
 cases hio:Qgc n a
 ·simp+decide (disch:=first|omega|rfl|(simp+decide only[go_sem,Bool.not_false]<;>rfl)|fail) only[go_sem,Bool.not_false]
  exact Qc (by simp) rfl
 rw[Bool.true_and]
 simp+decide (disch:=first|omega|rfl|(simp+decide only[go_sem,Bool.not_true]<;>rfl)|fail) only[go_sem,Bool.not_true]
 refine Qa9 (fun h0=> ?_) (fun h0=> ?_)
 ·have:d=[]:=List.length_eq_zero_iff.1 (by omega)
  subst this
  simp+decide (disch:=try exact D0) only[go_sem]
  exact Qc (by simp) rfl
 obtain⟨k',hk'⟩:∃k,d.length=k+1:=⟨d.length-1,by omega⟩
 have hne:d≠[]:=fun h=>by rw[h]at hk';simp at hk'
 have hl:=Qpc hk'
 have e:((k'+1:Nat):Int)-1=k':=by omega
 generalize hx:d[k']'(by omega)=x at *
 simp+decide (disch:=try exact D3 hk' e hx) only[go_sem,hk',e,hx]
 refine Qb (fun h1=> ?_) (fun h1=> ?_)
 ·simp+decide (disch:=try exact D0) only[go_sem]
  refine Qc (congrArg PV.bool ?_) rfl
  rw[hl,show x=0 by omega];simp
 have hx0:x≠0:=by omega
 simp+decide (disch:=try exact D0) only[go_sem]
 refine Qa hP (Qmt (by omega)) rfl rfl rfl ?_
 simp+decide (disch:=try exact D0) only[go_sem]
 refine Qa9 (fun h2=> ?_) (fun h2=> ?_)
 ·subst h2
  simp+decide (disch:=try exact D0) only[go_sem]
  refine Qc (congrArg PV.bool ?_) rfl
  simp[val]
 ·simp+decide (disch:=try exact D0) only[go_sem]
  refine Qa hP (Qvw ha hd (by omega) (by omega)) rfl rfl rfl ?_
  have hD:0<val d:=by
   apply Nat.pos_of_ne_zero
   intro h0
   have hdd:=Qlh hd (by rw[hl];simpa using hx0)
   rw[h0,Qa2]at hdd
   exact hne hdd.symm
  have hgl:(dig (Nat.gcd (val a) (val d))).length<2^43:=by
   have h3:=Qb0 (Nat.gcd_le_right (val a) hD)
   have h4:=Qam hd
   unfold nl at h3 h4;omega
  simp+decide (disch:=try exact D0) only[go_sem]
  refine Qa hP (Qsg hgl) rfl rfl rfl ?_
  simp+decide (disch:=try exact D0) only[go_sem]
  refine Qc (congrArg PV.bool ?_) rfl
  rw[hl];simp[hne,hx0]
theorem Q0a{a b:Rat}{k:Nat}(ha:rs a<=k)(hb:rs b<=k)(hk:k<2^36):Qd Tryz.prog 107 [PV.rat a,PV.rat b] (· =PV.rat (a+b)):=by
 have:=Qte (Qcn ha) (Qcn hb) hk
 rwa[Qc6,Qc6]at this
theorem Qow{a b:Rat}{k:Nat}(ha:rs a<=k)(hb:rs b<=k)(hk:k<2^36):Qd Tryz.prog 105 [PV.rat a,PV.rat b] (· =PV.rat (a*b)):=by
 have:=Q3l (Qcn ha) (Qcn hb) hk
 rwa[Qc6,Qc6]at this
theorem Qacd{a b:Rat}{k:Nat}(ha:rs a<=k)(hb:rs b<=k)(hk:k<2^36):Qd Tryz.prog 179 [PV.rat a,PV.rat b] (· = .bool (decide (a=b))):=by
 have:=Qxg (Qcn ha) (Qcn hb) hk
 rwa[Qc6,Qc6]at this
theorem Qlu{a:Rat}(ha:rs a<2^36):Qd Tryz.prog 38 [PV.rat a] (· = .int .i64 (Qd0 a)):=by
 have:=Qm0 (Qcn (Nat.le_refl (rs a))) ha
 rwa[Qc6]at this
def c51:SFn:=⟨19,[.cell 4 3 true],Zr (Zo (.alloc 4 3 51 (.agg [.bool false,.nilS,.nilS])) .nil)<|Zr (Zm 8 0<|
 Zq 9 false 120 [.t 8]<|
 Zm 10 1<|
 Zq 11 false 120 [.t 10]<|
 Zq 12 false 121 [.t 9,.t 11]<|
 Zm 7 12<|
 Zo (.ext 13 (.t 7) 0)<|
 Zo (.ext 14 (.t 7) 1)<|
 Zo (.alloc 5 3 51 (.agg [.bool false,.nilS,.nilS]))<|
 Zs 3 5 13<|
 Zm 6 14 .nil)<| .seq (Zr (Zm 15 6<|
 Zk 16 .neq 15 0 .nil)<| .cond (.t 16) (Zr (Zq 17 false 50 [.c (Zz 0)]<|
 Zs 3 4 17 .nil) .ret) .skip)<|Zr (Zh 18 3 5<|
 Zs 3 4 18 .nil) .ret⟩
theorem Qafk:Qe Tryz.prog Tryz.f51=some c51:=by kernel_rfl
def Q72:SFn:=⟨24,[.t 2],Zr (Zo (.mv 2 (.c .nilS)) .nil)<|Zr (Zm 5 0<|
 Zn 6 5<|
 Zm 3 6 .nil)<| .seq (.block 0<| .loop<| .seq (Zr (Zm 7 3<|
 Zk 8 .gtr 7 0<|
 Zm 9 8<|
 Zg 9 true (.mv 10 (.t 0))<|
 Zg 9 true (.mv 11 (.t 3))<|
 Zg 9 true (.bin 12 .sub false (.t 11) (.c (Zz 1)))<|
 Zg 9 true (.idx 13 1 (.t 10) (.t 12))<|
 Zg 9 true (.ld 14 1 false (.t 13))<|
 Zg 9 true (.bin 15 .eql false (.t 14) (.c (.int .u16 0)))<|
 Zo (.pick 16 (.t 9) (.t 15) (.c (.bool false))) .nil)<| .cond (.t 16) .skip (.exit 0))<| .block 1<| .rg (Zm 17 3<|
 Zk 18 .sub 17 1<|
 Zm 3 18 .nil))<|Zr (Zo (.mv 4 (.c .nilS)) .nil)<|Zr (Zm 19 4<|
 Zm 20 0<|
 Zm 21 3<|
 Zo (.sl 22 1 (.t 20) none (some (.t 21)) none)<|
 Zo (.app 23 1 2 155 (.t 19) (.t 22))<|
 Zm 2 23 .nil) .ret⟩
theorem Qace:Qe Tryz.prog Tryz.f146=some Q72:=by kernel_rfl
def c84:SFn:=⟨15,[.t 2],Zr (Zo (.mv 2 (.c .nilS)) .nil)<|Zr (Zo (.mv 3 (.c .nilS)) .nil)<| .seq (.block 0<| .loop<| .seq (Zr (Zm 4 0<|
 Zo (.bin 5 .gtr false (.t 4) (.c (.int .u64 0))) .nil)<| .cond (.t 5) .skip (.exit 0))<| .block 1<|Zr (Zm 6 3<|
 Zm 7 0<|
 Zo (.bin 8 .rem false (.t 7) (.c (.int .u64 65536)))<|
 Zo (.conv 9 .u16 (.t 8))<|
 Zo (.bs 10 1 155 [.t 9])<|
 Zo (.app 11 1 2 155 (.t 6) (.t 10))<|
 Zm 3 11 .nil)<| .rg (Zm 12 0<|
 Zo (.bin 13 .quo false (.t 12) (.c (.int .u64 65536)))<|
 Zm 0 13 .nil))<|Zr (Zm 14 3<|
 Zm 2 14 .nil) .ret⟩
theorem Qafl:Qe Tryz.prog Tryz.f84=some c84:=by kernel_rfl
def Q73:SFn:=⟨21,[.t 2],Zr (Zo (.mv 2 (.c (.int .u64 0))) .nil)<|Zr (Zo (.mv 3 (.c (.int .u64 0))) .nil)<| .seq (Zr (Zm 5 0<|
 Zn 6 5<|
 Zk 7 .sub 6 1<|
 Zm 4 7 .nil)<| .block 0<| .loop<| .seq (Zr (Zm 8 4<|
 Zk 9 .geq 8 0 .nil)<| .cond (.t 9) .skip (.exit 0))<| .seq (.block 1<| .rg (Zm 12 3<|
 Zo (.bin 13 .mul false (.t 12) (.c (.int .u64 65536)))<|
 Zm 14 0<|
 Zm 15 4<|
 Zi 16 1 14 15<|
 Zl 17 1 16<|
 Zo (.conv 18 .u64 (.t 17))<|
 Zb 19 .add 13 18<|
 Zm 3 19 .nil))<| .rg (Zm 10 4<|
 Zk 11 .sub 10 1<|
 Zm 4 11 .nil))<|Zr (Zm 20 3<|
 Zm 2 20 .nil) .ret⟩
theorem Qacf:Qe Tryz.prog Tryz.f197=some Q73:=by kernel_rfl
def Q74:SFn:=⟨14,[.t 4],Zr (Zc 4 0 .nil)<| .seq (Zr (Zm 5 1<|
 Zm 6 0<|
 Zn 7 6<|
 Zb 8 .lss 5 7 .nil)<| .cond (.t 8) (Zr (Zm 9 0<|
 Zm 10 1<|
 Zi 11 1 9 10<|
 Zl 12 1 11<|
 Zo (.conv 13 .i64 (.t 12))<|
 Zm 4 13 .nil) .ret) .skip)<|Zr (Zc 4 0 .nil) .ret⟩
theorem Qacg:Qe Tryz.prog Tryz.f200=some Q74:=by kernel_rfl
def Q75:SFn:=⟨30,[.t 4],Zr (Zc 4 0 .nil)<| .seq (Zr (Zm 6 0<|
 Zn 7 6<|
 Zm 8 1<|
 Zn 9 8<|
 Zo (.mx 10 (.t 7) (.t 9))<|
 Zk 11 .sub 10 1<|
 Zm 5 11 .nil)<| .block 0<| .loop<| .seq (Zr (Zm 12 5<|
 Zk 13 .geq 12 0 .nil)<| .cond (.t 13) .skip (.exit 0))<| .seq (.block 1<| .seq (Zr (Zm 16 0<|
 Zm 17 5<|
 Zq 18 false 200 [.t 16,.t 17]<|
 Zm 19 1<|
 Zm 20 5<|
 Zq 21 false 200 [.t 19,.t 20]<|
 Zb 22 .lss 18 21 .nil)<| .cond (.t 22) (Zr (Zc 4 (-1) .nil) .ret) .skip)<|Zr (Zm 23 0<|
 Zm 24 5<|
 Zq 25 false 200 [.t 23,.t 24]<|
 Zm 26 1<|
 Zm 27 5<|
 Zq 28 false 200 [.t 26,.t 27]<|
 Zb 29 .gtr 25 28 .nil)<| .cond (.t 29) (Zr (Zc 4 1 .nil) .ret) .skip)<| .rg (Zm 14 5<|
 Zk 15 .sub 14 1<|
 Zm 5 15 .nil))<|Zr (Zc 4 0 .nil) .ret⟩
theorem Qach:Qe Tryz.prog Tryz.f215=some Q75:=by kernel_rfl
def Q76:SFn:=⟨44,[.t 4],Zr (Zo (.mv 4 (.c .nilS)) .nil)<|Zr (Zo (.mv 5 (.c .nilS)) .nil)<|Zr (Zc 6 0 .nil)<| .seq (Zr (Zc 7 0 .nil)<| .block 0<| .loop<| .seq (Zr (Zm 9 7<|
 Zm 10 0<|
 Zn 11 10<|
 Zb 12 .lss 9 11<|
 Zm 13 12<|
 Zg 13 false (.mv 14 (.t 7))<|
 Zg 13 false (.mv 15 (.t 1))<|
 Zg 13 false (.len 16 (.t 15))<|
 Zg 13 false (.bin 17 .lss false (.t 14) (.t 16))<|
 Zo (.pick 18 (.t 13) (.c (.bool true)) (.t 17))<|
 Zm 19 18<|
 Zg 19 false (.mv 20 (.t 6))<|
 Zg 19 false (.bin 21 .gtr false (.t 20) (.c (Zz 0)))<|
 Zo (.pick 22 (.t 19) (.c (.bool true)) (.t 21)) .nil)<| .cond (.t 22) .skip (.exit 0))<| .seq (.block 1<|Zr (Zm 25 0<|
 Zm 26 7<|
 Zq 27 false 200 [.t 25,.t 26]<|
 Zm 28 1<|
 Zm 29 7<|
 Zq 30 false 200 [.t 28,.t 29]<|
 Zb 31 .add 27 30<|
 Zm 32 6<|
 Zb 33 .add 31 32<|
 Zm 8 33 .nil)<|Zr (Zm 34 5<|
 Zm 35 8<|
 Zk 36 .rem 35 65536<|
 Zo (.conv 37 .u16 (.t 36))<|
 Zo (.bs 38 1 155 [.t 37])<|
 Zo (.app 39 1 2 155 (.t 34) (.t 38))<|
 Zm 5 39 .nil)<| .rg (Zm 40 8<|
 Zk 41 .quo 40 65536<|
 Zm 6 41 .nil))<| .rg (Zm 23 7<|
 Zk 24 .add 23 1<|
 Zm 7 24 .nil))<|Zr (Zm 42 5<|
 Zq 43 false 146 [.t 42]<|
 Zm 4 43 .nil) .ret⟩
theorem Qaci:Qe Tryz.prog Tryz.f184=some Q76:=by kernel_rfl
def Q77:SFn:=⟨40,[.t 4,.t 5],Zr (Zo (.mv 4 (.c .nilS))<|
 Zc 5 0 .nil)<| .seq (Zr (Zm 10 0<|
 Zm 11 1<|
 Zq 12 false 215 [.t 10,.t 11]<|
 Zk 13 .lss 12 0 .nil)<| .cond (.t 13) (Zr (Zo (.mv 4 (.c .nilS))<|
 Zc 5 2 .nil) .ret) .skip)<|Zr (Zo (.mv 6 (.c .nilS)) .nil)<|Zr (Zc 7 0 .nil)<| .seq (Zr (Zc 8 0 .nil)<| .block 0<| .loop<| .seq (Zr (Zm 14 8<|
 Zm 15 0<|
 Zn 16 15<|
 Zb 17 .lss 14 16 .nil)<| .cond (.t 17) .skip (.exit 0))<| .seq (.block 1<|Zr (Zm 20 0<|
 Zm 21 8<|
 Zq 22 false 200 [.t 20,.t 21]<|
 Zm 23 1<|
 Zm 24 8<|
 Zq 25 false 200 [.t 23,.t 24]<|
 Zb 26 .sub 22 25<|
 Zm 27 7<|
 Zb 28 .sub 26 27<|
 Zm 9 28 .nil)<|Zr (Zc 7 0 .nil)<| .seq (Zr (Zm 29 9<|
 Zk 30 .lss 29 0 .nil)<| .cond (.t 30) (Zr (Zm 31 9<|
 Zk 32 .add 31 65536<|
 Zm 9 32 .nil)<| .rg (Zc 7 1 .nil)) .skip)<| .rg (Zm 33 6<|
 Zm 34 9<|
 Zo (.conv 35 .u16 (.t 34))<|
 Zo (.bs 36 1 155 [.t 35])<|
 Zo (.app 37 1 2 155 (.t 33) (.t 36))<|
 Zm 6 37 .nil))<| .rg (Zm 18 8<|
 Zk 19 .add 18 1<|
 Zm 8 19 .nil))<|Zr (Zm 38 6<|
 Zq 39 false 146 [.t 38]<|
 Zm 4 39<|
 Zc 5 0 .nil) .ret⟩
theorem Qacj:Qe Tryz.prog Tryz.f199=some Q77:=by kernel_rfl
def Q78:SFn:=⟨65,[.t 4],Zr (Zo (.mv 4 (.c .nilS)) .nil)<|Zr (Zm 10 0<|
 Zn 11 10<|
 Zm 12 1<|
 Zn 13 12<|
 Zb 14 .add 11 13<|
 Zk 15 .add 14 1<|
 Zo (.mk 16 1 2 155 (.int .u16 0) (.t 15) (.t 15))<|
 Zm 5 16 .nil)<| .seq (Zr (Zc 6 0 .nil)<| .block 0<| .loop<| .seq (Zr (Zm 17 6<|
 Zm 18 0<|
 Zn 19 18<|
 Zb 20 .lss 17 19 .nil)<| .cond (.t 20) .skip (.exit 0))<| .seq (.block 1<|Zr (Zo (.mv 7 (.c (.int .u64 0))) .nil)<|Zr (Zc 8 0 .nil)<| .block 2<| .loop<| .seq (Zr (Zm 23 8<|
 Zm 24 1<|
 Zn 25 24<|
 Zb 26 .lss 23 25<|
 Zm 27 26<|
 Zg 27 false (.mv 28 (.t 7))<|
 Zg 27 false (.bin 29 .gtr false (.t 28) (.c (.int .u64 0)))<|
 Zo (.pick 30 (.t 27) (.c (.bool true)) (.t 29)) .nil)<| .cond (.t 30) .skip (.exit 2))<| .seq (.block 3<|Zr (Zm 33 5<|
 Zm 34 6<|
 Zm 35 8<|
 Zb 36 .add 34 35<|
 Zi 37 1 33 36<|
 Zl 38 1 37<|
 Zo (.conv 39 .u64 (.t 38))<|
 Zm 40 0<|
 Zm 41 6<|
 Zi 42 1 40 41<|
 Zl 43 1 42<|
 Zo (.conv 44 .u64 (.t 43))<|
 Zm 45 1<|
 Zm 46 8<|
 Zm 51 7<|
 Zq 47 true 200 [.t 45,.t 46]<|
 Zo (.conv 48 .u64 (.t 47))<|
 Zb 49 .mul 44 48<|
 Zb 50 .add 39 49<|
 Zb 52 .add 50 51<|
 Zm 9 52 .nil)<|Zr (Zm 53 5<|
 Zm 54 6<|
 Zm 55 8<|
 Zb 56 .add 54 55<|
 Zm 57 9<|
 Zo (.bin 58 .rem false (.t 57) (.c (.int .u64 65536)))<|
 Zo (.conv 59 .u16 (.t 58))<|
 Zi 60 1 53 56<|
 Zs 1 60 59 .nil)<| .rg (Zm 61 9<|
 Zo (.bin 62 .quo false (.t 61) (.c (.int .u64 65536)))<|
 Zm 7 62 .nil))<| .rg (Zm 31 8<|
 Zk 32 .add 31 1<|
 Zm 8 32 .nil))<| .rg (Zm 21 6<|
 Zk 22 .add 21 1<|
 Zm 6 22 .nil))<|Zr (Zm 63 5<|
 Zq 64 false 146 [.t 63]<|
 Zm 4 64 .nil) .ret⟩
theorem Qack:Qe Tryz.prog Tryz.f149=some Q78:=by kernel_rfl
def Q79:SFn:=⟨27,[.t 4],Zr (Zo (.mv 4 (.c (.int .u64 0))) .nil)<|Zr (Zo (.mv 5 (.c (.int .u64 0)))<|
 Zo (.mv 6 (.c (.int .u64 65535))) .nil)<| .seq (.block 0<| .loop<| .seq (Zr (Zm 8 5<|
 Zm 9 6<|
 Zb 10 .lss 8 9 .nil)<| .cond (.t 10) .skip (.exit 0))<| .block 1<|Zr (Zm 11 5<|
 Zm 12 6<|
 Zb 13 .add 11 12<|
 Zo (.bin 14 .add false (.t 13) (.c (.int .u64 1)))<|
 Zo (.bin 15 .quo false (.t 14) (.c (.int .u64 2)))<|
 Zm 7 15 .nil)<|Zr (Zm 16 1<|
 Zm 17 7<|
 Zq 18 false 84 [.t 17]<|
 Zq 19 false 149 [.t 16,.t 18]<|
 Zm 20 0<|
 Zq 21 false 215 [.t 19,.t 20]<|
 Zk 22 .leq 21 0 .nil)<| .cond (.t 22) (.rg (Zm 23 7<|
 Zm 5 23 .nil)) (.rg (Zm 24 7<|
 Zo (.bin 25 .sub false (.t 24) (.c (.int .u64 1)))<|
 Zm 6 25 .nil)))<|Zr (Zm 26 5<|
 Zm 4 26 .nil) .ret⟩
theorem Qacl:Qe Tryz.prog Tryz.f198=some Q79:=by kernel_rfl
def Q8a:SFn:=⟨73,[.t 4,.t 5,.t 6],Zr (Zo (.mv 4 (.c .nilS))<|
 Zo (.mv 5 (.c .nilS))<|
 Zc 6 0 .nil)<|Zr (Zm 11 0<|
 Zq 12 false 146 [.t 11]<|
 Zm 13 1<|
 Zq 14 false 146 [.t 13]<|
 Zm 0 12<|
 Zm 1 14 .nil)<| .seq (Zr (Zm 15 1<|
 Zn 16 15<|
 Zk 17 .eql 16 0 .nil)<| .cond (.t 17) (Zr (Zo (.mv 4 (.c .nilS))<|
 Zo (.mv 5 (.c .nilS))<|
 Zc 6 3 .nil) .ret) .skip)<| .seq (Zr (Zm 18 0<|
 Zn 19 18<|
 Zk 20 .leq 19 4<|
 Zm 21 20<|
 Zg 21 true (.mv 22 (.t 1))<|
 Zg 21 true (.len 23 (.t 22))<|
 Zg 21 true (.bin 24 .leq false (.t 23) (.c (Zz 4)))<|
 Zo (.pick 25 (.t 21) (.t 24) (.c (.bool false))) .nil)<| .cond (.t 25) (Zr (Zm 26 0<|
 Zq 27 false 197 [.t 26]<|
 Zm 28 1<|
 Zq 29 false 197 [.t 28]<|
 Zb 30 .quo 27 29<|
 Zq 31 false 84 [.t 30]<|
 Zm 32 0<|
 Zq 33 false 197 [.t 32]<|
 Zm 34 1<|
 Zq 35 false 197 [.t 34]<|
 Zb 36 .rem 33 35<|
 Zq 37 false 84 [.t 36]<|
 Zm 4 31<|
 Zm 5 37<|
 Zc 6 0 .nil) .ret) .skip)<|Zr (Zo (.mv 7 (.c .nilS))<|
 Zo (.mv 8 (.c .nilS)) .nil)<| .seq (Zr (Zm 38 0<|
 Zn 39 38<|
 Zk 40 .sub 39 1<|
 Zm 9 40 .nil)<| .block 0<| .loop<| .seq (Zr (Zm 41 9<|
 Zk 42 .geq 41 0 .nil)<| .cond (.t 42) .skip (.exit 0))<| .seq (.block 1<|Zr (Zm 45 0<|
 Zm 46 9<|
 Zi 47 1 45 46<|
 Zl 48 1 47<|
 Zo (.bs 49 1 155 [.t 48])<|
 Zm 50 8<|
 Zo (.app 51 1 2 155 (.t 49) (.t 50))<|
 Zq 52 false 146 [.t 51]<|
 Zm 8 52 .nil)<|Zr (Zm 53 8<|
 Zm 54 1<|
 Zq 55 false 198 [.t 53,.t 54]<|
 Zm 10 55 .nil)<|Zr (Zm 56 10<|
 Zo (.conv 57 .u16 (.t 56))<|
 Zo (.bs 58 1 155 [.t 57])<|
 Zm 59 7<|
 Zo (.app 60 1 2 155 (.t 58) (.t 59))<|
 Zm 7 60 .nil)<| .rg (Zm 62 8<|
 Zm 63 1<|
 Zm 64 10<|
 Zq 65 false 84 [.t 64]<|
 Zq 66 false 149 [.t 63,.t 65]<|
 Zq 67 false 199 [.t 62,.t 66]<|
 Zm 61 67<|
 Zo (.ext 68 (.t 61) 0)<|
 Zo (.ext 69 (.t 61) 1)<|
 Zm 8 68 .nil))<| .rg (Zm 43 9<|
 Zk 44 .sub 43 1<|
 Zm 9 44 .nil))<|Zr (Zm 70 7<|
 Zq 71 false 146 [.t 70]<|
 Zm 72 8<|
 Zm 4 71<|
 Zm 5 72<|
 Zc 6 0 .nil) .ret⟩
theorem Qacm:Qe Tryz.prog Tryz.f147=some Q8a:=by kernel_rfl
def c83:SFn:=⟨25,[.t 4],Zr (Zo (.mv 4 (.c .nilS)) .nil)<|Zr (Zm 8 0<|
 Zq 9 false 146 [.t 8]<|
 Zm 10 1<|
 Zq 11 false 146 [.t 10]<|
 Zm 0 9<|
 Zm 1 11 .nil)<| .seq (.block 0<| .loop<| .seq (Zr (Zm 12 1<|
 Zn 13 12<|
 Zk 14 .gtr 13 0 .nil)<| .cond (.t 14) .skip (.exit 0))<| .block 1<|Zr (Zm 16 0<|
 Zm 17 1<|
 Zq 18 false 147 [.t 16,.t 17]<|
 Zm 15 18<|
 Zo (.ext 19 (.t 15) 0)<|
 Zo (.ext 20 (.t 15) 1)<|
 Zo (.ext 21 (.t 15) 2)<|
 Zm 5 19<|
 Zm 6 20<|
 Zm 7 21 .nil)<| .rg (Zm 22 1<|
 Zm 23 6<|
 Zm 0 22<|
 Zm 1 23 .nil))<|Zr (Zm 24 0<|
 Zm 4 24 .nil) .ret⟩
theorem Qafm:Qe Tryz.prog Tryz.f83=some c83:=by kernel_rfl
def c81:SFn:=⟨15,[.t 2],Zr (Zo (.mv 2 (.c (.bool false))) .nil)<|Zr (Zm 3 0<|
 Zn 4 3<|
 Zk 5 .eql 4 0<|
 Zm 6 5<|
 Zg 6 false (.mv 7 (.t 0))<|
 Zg 6 false (.mv 8 (.t 0))<|
 Zg 6 false (.len 9 (.t 8))<|
 Zg 6 false (.bin 10 .sub false (.t 9) (.c (Zz 1)))<|
 Zg 6 false (.idx 11 1 (.t 7) (.t 10))<|
 Zg 6 false (.ld 12 1 false (.t 11))<|
 Zg 6 false (.bin 13 .neq false (.t 12) (.c (.int .u16 0)))<|
 Zo (.pick 14 (.t 6) (.c (.bool true)) (.t 13))<|
 Zm 2 14 .nil) .ret⟩
theorem Qafn:Qe Tryz.prog Tryz.f81=some c81:=by kernel_rfl
def c82:SFn:=⟨26,[.t 4],Zr (Zo (.mv 4 (.c (.bool false))) .nil)<| .seq (Zr (Zm 6 0<|
 Zn 7 6<|
 Zm 8 1<|
 Zn 9 8<|
 Zb 10 .neq 7 9 .nil)<| .cond (.t 10) (Zr (Zo (.mv 4 (.c (.bool false))) .nil) .ret) .skip)<| .seq (Zr (Zc 5 0 .nil)<| .block 0<| .loop<| .seq (Zr (Zm 11 5<|
 Zm 12 0<|
 Zn 13 12<|
 Zb 14 .lss 11 13 .nil)<| .cond (.t 14) .skip (.exit 0))<| .seq (.block 1<|Zr (Zm 17 0<|
 Zm 18 5<|
 Zi 19 1 17 18<|
 Zl 20 1 19<|
 Zm 21 1<|
 Zm 22 5<|
 Zi 23 1 21 22<|
 Zl 24 1 23<|
 Zb 25 .neq 20 24 .nil)<| .cond (.t 25) (Zr (Zo (.mv 4 (.c (.bool false))) .nil) .ret) .skip)<| .rg (Zm 15 5<|
 Zk 16 .add 15 1<|
 Zm 5 16 .nil))<|Zr (Zo (.mv 4 (.c (.bool true))) .nil) .ret⟩
theorem Qafo:Qe Tryz.prog Tryz.f82=some c82:=by kernel_rfl
def c80:SFn:=⟨17,[.t 2],Zr (Zo (.box 1 2 49 (.t 0))<|
 Zo (.mv 2 (.c (.bool false))) .nil)<|Zr (Zf 3 1 1<|
 Zl 4 1 3<|
 Zq 5 false 81 [.t 4]<|
 Zm 6 5<|
 Zg 6 true (.fld 7 0 (.t 1))<|
 Zg 6 true (.ld 8 1 false (.t 7))<|
 Zg 6 true (.mv 9 (.t 8))<|
 Zg 9 true (.fld 10 1 (.t 1))<|
 Zg 9 true (.ld 11 1 false (.t 10))<|
 Zg 9 true (.len 12 (.t 11))<|
 Zg 9 true (.bin 13 .eql false (.t 12) (.c (Zz 0)))<|
 Zg 6 true (.pick 14 (.t 9) (.t 13) (.c (.bool false)))<|
 Zg 6 true (.un 15 .not (.t 14))<|
 Zo (.pick 16 (.t 6) (.t 15) (.c (.bool false)))<|
 Zm 2 16 .nil) .ret⟩
theorem Qafp:Qe Tryz.prog Tryz.f80=some c80:=by kernel_rfl
def Q8b:SFn:=⟨15,[.cell 4 2 true],Zr (Zo (.alloc 4 2 49 (.agg [.bool false,.nilS])) .nil)<|Zr (Zm 5 1<|
 Zq 6 false 146 [.t 5]<|
 Zm 1 6 .nil)<|Zr (Zm 7 0<|
 Zm 8 7<|
 Zg 8 true (.mv 9 (.t 1))<|
 Zg 8 true (.len 10 (.t 9))<|
 Zg 8 true (.bin 11 .gtr false (.t 10) (.c (Zz 0)))<|
 Zo (.pick 12 (.t 8) (.t 11) (.c (.bool false)))<|
 Zm 13 1<|
 Zo (.bld 14 [.bool false,.nilS] [(0,1,.t 12),(1,1,.t 13)])<|
 Zs 2 4 14 .nil) .ret⟩
theorem Qacn:Qe Tryz.prog Tryz.f183=some Q8b:=by kernel_rfl
def Q8c:SFn:=⟨8,[.cell 2 2 true],Zr (Zo (.box 1 2 49 (.t 0))<|
 Zo (.alloc 2 2 49 (.agg [.bool false,.nilS])) .nil)<|Zr (Zf 3 0 1<|
 Zl 4 1 3<|
 Zf 5 1 1<|
 Zl 6 1 5<|
 Zq 7 false 183 [.t 4,.t 6]<|
 Zs 2 2 7 .nil) .ret⟩
theorem Qaco:Qe Tryz.prog Tryz.f152=some Q8c:=by kernel_rfl
def Q8d:SFn:=⟨17,[.cell 2 2 true],Zr (Zo (.alloc 2 2 49 (.agg [.bool false,.nilS])) .nil)<| .seq (Zr (Zm 3 0<|
 Zk 4 .lss 3 0 .nil)<| .cond (.t 4) (Zr (Zm 5 0<|
 Zk 6 .add 5 1<|
 Zo (.un 7 .neg (.t 6))<|
 Zo (.conv 8 .u64 (.t 7))<|
 Zq 9 false 84 [.t 8]<|
 Zq 10 false 84 [.c (.int .u64 1)]<|
 Zq 11 false 184 [.t 9,.t 10]<|
 Zq 12 false 183 [.c (.bool true),.t 11]<|
 Zs 2 2 12 .nil) .ret) .skip)<|Zr (Zm 13 0<|
 Zo (.conv 14 .u64 (.t 13))<|
 Zq 15 false 84 [.t 14]<|
 Zq 16 false 183 [.c (.bool false),.t 15]<|
 Zs 2 2 16 .nil) .ret⟩
theorem Qacp:Qe Tryz.prog Tryz.f120=some Q8d:=by kernel_rfl
def c88:SFn:=⟨11,[.t 2],Zr (Zo (.box 1 2 49 (.t 0))<|
 Zc 2 0 .nil)<|Zr (Zh 3 2 1<|
 Zq 4 false 152 [.t 3]<|
 Zs 2 1 4 .nil)<| .seq (Zr (Zf 5 1 1<|
 Zl 6 1 5<|
 Zn 7 6<|
 Zk 8 .eql 7 0 .nil)<| .cond (.t 8) (Zr (Zc 2 0 .nil) .ret) .skip)<| .seq (Zr (Zf 9 0 1<|
 Zl 10 1 9 .nil)<| .cond (.t 10) (Zr (Zc 2 (-1) .nil) .ret) .skip)<|Zr (Zc 2 1 .nil) .ret⟩
theorem Qafq:Qe Tryz.prog Tryz.f88=some c88:=by kernel_rfl
def Q8e:SFn:=⟨38,[.t 4],Zr (Zo (.box 2 2 49 (.t 0))<|
 Zo (.box 3 2 49 (.t 1))<|
 Zc 4 0 .nil)<|Zr (Zh 5 2 2<|
 Zh 7 2 3<|
 Zq 6 true 152 [.t 5]<|
 Zq 8 true 152 [.t 7]<|
 Zs 2 2 6<|
 Zs 2 3 8 .nil)<| .seq (.block 0<|Zr (Zf 10 0 2<|
 Zl 11 1 10<|
 Zm 12 11<|
 Zg 12 true (.fld 13 0 (.t 3))<|
 Zg 12 true (.ld 14 1 false (.t 13))<|
 Zg 12 true (.un 15 .not (.t 14))<|
 Zo (.pick 16 (.t 12) (.t 15) (.c (.bool false)))<|
 Zm 9 16 .nil)<| .cond (.t 9) (Zr (Zc 4 (-1) .nil) .ret) (Zr (Zf 18 0 3<|
 Zl 19 1 18<|
 Zm 20 19<|
 Zg 20 true (.fld 21 0 (.t 2))<|
 Zg 20 true (.ld 22 1 false (.t 21))<|
 Zg 20 true (.un 23 .not (.t 22))<|
 Zo (.pick 24 (.t 20) (.t 23) (.c (.bool false)))<|
 Zm 17 24 .nil)<| .cond (.t 17) (Zr (Zc 4 1 .nil) .ret) (Zr (Zf 26 0 2<|
 Zl 27 1 26<|
 Zm 25 27 .nil)<| .cond (.t 25) (Zr (Zf 28 1 3<|
 Zl 29 1 28<|
 Zf 30 1 2<|
 Zl 31 1 30<|
 Zq 32 false 215 [.t 29,.t 31]<|
 Zm 4 32 .nil) .ret) .skip)))<|Zr (Zf 33 1 2<|
 Zl 34 1 33<|
 Zf 35 1 3<|
 Zl 36 1 35<|
 Zq 37 false 215 [.t 34,.t 36]<|
 Zm 4 37 .nil) .ret⟩
theorem Qacq:Qe Tryz.prog Tryz.f182=some Q8e:=by kernel_rfl
def Q8f:SFn:=⟨9,[.cell 2 2 true],Zr (Zo (.box 1 2 49 (.t 0))<|
 Zo (.alloc 2 2 49 (.agg [.bool false,.nilS])) .nil)<|Zr (Zf 3 0 1<|
 Zl 4 1 3<|
 Zu 5 4<|
 Zf 6 1 1<|
 Zl 7 1 6<|
 Zq 8 false 183 [.t 5,.t 7]<|
 Zs 2 2 8 .nil) .ret⟩
theorem Qacr:Qe Tryz.prog Tryz.f130=some Q8f:=by kernel_rfl
def Q8g:SFn:=⟨48,[.cell 4 2 true],Zr (Zo (.box 2 2 49 (.t 0))<|
 Zo (.box 3 2 49 (.t 1))<|
 Zo (.alloc 4 2 49 (.agg [.bool false,.nilS])) .nil)<| .seq (Zr (Zf 9 0 2<|
 Zl 10 1 9<|
 Zf 11 0 3<|
 Zl 12 1 11<|
 Zo (.bin 13 .eql true (.t 10) (.t 12)) .nil)<| .cond (.t 13) (Zr (Zf 14 0 2<|
 Zl 15 1 14<|
 Zf 16 1 2<|
 Zl 17 1 16<|
 Zf 18 1 3<|
 Zl 19 1 18<|
 Zq 20 true 184 [.t 17,.t 19]<|
 Zq 21 true 183 [.t 15,.t 20]<|
 Zs 2 4 21 .nil) .ret) .skip)<| .seq (Zr (Zf 23 1 2<|
 Zl 24 1 23<|
 Zf 25 1 3<|
 Zl 26 1 25<|
 Zq 27 false 199 [.t 24,.t 26]<|
 Zm 22 27<|
 Zo (.ext 28 (.t 22) 0)<|
 Zo (.ext 29 (.t 22) 1)<|
 Zm 5 28<|
 Zm 6 29 .nil)<|Zr (Zm 30 6<|
 Zk 31 .eql 30 0 .nil)<| .cond (.t 31) (Zr (Zf 32 0 2<|
 Zl 33 1 32<|
 Zm 34 5<|
 Zq 35 false 183 [.t 33,.t 34]<|
 Zs 2 4 35 .nil) .ret) .skip)<|Zr (Zf 37 1 3<|
 Zl 38 1 37<|
 Zf 39 1 2<|
 Zl 40 1 39<|
 Zq 41 false 199 [.t 38,.t 40]<|
 Zm 36 41<|
 Zo (.ext 42 (.t 36) 0)<|
 Zo (.ext 43 (.t 36) 1)<|
 Zm 7 42<|
 Zm 8 43 .nil)<|Zr (Zf 44 0 3<|
 Zl 45 1 44<|
 Zm 46 7<|
 Zq 47 false 183 [.t 45,.t 46]<|
 Zs 2 4 47 .nil) .ret⟩
theorem Qacs:Qe Tryz.prog Tryz.f150=some Q8g:=by kernel_rfl
def Q8h:SFn:=⟨16,[.cell 4 2 true],Zr (Zo (.box 2 2 49 (.t 0))<|
 Zo (.box 3 2 49 (.t 1))<|
 Zo (.alloc 4 2 49 (.agg [.bool false,.nilS])) .nil)<|Zr (Zf 5 0 2<|
 Zl 6 1 5<|
 Zf 7 0 3<|
 Zl 8 1 7<|
 Zo (.bin 9 .neq true (.t 6) (.t 8))<|
 Zf 10 1 2<|
 Zl 11 1 10<|
 Zf 12 1 3<|
 Zl 13 1 12<|
 Zq 14 true 149 [.t 11,.t 13]<|
 Zq 15 true 183 [.t 9,.t 14]<|
 Zs 2 4 15 .nil) .ret⟩
theorem Qact:Qe Tryz.prog Tryz.f148=some Q8h:=by kernel_rfl
def c25:SFn:=⟨27,[.t 2],Zr (Zo (.box 1 3 51 (.t 0))<|
 Zo (.mv 2 (.c (.bool false))) .nil)<|Zr (Zf 3 0 1<|
 Zh 4 2 3<|
 Zq 5 false 80 [.t 4]<|
 Zm 6 5<|
 Zg 6 true (.fld 7 2 (.t 1))<|
 Zg 6 true (.ld 8 1 false (.t 7))<|
 Zg 6 true (.call (some 9) false (.c (.fn 81 [] [])) [.t 8])<|
 Zo (.pick 10 (.t 6) (.t 9) (.c (.bool false)))<|
 Zm 11 10<|
 Zg 11 true (.fld 12 0 (.t 1))<|
 Zg 11 true (.fld 13 1 (.t 12))<|
 Zg 11 true (.ld 14 1 false (.t 13))<|
 Zg 11 true (.fld 15 2 (.t 1))<|
 Zg 11 true (.ld 16 1 false (.t 15))<|
 Zg 11 true (.call (some 17) false (.c (.fn 83 [] [])) [.t 14,.t 16])<|
 Zg 11 true (.call (some 18) false (.c (.fn 84 [] [])) [.c (.int .u64 1)])<|
 Zg 11 true (.call (some 19) false (.c (.fn 82 [] [])) [.t 17,.t 18])<|
 Zo (.pick 20 (.t 11) (.t 19) (.c (.bool false)))<|
 Zm 21 20<|
 Zg 21 true (.fld 22 2 (.t 1))<|
 Zg 21 true (.ld 23 1 false (.t 22))<|
 Zg 21 true (.len 24 (.t 23))<|
 Zg 21 true (.bin 25 .gtr false (.t 24) (.c (Zz 0)))<|
 Zo (.pick 26 (.t 21) (.t 25) (.c (.bool false)))<|
 Zm 2 26 .nil) .ret⟩
theorem Qafr:Qe Tryz.prog Tryz.f25=some c25:=by kernel_rfl
def Q8i:SFn:=⟨44,[.cell 4 3 true],Zr (Zo (.box 2 2 49 (.t 0))<|
 Zo (.alloc 4 3 51 (.agg [.bool false,.nilS,.nilS])) .nil)<| .seq (Zr (Zm 12 1<|
 Zq 13 false 146 [.t 12]<|
 Zn 14 13<|
 Zk 15 .eql 14 0 .nil)<| .cond (.t 15) (Zr (Zq 16 false 84 [.c (.int .u64 1)]<|
 Zo (.bld 17 [.bool false,.nilS,.nilS] [(2,1,.t 16)])<|
 Zs 3 4 17 .nil) .ret) .skip)<|Zr (Zf 18 1 2<|
 Zl 19 1 18<|
 Zm 20 1<|
 Zq 21 false 83 [.t 19,.t 20]<|
 Zm 5 21 .nil)<|Zr (Zf 23 1 2<|
 Zl 24 1 23<|
 Zm 25 5<|
 Zq 26 false 147 [.t 24,.t 25]<|
 Zm 22 26<|
 Zo (.ext 27 (.t 22) 0)<|
 Zo (.ext 28 (.t 22) 1)<|
 Zo (.ext 29 (.t 22) 2)<|
 Zm 6 27<|
 Zm 7 28<|
 Zm 8 29 .nil)<|Zr (Zm 31 1<|
 Zm 32 5<|
 Zq 33 false 147 [.t 31,.t 32]<|
 Zm 30 33<|
 Zo (.ext 34 (.t 30) 0)<|
 Zo (.ext 35 (.t 30) 1)<|
 Zo (.ext 36 (.t 30) 2)<|
 Zm 9 34<|
 Zm 10 35<|
 Zm 11 36 .nil)<|Zr (Zf 37 0 2<|
 Zl 38 1 37<|
 Zm 39 6<|
 Zo (.bld 40 [.bool false,.nilS] [(0,1,.t 38),(1,1,.t 39)])<|
 Zq 41 false 152 [.t 40]<|
 Zm 42 9<|
 Zo (.bld 43 [.bool false,.nilS,.nilS] [(0,2,.t 41),(2,1,.t 42)])<|
 Zs 3 4 43 .nil) .ret⟩
theorem Qacu:Qe Tryz.prog Tryz.f119=some Q8i:=by kernel_rfl
def c89:SFn:=⟨8,[.cell 2 3 true],Zr (Zo (.box 1 3 51 (.t 0))<|
 Zo (.alloc 2 3 51 (.agg [.bool false,.nilS,.nilS])) .nil)<|Zr (Zf 3 0 1<|
 Zh 4 2 3<|
 Zf 5 2 1<|
 Zl 6 1 5<|
 Zq 7 false 119 [.t 4,.t 6]<|
 Zs 3 2 7 .nil) .ret⟩
theorem Qafs:Qe Tryz.prog Tryz.f89=some c89:=by kernel_rfl
def Q8j:SFn:=⟨18,[.cell 4 3 true,.t 5],Zr (Zo (.box 2 2 49 (.t 0))<|
 Zo (.box 3 2 49 (.t 1))<|
 Zo (.alloc 4 3 51 (.agg [.bool false,.nilS,.nilS]))<|
 Zc 5 0 .nil)<| .seq (Zr (Zh 6 2 3<|
 Zq 7 false 88 [.t 6]<|
 Zk 8 .eql 7 0 .nil)<| .cond (.t 8) (Zr (Zo (.bld 9 [.bool false,.nilS,.nilS] [])<|
 Zs 3 4 9<|
 Zc 5 3 .nil) .ret) .skip)<| .seq (Zr (Zf 10 0 3<|
 Zl 11 1 10 .nil)<| .cond (.t 11) (.rg (Zh 12 2 2<|
 Zq 13 false 130 [.t 12]<|
 Zs 2 2 13 .nil)) .skip)<|Zr (Zh 14 2 2<|
 Zf 15 1 3<|
 Zl 16 1 15<|
 Zq 17 false 119 [.t 14,.t 16]<|
 Zs 3 4 17<|
 Zc 5 0 .nil) .ret⟩
theorem Qacv:Qe Tryz.prog Tryz.f121=some Q8j:=by kernel_rfl
def c50:SFn:=⟨7,[.cell 2 3 true],Zr (Zo (.alloc 2 3 51 (.agg [.bool false,.nilS,.nilS])) .nil)<|Zr (Zm 3 0<|
 Zq 4 false 120 [.t 3]<|
 Zq 5 false 84 [.c (.int .u64 1)]<|
 Zq 6 false 119 [.t 4,.t 5]<|
 Zs 3 2 6 .nil) .ret⟩
theorem Qaft:Qe Tryz.prog Tryz.f50=some c50:=by kernel_rfl
def Q8k:SFn:=⟨5,[.cell 2 2 true],Zr (Zo (.alloc 2 2 49 (.agg [.bool false,.nilS])) .nil)<|Zr (Zm 3 0<|
 Zo (.bld 4 [.bool false,.nilS] [(1,1,.t 3)])<|
 Zs 2 2 4 .nil) .ret⟩
theorem Qacw:Qe Tryz.prog Tryz.f151=some Q8k:=by kernel_rfl
def c27:SFn:=⟨7,[.t 2],Zr (Zo (.box 1 3 51 (.t 0))<|
 Zc 2 0 .nil)<|Zr (Zh 3 3 1<|
 Zq 4 false 89 [.t 3]<|
 Zo (.fldv 5 0 2 true (.t 4))<|
 Zq 6 false 88 [.t 5]<|
 Zm 2 6 .nil) .ret⟩
theorem Qafu:Qe Tryz.prog Tryz.f27=some c27:=by kernel_rfl
def Q8l:SFn:=⟨22,[.t 4],Zr (Zo (.box 2 3 51 (.t 0))<|
 Zo (.box 3 3 51 (.t 1))<|
 Zc 4 0 .nil)<|Zr (Zh 5 3 2<|
 Zh 7 3 3<|
 Zq 6 true 89 [.t 5]<|
 Zq 8 true 89 [.t 7]<|
 Zs 3 2 6<|
 Zs 3 3 8 .nil)<|Zr (Zf 9 0 2<|
 Zh 10 2 9<|
 Zf 11 2 3<|
 Zl 12 1 11<|
 Zf 15 0 3<|
 Zh 16 2 15<|
 Zf 17 2 2<|
 Zl 18 1 17<|
 Zq 13 true 151 [.t 12]<|
 Zq 14 true 148 [.t 10,.t 13]<|
 Zq 19 true 151 [.t 18]<|
 Zq 20 true 148 [.t 16,.t 19]<|
 Zq 21 true 182 [.t 14,.t 20]<|
 Zm 4 21 .nil) .ret⟩
theorem Qacx:Qe Tryz.prog Tryz.f118=some Q8l:=by kernel_rfl
def c49:SFn:=⟨9,[.t 4],Zr (Zo (.box 2 3 51 (.t 0))<|
 Zo (.box 3 3 51 (.t 1))<|
 Zo (.mv 4 (.c (.bool false))) .nil)<|Zr (Zh 5 3 2<|
 Zh 6 3 3<|
 Zq 7 false 118 [.t 5,.t 6]<|
 Zk 8 .eql 7 0<|
 Zm 4 8 .nil) .ret⟩
theorem Qafv:Qe Tryz.prog Tryz.f49=some c49:=by kernel_rfl
def c63:SFn:=⟨9,[.cell 2 3 true],Zr (Zo (.box 1 3 51 (.t 0))<|
 Zo (.alloc 2 3 51 (.agg [.bool false,.nilS,.nilS])) .nil)<|Zr (Zf 3 0 1<|
 Zh 4 2 3<|
 Zf 6 2 1<|
 Zl 7 1 6<|
 Zq 5 true 130 [.t 4]<|
 Zq 8 true 119 [.t 5,.t 7]<|
 Zs 3 2 8 .nil) .ret⟩
theorem Qafw:Qe Tryz.prog Tryz.f63=some c63:=by kernel_rfl
def c87:SFn:=⟨28,[.cell 4 3 true],Zr (Zo (.box 2 3 51 (.t 0))<|
 Zo (.box 3 3 51 (.t 1))<|
 Zo (.alloc 4 3 51 (.agg [.bool false,.nilS,.nilS])) .nil)<|Zr (Zh 5 3 2<|
 Zh 7 3 3<|
 Zq 6 true 89 [.t 5]<|
 Zq 8 true 89 [.t 7]<|
 Zs 3 2 6<|
 Zs 3 3 8 .nil)<|Zr (Zf 9 0 2<|
 Zh 10 2 9<|
 Zf 11 2 3<|
 Zl 12 1 11<|
 Zf 15 0 3<|
 Zh 16 2 15<|
 Zf 17 2 2<|
 Zl 18 1 17<|
 Zf 22 2 2<|
 Zl 23 1 22<|
 Zf 24 2 3<|
 Zl 25 1 24<|
 Zq 13 true 151 [.t 12]<|
 Zq 14 true 148 [.t 10,.t 13]<|
 Zq 19 true 151 [.t 18]<|
 Zq 20 true 148 [.t 16,.t 19]<|
 Zq 21 true 150 [.t 14,.t 20]<|
 Zq 26 true 149 [.t 23,.t 25]<|
 Zq 27 true 119 [.t 21,.t 26]<|
 Zs 3 4 27 .nil) .ret⟩
theorem Qafx:Qe Tryz.prog Tryz.f87=some c87:=by kernel_rfl
def Q8m:SFn:=⟨9,[.cell 4 3 true],Zr (Zo (.box 2 3 51 (.t 0))<|
 Zo (.box 3 3 51 (.t 1))<|
 Zo (.alloc 4 3 51 (.agg [.bool false,.nilS,.nilS])) .nil)<|Zr (Zh 5 3 2<|
 Zh 6 3 3<|
 Zq 7 true 63 [.t 6]<|
 Zq 8 true 87 [.t 5,.t 7]<|
 Zs 3 4 8 .nil) .ret⟩
theorem Qacy:Qe Tryz.prog Tryz.f145=some Q8m:=by kernel_rfl
def c85:SFn:=⟨16,[.cell 4 3 true],Zr (Zo (.box 2 3 51 (.t 0))<|
 Zo (.box 3 3 51 (.t 1))<|
 Zo (.alloc 4 3 51 (.agg [.bool false,.nilS,.nilS])) .nil)<|Zr (Zf 5 0 2<|
 Zh 6 2 5<|
 Zf 7 0 3<|
 Zh 8 2 7<|
 Zf 10 2 2<|
 Zl 11 1 10<|
 Zf 12 2 3<|
 Zl 13 1 12<|
 Zq 9 true 148 [.t 6,.t 8]<|
 Zq 14 true 149 [.t 11,.t 13]<|
 Zq 15 true 119 [.t 9,.t 14]<|
 Zs 3 4 15 .nil) .ret⟩
theorem Qafy:Qe Tryz.prog Tryz.f85=some c85:=by kernel_rfl
def Q8n:SFn:=⟨25,[.cell 4 3 true,.t 5],Zr (Zo (.box 2 3 51 (.t 0))<|
 Zo (.box 3 3 51 (.t 1))<|
 Zo (.alloc 4 3 51 (.agg [.bool false,.nilS,.nilS]))<|
 Zc 5 0 .nil)<|Zr (Zh 6 3 2<|
 Zh 8 3 3<|
 Zq 7 true 89 [.t 6]<|
 Zq 9 true 89 [.t 8]<|
 Zs 3 2 7<|
 Zs 3 3 9 .nil)<|Zr (Zf 10 0 2<|
 Zh 11 2 10<|
 Zf 12 2 3<|
 Zl 13 1 12<|
 Zf 16 0 3<|
 Zh 17 2 16<|
 Zf 18 2 2<|
 Zl 19 1 18<|
 Zq 14 true 151 [.t 13]<|
 Zq 15 true 148 [.t 11,.t 14]<|
 Zq 20 true 151 [.t 19]<|
 Zq 21 true 148 [.t 17,.t 20]<|
 Zq 22 true 121 [.t 15,.t 21]<|
 Zo (.ext 23 (.t 22) 0)<|
 Zo (.ext 24 (.t 22) 1)<|
 Zs 3 4 23<|
 Zm 5 24 .nil) .ret⟩
theorem Qacz:Qe Tryz.prog Tryz.f143=some Q8n:=by kernel_rfl
theorem Qbx{l:List Nat}(hv:Qj l)(hl:l.length<2^42):Qd Tryz.prog 146 [PV.nat l] (· =PV.num (val l)):=by
 have hcut:=Qli hv
 refine Qi Qt Tryz.func146 rfl Qace (by simp[Q72]) fun C hP=> ?_;simp only[Q72,Zo,Zg,Zm,Zc,Zf,Zl,Zh,Zs,Zi,Zb,Zk,Zn,Zu,Zq,Zr,Zz]
 simp+decide (disch:=try exact D0) only[go_sem]
 refine Qai (by repeat (first|exact Qw|exact Qo|exact Qp|exact Qq|exact Qr|apply Qn|apply Qv|apply Qz|apply Q6|apply Q7|apply Qk|apply Qu)) [(3,3),(7,18)] [] (fun m J hp=>m<=l.length/\cut l m=dig (val l)/\J 3= .int .i64 m/\hp=hp0) l.length ?_ ?_
 ·refine⟨Nat.le_refl _,hcut,?_⟩
  simp+decide (disch:=try exact D0) only[go_sem]
 rintro n J _ ⟨hn,hc,h3,rfl⟩
 simp+decide (disch:=try exact D1 h3) only[go_sem,h3]
 refine Qbq (fun hg=> ?_) (fun hg=> ?_)
 ·obtain _|n:=n
  ·omega
  have e:((n+1:Nat):Int)-1=n:=by omega
  simp only[cut]at hc
  simp+decide (disch:=try exact D2 h3 e) only[go_sem,h3,e]
  refine Qb (fun hz=> ?_) (fun hz=> ?_)
  ·rw[if_pos (by grind)]at hc
   simp+decide (disch:=try exact D2 h3 e) only[go_sem,h3,e]
   refine Qab n (by omega) ⟨by omega,hc,?_⟩
   simp+decide (disch:=try exact D0) only[go_sem]
  ·rw[if_neg (by grind)]at hc
   have hlt:(l.take (n+1)).length<2^42:=by rw[List.length_take];omega
   simp+decide (disch:=try exact E2 h3 e) only[go_sem,h3,e,Qac,List.contains_cons,List.contains_nil,List.flatMap_cons,List.flatMap_nil,List.append_nil]
   exact Qc (by rw[List.take_of_length_le (by simp),hc]) rfl
 ·obtain rfl:n=0:=by omega
  simp+decide (disch:=first|omega|rfl|(simp+decide only[go_sem,h3,List.take_zero,List.map_nil,List.length_nil]<;>rfl)|fail) only[go_sem,h3,List.take_zero,List.map_nil,List.length_nil]
  rw[Qqp (ys:=[]) rfl (by omega) (by simp) (by simp)]
  simp+decide (disch:=try exact E0) only[go_sem,Qac,List.contains_cons,List.contains_nil,List.flatMap_cons,List.flatMap_nil,List.append_nil]
  exact Qc (by show _=PV.nat (dig (val l));rw[<-hc];rfl) rfl
theorem Qc8{n:Nat}(hn:n<18446744073709551616):Qd Tryz.prog 84 [.int .u64 n] (· =PV.num n):=by
 have hlen:=Qd9 hn
 unfold nl at hlen
 refine Qi Qt Tryz.func84 rfl Qafl (by simp[c84]) fun C hP=> ?_;simp only[c84,Zo,Zg,Zm,Zc,Zf,Zl,Zh,Zs,Zi,Zb,Zk,Zn,Zu,Zq,Zr,Zz]
 simp+decide (disch:=try exact D0) only[go_sem]
 refine Qd6 3 900 1 155 (by omega) T0 ?_
 refine Qai (by repeat (first|exact Qw|exact Qo|exact Qp|exact Qq|exact Qr|apply Qn|apply Qv|apply Qz|apply Q6|apply Q7|apply Qk|apply Qu)) [(0,0),(3,13)] [10,11,900] (fun m J hp=>∃done:List Nat,dig n=done++dig m/\m<=n/\J 0= .int .u64 m/\J 3= .ms 900 done.length/\hp 900=some ⟨1,155,Qa3 done,false⟩) n ?_ ?_
 ·refine⟨[],rfl,Nat.le_refl _,?_⟩
  simp+decide (disch:=try exact D0) only[go_sem]
 rintro m J hp ⟨done,hd,hm,h0,h3,hh⟩
 rw[hd,List.length_append]at hlen
 simp+decide (disch:=try exact D2 h0 h3) only[go_sem,h0,h3]
 refine Qb (fun hz=> ?_) (fun hz=> ?_)
 ·have hne:m≠0:=by omega
  have hd2:dig n=(done++[m%65536])++dig (m/65536):=by rw[hd,Qgx hne];simp
  simp+decide (disch:=first|omega|rfl|(simp+decide only[go_sem,h0,h3,Nat.mod_mod]<;>rfl)|fail) only[go_sem,h0,h3,Nat.mod_mod]
  rw[Qaz (f:=fun(x:Nat)=> .int .u16 x) (y:=m%65536) (xs:=done) (ty':=155) (fz:=false) (T1 hh) Tr0 (by omega) rfl (by omega) (by omega)]
  simp+decide (disch:=try exact D2 h0 h3) only[go_sem,h0,h3]
  refine Qab (m/65536) (by omega) ⟨done++[m%65536],hd2,by omega,?_⟩
  simp+decide (disch:=try exact D2 h0 h3) only[go_sem,h0,h3]
  simp
 ·obtain rfl:m=0:=by omega
  rw[Qa2,List.append_nil]at hd
  simp+decide (disch:=try exact E2 h3 hh) only[go_sem,h3,hh,Qac,List.contains_cons,List.contains_nil,List.flatMap_cons,List.flatMap_nil,List.append_nil]
  exact Qc (by show _=PV.nat (dig n);rw[hd,List.take_of_length_le (by simp)]) rfl
theorem Qbn{a:List Nat}{i:Nat}(ha:Qj a)(hl:a.length<2^43):Qd Tryz.prog 200 [PV.nat a,.int .i64 i] (· = .int .i64 (dg a i:Nat)):=by
 refine Qi Qt Tryz.func200 rfl Qacg (by simp[Q74]) fun C hP=> ?_;simp only[Q74,Zo,Zg,Zm,Zc,Zf,Zl,Zh,Zs,Zi,Zb,Zk,Zn,Zu,Zq,Zr,Zz]
 simp+decide (disch:=try exact D0) only[go_sem]
 refine Qb (fun hi=> ?_) (fun hi=> ?_)
 ·have hi':i<a.length:=by omega
  have hai:=Qal ha hi'
  have hg:dg a i=a[i]:=Qbi hi'
  simp+decide (disch:=try exact D0) only[go_sem]
  exact Qc (by rw[hg]) rfl
 ·simp+decide (disch:=try exact D0) only[go_sem]
  exact Qc (by rw[dg,Qbj (by omega)];rfl) rfl
theorem Qgo{a:List Nat}(ha:Qj a)(hl:a.length<=4):Qd Tryz.prog 197 [PV.nat a] (· = .int .u64 (val a:Nat)):=by
 have hlt:∀k,val (a.drop k)<18446744073709551616:=fun k=>by
  have h1:=Qfg (Qg8 ha k)
  have:65536^(a.drop k).length<=65536^4:=Nat.pow_le_pow_right (by omega) (by rw[List.length_drop];omega)
  omega
 refine Qi Qt Tryz.func197 rfl Qacf (by simp[Q73]) fun C hP=> ?_;simp only[Q73,Zo,Zg,Zm,Zc,Zf,Zl,Zh,Zs,Zi,Zb,Zk,Zn,Zu,Zq,Zr,Zz]
 simp+decide (disch:=try exact D0) only[go_sem]
 refine Qai (by repeat (first|exact Qw|exact Qo|exact Qp|exact Qq|exact Qr|apply Qn|apply Qv|apply Qz|apply Q6|apply Q7|apply Qk|apply Qu)) [(3,4),(8,19)] [] (fun k J hp=>k<=a.length/\J 3= .int .u64 (val (a.drop k):Nat)/\J 4= .int .i64 ((k:Int)-1)) a.length ?_ ?_
 ·refine⟨Nat.le_refl _,?_⟩
  simp+decide (disch:=try exact D0) only[go_sem]
  simp[val]
 rintro k J h ⟨hk,h3,h4⟩
 simp+decide (disch:=try exact D2 h3 h4) only[go_sem,h3,h4]
 refine Qb (fun hg=> ?_) (fun hg=> ?_)
 ·obtain _|n:=k
  ·omega
  have hn:n<a.length:=by omega
  have han:=Qal ha hn
  have e:((n+1:Nat):Int)-1=n:=by omega
  have hv:=Qcv hn
  have h1:=hlt n
  generalize hxx:a[n]=x at *
  have e2:val (a.drop (n+1))*65536+x=val (a.drop n):=by omega
  simp+decide (disch:=try exact D5 h3 h4 e hxx e2) only[go_sem,h3,h4,e,hxx,e2]
  refine Qab n (by omega) ⟨by omega,?_⟩
  simp+decide (disch:=try exact D0) only[go_sem]
 ·obtain rfl:k=0:=by omega
  simp+decide (disch:=first|omega|rfl|(simp+decide only[go_sem,h3,List.drop_zero]<;>rfl)|fail) only[go_sem,h3,List.drop_zero]
  exact Qc rfl rfl
theorem Qh7{a b:List Nat}(ha:Qj a)(hb:Qj b)(hla:a.length<2^42)(hlb:b.length<2^42):Qd Tryz.prog 215 [PV.nat a,PV.nat b] (· = .int .i64 (Qdz (val a) (val b))):=by
 refine Qi Qt Tryz.func215 rfl Qach (by simp[Q75]) fun C hP=> ?_;simp only[Q75,Zo,Zg,Zm,Zc,Zf,Zl,Zh,Zs,Zi,Zb,Zk,Zn,Zu,Zq,Zr,Zz]
 simp+decide (disch:=first|omega|rfl|(simp+decide only[go_sem,Qsd]<;>rfl)|fail) only[go_sem,Qsd]
 refine Qai (by repeat (first|exact Qw|exact Qo|exact Qp|exact Qq|exact Qr|apply Qn|apply Qv|apply Qz|apply Q6|apply Q7|apply Qk|apply Qu)) [(4,5),(12,29)] [] (fun k J hp=>k<=max a.length b.length/\val (a.drop k)=val (b.drop k)/\J 5= .int .i64 ((k:Int)-1)) (max a.length b.length) ?_ ?_
 ·refine⟨Nat.le_refl _,?_,?_⟩
  ·rw[List.drop_of_length_le (by omega),List.drop_of_length_le (by omega)]
  ·simp+decide (disch:=try exact D0) only[go_sem]
 rintro k J h ⟨hk,hv,h5⟩
 simp+decide (disch:=try exact D1 h5) only[go_sem,h5]
 refine Qb (fun hg=> ?_) (fun hg=> ?_)
 ·obtain _|n:=k
  ·omega
  have e:((n+1:Nat):Int)-1=n:=by omega
  have e1:=Qgz a n
  have e2:=Qgz b n
  have d1:=Qmm ha n
  have d2:=Qmm hb n
  simp+decide (disch:=try exact D2 h5 e) only[go_sem,h5,e]
  refine Qa hP (Qbn ha (by omega)) rfl rfl rfl ?_
  simp+decide (disch:=try exact D2 h5 e) only[go_sem,h5,e]
  refine Qa hP (Qbn hb (by omega)) rfl rfl rfl ?_
  simp+decide (disch:=try exact D2 h5 e) only[go_sem,h5,e]
  refine Qb (fun hc=> ?_) (fun hc=> ?_)
  ·have hlt:=Qpe (a:=a) (b:=b) ha (i:=n) (by omega)
   simp+decide (disch:=try exact D0) only[go_sem]
   exact Qc (by rw[Qr5 hlt]) rfl
  simp+decide (disch:=try exact D2 h5 e) only[go_sem,h5,e]
  refine Qa hP (Qbn ha (by omega)) rfl rfl rfl ?_
  simp+decide (disch:=try exact D2 h5 e) only[go_sem,h5,e]
  refine Qa hP (Qbn hb (by omega)) rfl rfl rfl ?_
  simp+decide (disch:=try exact D2 h5 e) only[go_sem,h5,e]
  refine Qb (fun hc2=> ?_) (fun hc2=> ?_)
  ·have hlt:=Qpe (a:=b) (b:=a) hb (i:=n) (by omega)
   simp+decide (disch:=try exact D0) only[go_sem]
   exact Qc (by rw[Qr6 hlt]) rfl
  ·simp+decide (disch:=try exact D2 h5 e) only[go_sem,h5,e]
   refine Qab n (by omega) ⟨by omega,by omega,?_⟩
   simp+decide (disch:=try exact D0) only[go_sem]
 ·obtain rfl:k=0:=by omega
  simp+decide (disch:=try exact D0) only[go_sem]
  exact Qc (by rw[Qx1 (by simpa using hv)]) rfl
theorem Qnb{a:List Nat}(ha:Qj a)(hl:a.length<2^43):Qd Tryz.prog 81 [PV.nat a] (· = .bool (decide (a.getLast? ≠some 0))):=by
 refine Qi Qt Tryz.func81 rfl Qafn (by simp[c81]) fun C hP=> ?_;simp only[c81,Zo,Zg,Zm,Zc,Zf,Zl,Zh,Zs,Zi,Zb,Zk,Zn,Zu,Zq,Zr,Zz]
 simp+decide (disch:=try exact D0) only[go_sem]
 refine Qa9 (fun h0=> ?_) (fun h0=> ?_)
 ·have:a=[]:=List.length_eq_zero_iff.1 (by omega)
  subst this
  simp+decide (disch:=try exact D0) only[go_sem]
  exact Qc (by simp) rfl
 ·obtain⟨k,hk⟩:∃k,a.length=k+1:=⟨a.length-1,by omega⟩
  have hlast:=Q57 hk
  have e:((k+1:Nat):Int)-1=k:=by omega
  generalize hy:a[k]'(by omega)=y at *
  simp+decide (disch:=try exact D3 hk e hy) only[go_sem,hk,e,hy]
  refine Qc (congrArg PV.bool ?_) rfl
  rw[hlast]
  exact decide_eq_decide.2 ⟨fun h h'=>h (by injection h' with h';rw[h'];rfl),fun h h'=>h (by rw[show y=0 by omega])⟩
theorem Qwb{a b:List Nat}(hla:a.length<2^43)(hlb:b.length<2^43):Qd Tryz.prog 82 [PV.nat a,PV.nat b] (· = .bool (decide (a=b))):=by
 refine Qi Qt Tryz.func82 rfl Qafo (by simp[c82]) fun C hP=> ?_;simp only[c82,Zo,Zg,Zm,Zc,Zf,Zl,Zh,Zs,Zi,Zb,Zk,Zn,Zu,Zq,Zr,Zz]
 simp+decide (disch:=try exact D0) only[go_sem]
 refine Qb (fun h0=> ?_) (fun h0=> ?_)
 ·simp+decide (disch:=try exact D0) only[go_sem]
  exact Qc (congrArg PV.bool (by rw[decide_eq_false];rintro rfl;exact h0 rfl)) rfl
 have hlen:a.length=b.length:=by omega
 simp+decide (disch:=try exact D0) only[go_sem]
 refine Qai (by repeat (first|exact Qw|exact Qo|exact Qp|exact Qq|exact Qr|apply Qn|apply Qv|apply Qz|apply Q6|apply Q7|apply Qk|apply Qu)) [(4,5),(11,25)] [] (fun n J hp=>∃i,n=a.length-i/\i<=a.length/\a.take i=b.take i/\J 5= .int .i64 (i:Nat)) a.length ?_ ?_
 ·refine⟨0,rfl,by omega,by simp,?_⟩
  simp+decide (disch:=try exact D0) only[go_sem]
  rfl
 rintro _ J h ⟨i,rfl,hi,he,h5⟩
 simp+decide (disch:=try exact D1 h5) only[go_sem,h5]
 refine Qb (fun hg=> ?_) (fun hg=> ?_)
 ·have hi':i<a.length:=by omega
  have hib:i<b.length:=by omega
  have ta:=List.take_succ_eq_append_getElem hi'
  have tb:=List.take_succ_eq_append_getElem hib
  have hne:a=b->a[i]=b[i]:=fun h=>by subst h;rfl
  generalize hx:a[i]=x at *
  generalize hy:b[i]=y at *
  simp+decide (disch:=try exact D3 h5 hx hy) only[go_sem,h5,hx,hy]
  refine Qb (fun hc=> ?_) (fun hc=> ?_)
  ·simp+decide (disch:=try exact D0) only[go_sem]
   exact Qc (congrArg PV.bool (by rw[decide_eq_false];intro h;exact hc (by rw[hne h]))) rfl
  ·simp+decide (disch:=try exact D1 h5) only[go_sem,h5]
   refine Qab (a.length-(i+1)) (by omega) ⟨i+1,rfl,by omega,by rw[ta,tb,he,show x=y by omega],?_⟩
   simp+decide (disch:=try exact D0) only[go_sem]
 ·obtain rfl:i=a.length:=by omega
  rw[List.take_length,hlen,List.take_length]at he
  simp+decide (disch:=try exact D0) only[go_sem]
  exact Qc (congrArg PV.bool (by rw[he];simp)) rfl
theorem Qpj{a b:List Nat}(ha:Qj a)(hb:Qj b)(hla:a.length<2^40)(hlb:b.length<2^40):Qd Tryz.prog 184 [PV.nat a,PV.nat b] (· =PV.num (val a+val b)):=by
 refine Qi Qt Tryz.func184 rfl Qaci (by simp[Q76]) fun C hP=> ?_;simp only[Q76,Zo,Zg,Zm,Zc,Zf,Zl,Zh,Zs,Zi,Zb,Zk,Zn,Zu,Zq,Zr,Zz]
 simp+decide (disch:=try exact D0) only[go_sem]
 refine Qd6 5 900 1 155 (by omega) T0 ?_
 refine Qai (by repeat (first|exact Qw|exact Qo|exact Qp|exact Qq|exact Qr|apply Qn|apply Qv|apply Qz|apply Q6|apply Q7|apply Qk|apply Qu)) [(5,41)] [38,39,900] (fun m J hp=>∃(i c:Nat)(out:List Nat),m=2*(max a.length b.length-i)+c/\c<=1/\i<=max a.length b.length+1/\(i<=max a.length b.length∨c=0)/\out.length=i/\Qj out/\val out+65536^i*(c+val (a.drop i)+val (b.drop i))=val a+val b/\J 5= .ms 900 out.length/\J 6= .int .i64 c/\J 7= .int .i64 i/\hp 900=some ⟨1,155,Qa3 out,false⟩) (2*max a.length b.length) ?_ ?_
 ·refine⟨0,0,[],rfl,by omega,by omega,by omega,rfl,Qcy,by simp[val],?_⟩
  simp+decide (disch:=try exact D0) only[go_sem]
  simp
 rintro _ J h ⟨i,c,out,rfl,hc,hi,hi2,hol,hout,hv,h5,h6,h7,hh⟩
 have e1:=Qgz a i
 have e2:=Qgz b i
 have d1:=Qmm ha i
 have d2:=Qmm hb i
 simp+decide (disch:=try exact D3 h5 h6 h7) only[go_sem,h5,h6,h7]
 refine Qa9 (fun hg=> ?_) (fun hg=> ?_)
 ·have hlt:i<max a.length b.length:=by omega
  have hs1:(dg a i+dg b i+c)/65536<=1:=by omega
  have hstep:val (out++[(dg a i+dg b i+c)%65536])+65536^(i+1)*((dg a i+dg b i+c)/65536+val (a.drop (i+1))+val (b.drop (i+1)))=val a+val b:=by
   rw[Qmo,hol,Nat.pow_succ,<-hv,e1,e2]
   have:=Nat.div_add_mod (dg a i+dg b i+c) 65536
   generalize 65536^i=P at *
   generalize(dg a i+dg b i+c)/65536=q at *
   generalize(dg a i+dg b i+c)%65536=r at *
   have e:c+(dg a i+65536*val (a.drop (i+1)))+(dg b i+65536*val (b.drop (i+1)))=r+65536*(q+val (a.drop (i+1))+val (b.drop (i+1))):=by omega
   rw[e,Nat.mul_add P,Nat.mul_assoc];omega
  simp+decide (disch:=try exact D3 h5 h6 h7) only[go_sem,h5,h6,h7]
  refine Qa hP (Qbn ha (by omega)) rfl rfl rfl ?_
  simp+decide (disch:=try exact D3 h5 h6 h7) only[go_sem,h5,h6,h7]
  refine Qa hP (Qbn hb (by omega)) rfl rfl rfl ?_
  simp+decide (disch:=first|omega|rfl|(simp+decide only[go_sem,h5,h6,h7,Nat.mod_mod]<;>rfl)|fail) only[go_sem,h5,h6,h7,Nat.mod_mod]
  rw[Qaz (f:=fun(x:Nat)=> .int .u16 x) (y:=(dg a i+dg b i+c)%65536) (xs:=out) (ty':=155) (fz:=false) (T1 hh) Tr0 (by omega) rfl (by omega) (by omega)]
  simp+decide (disch:=try exact D3 h5 h6 h7) only[go_sem,h5,h6,h7]
  refine Qab (2*(max a.length b.length-(i+1))+(dg a i+dg b i+c)/65536) ?_ ⟨i+1,(dg a i+dg b i+c)/65536,out++[(dg a i+dg b i+c)%65536],rfl,hs1,by omega,?_,by simp[hol],?_,hstep,?_⟩
  ·by_cases hlt:i<max a.length b.length
   ·omega
   ·have z1:dg a i=0:=by rw[dg,Qbj (by omega)]
    have z2:dg b i=0:=by rw[dg,Qbj (by omega)]
    rw[z1,z2];omega
  ·by_cases hlt:i<max a.length b.length
   ·omega
   ·have z1:dg a i=0:=by rw[dg,Qbj (by omega)]
    have z2:dg b i=0:=by rw[dg,Qbj (by omega)]
    rw[z1,z2];omega
  ·rw[Qbw];exact⟨hout,by intro z hz;simp at hz;omega⟩
  ·simp+decide (disch:=try exact D0) only[go_sem]
   simp
 simp+decide (disch:=try exact D3 h5 h6 h7) only[go_sem,h5,h6,h7]
 refine Qa9 (fun hg2=> ?_) (fun hg2=> ?_)
 ·have hlt:i<max a.length b.length:=by omega
  have hs1:(dg a i+dg b i+c)/65536<=1:=by omega
  have hstep:val (out++[(dg a i+dg b i+c)%65536])+65536^(i+1)*((dg a i+dg b i+c)/65536+val (a.drop (i+1))+val (b.drop (i+1)))=val a+val b:=by
   rw[Qmo,hol,Nat.pow_succ,<-hv,e1,e2]
   have:=Nat.div_add_mod (dg a i+dg b i+c) 65536
   generalize 65536^i=P at *
   generalize(dg a i+dg b i+c)/65536=q at *
   generalize(dg a i+dg b i+c)%65536=r at *
   have e:c+(dg a i+65536*val (a.drop (i+1)))+(dg b i+65536*val (b.drop (i+1)))=r+65536*(q+val (a.drop (i+1))+val (b.drop (i+1))):=by omega
   rw[e,Nat.mul_add P,Nat.mul_assoc];omega
  simp+decide (disch:=try exact D3 h5 h6 h7) only[go_sem,h5,h6,h7]
  refine Qa hP (Qbn ha (by omega)) rfl rfl rfl ?_
  simp+decide (disch:=try exact D3 h5 h6 h7) only[go_sem,h5,h6,h7]
  refine Qa hP (Qbn hb (by omega)) rfl rfl rfl ?_
  simp+decide (disch:=first|omega|rfl|(simp+decide only[go_sem,h5,h6,h7,Nat.mod_mod]<;>rfl)|fail) only[go_sem,h5,h6,h7,Nat.mod_mod]
  rw[Qaz (f:=fun(x:Nat)=> .int .u16 x) (y:=(dg a i+dg b i+c)%65536) (xs:=out) (ty':=155) (fz:=false) (T1 hh) Tr0 (by omega) rfl (by omega) (by omega)]
  simp+decide (disch:=try exact D3 h5 h6 h7) only[go_sem,h5,h6,h7]
  refine Qab (2*(max a.length b.length-(i+1))+(dg a i+dg b i+c)/65536) ?_ ⟨i+1,(dg a i+dg b i+c)/65536,out++[(dg a i+dg b i+c)%65536],rfl,hs1,by omega,?_,by simp[hol],?_,hstep,?_⟩
  ·by_cases hlt:i<max a.length b.length
   ·omega
   ·have z1:dg a i=0:=by rw[dg,Qbj (by omega)]
    have z2:dg b i=0:=by rw[dg,Qbj (by omega)]
    rw[z1,z2];omega
  ·by_cases hlt:i<max a.length b.length
   ·omega
   ·have z1:dg a i=0:=by rw[dg,Qbj (by omega)]
    have z2:dg b i=0:=by rw[dg,Qbj (by omega)]
    rw[z1,z2];omega
  ·rw[Qbw];exact⟨hout,by intro z hz;simp at hz;omega⟩
  ·simp+decide (disch:=try exact D0) only[go_sem]
   simp
 simp+decide (disch:=try exact D3 h5 h6 h7) only[go_sem,h5,h6,h7]
 refine Qb (fun hg3=> ?_) (fun hg3=> ?_)
 ·have hib:i<=max a.length b.length:=by omega
  have hs1:(dg a i+dg b i+c)/65536<=1:=by omega
  have hstep:val (out++[(dg a i+dg b i+c)%65536])+65536^(i+1)*((dg a i+dg b i+c)/65536+val (a.drop (i+1))+val (b.drop (i+1)))=val a+val b:=by
   rw[Qmo,hol,Nat.pow_succ,<-hv,e1,e2]
   have:=Nat.div_add_mod (dg a i+dg b i+c) 65536
   generalize 65536^i=P at *
   generalize(dg a i+dg b i+c)/65536=q at *
   generalize(dg a i+dg b i+c)%65536=r at *
   have e:c+(dg a i+65536*val (a.drop (i+1)))+(dg b i+65536*val (b.drop (i+1)))=r+65536*(q+val (a.drop (i+1))+val (b.drop (i+1))):=by omega
   rw[e,Nat.mul_add P,Nat.mul_assoc];omega
  simp+decide (disch:=try exact D3 h5 h6 h7) only[go_sem,h5,h6,h7]
  refine Qa hP (Qbn ha (by omega)) rfl rfl rfl ?_
  simp+decide (disch:=try exact D3 h5 h6 h7) only[go_sem,h5,h6,h7]
  refine Qa hP (Qbn hb (by omega)) rfl rfl rfl ?_
  simp+decide (disch:=first|omega|rfl|(simp+decide only[go_sem,h5,h6,h7,Nat.mod_mod]<;>rfl)|fail) only[go_sem,h5,h6,h7,Nat.mod_mod]
  rw[Qaz (f:=fun(x:Nat)=> .int .u16 x) (y:=(dg a i+dg b i+c)%65536) (xs:=out) (ty':=155) (fz:=false) (T1 hh) Tr0 (by omega) rfl (by omega) (by omega)]
  simp+decide (disch:=try exact D3 h5 h6 h7) only[go_sem,h5,h6,h7]
  refine Qab (2*(max a.length b.length-(i+1))+(dg a i+dg b i+c)/65536) ?_ ⟨i+1,(dg a i+dg b i+c)/65536,out++[(dg a i+dg b i+c)%65536],rfl,hs1,by omega,?_,by simp[hol],?_,hstep,?_⟩
  ·by_cases hlt:i<max a.length b.length
   ·omega
   ·have z1:dg a i=0:=by rw[dg,Qbj (by omega)]
    have z2:dg b i=0:=by rw[dg,Qbj (by omega)]
    rw[z1,z2];omega
  ·by_cases hlt:i<max a.length b.length
   ·omega
   ·have z1:dg a i=0:=by rw[dg,Qbj (by omega)]
    have z2:dg b i=0:=by rw[dg,Qbj (by omega)]
    rw[z1,z2];omega
  ·rw[Qbw];exact⟨hout,by intro z hz;simp at hz;omega⟩
  ·simp+decide (disch:=try exact D0) only[go_sem]
   simp
 ·obtain rfl:c=0:=by omega
  rw[List.drop_of_length_le (by omega),List.drop_of_length_le (by omega)]at hv
  simp only[val,Nat.add_zero,Nat.mul_zero]at hv
  simp+decide (disch:=try exact D2 h5 hh) only[go_sem,h5,hh]
  refine Qfz hP (Qbx hout (by omega)) (by simp+decide (disch:=try exact E1 hh) only[go_sem,hh,Qac,List.contains_cons,List.contains_nil,List.flatMap_cons,List.flatMap_nil,List.append_nil];simp[List.take_of_length_le]) rfl fun hp'=> ?_
  simp+decide (disch:=try exact D0) only[go_sem]
  exact Qc (by rw[hv]) rfl
theorem Qk1{a b:List Nat}(ha:Qj a)(hb:Qj b)(hla:a.length<2^40)(hlb:b.length<2^40):Qd Tryz.prog 199 [PV.nat a,PV.nat b] (· =if val a<val b then .tup [PV.num 0,.int .i64 2]else .tup [PV.num (val a-val b),.int .i64 0]):=by
 refine Qi Qt Tryz.func199 rfl Qacj (by simp[Q77]) fun C hP=> ?_;simp only[Q77,Zo,Zg,Zm,Zc,Zf,Zl,Zh,Zs,Zi,Zb,Zk,Zn,Zu,Zq,Zr,Zz]
 simp+decide (disch:=try exact D0) only[go_sem]
 refine Qa hP (Qh7 ha hb (by omega) (by omega)) rfl rfl rfl ?_
 simp+decide (disch:=try exact D0) only[go_sem]
 refine Qb (fun hc=> ?_) (fun hc=> ?_)
 ·rw[if_pos (Qmj.1 hc)]
  simp+decide (disch:=try exact D0) only[go_sem]
  exact Qb2 rfl rfl rfl Qhv (Qy _)
 have hge:¬val a<val b:=fun h=>hc (Qmj.2 h)
 rw[if_neg hge]
 simp+decide (disch:=try exact D0) only[go_sem]
 refine Qd6 6 900 1 155 (by omega) T0 ?_
 refine Qai (by repeat (first|exact Qw|exact Qo|exact Qp|exact Qq|exact Qr|apply Qn|apply Qv|apply Qz|apply Q6|apply Q7|apply Qk|apply Qu)) [(6,9),(14,37)] [36,37,900] (fun m J hp=>∃(i c:Nat)(out:List Nat),m=a.length-i/\c<=1/\i<=a.length/\out.length=i/\Qj out/\val (a.take i)+65536^i*c=val out+val (b.take i)/\J 6= .ms 900 out.length/\J 7= .int .i64 c/\J 8= .int .i64 i/\hp 900=some ⟨1,155,Qa3 out,false⟩) a.length ?_ ?_
 ·refine⟨0,0,[],rfl,by omega,by omega,rfl,Qcy,by simp[val],?_⟩
  simp+decide (disch:=try exact D0) only[go_sem]
  simp
 rintro _ J h ⟨i,c,out,rfl,hc1,hi,hol,hout,hv,h6,h7,h8,hh⟩
 simp+decide (disch:=try exact D3 h6 h7 h8) only[go_sem,h6,h7,h8]
 refine Qb (fun hg=> ?_) (fun hg=> ?_)
 ·have hi':i<a.length:=by omega
  have e1:=Qlq a i
  have e2:=Qlq b i
  have d1:=Qmm ha i
  have d2:=Qmm hb i
  simp+decide (disch:=try exact D3 h6 h7 h8) only[go_sem,h6,h7,h8]
  refine Qa hP (Qbn ha (by omega)) rfl rfl rfl ?_
  simp+decide (disch:=try exact D3 h6 h7 h8) only[go_sem,h6,h7,h8]
  refine Qa hP (Qbn hb (by omega)) rfl rfl rfl ?_
  simp+decide (disch:=try exact D3 h6 h7 h8) only[go_sem,h6,h7,h8]
  have step:∀(d c':Nat),d<65536->c'<=1->dg a i+65536*c'=d+dg b i+c->val (a.take (i+1))+65536^(i+1)*c'=val (out++[d])+val (b.take (i+1)):=fun d c' _ _ h3=>by
   rw[Qmo,hol,e1,e2,Nat.pow_succ]
   generalize 65536^i=P at *
   have:P*(dg a i+65536*c')=P*(d+dg b i+c):=by rw[h3]
   rw[Nat.mul_add,<-Nat.mul_assoc,Nat.mul_add,Nat.mul_add]at this
   omega
  refine Qb (fun hd=> ?_) (fun hd=> ?_)
  ·obtain⟨d,hd1⟩:∃d:Nat,(dg a i:Int)-(dg b i:Int)-(c:Int)+65536=d:=⟨((dg a i:Int)-(dg b i:Int)-(c:Int)+65536).toNat,by omega⟩
   have hst:=step d 1 (by omega) (by omega) (by omega)
   simp+decide (disch:=try exact D4 h6 h7 h8 hd1) only[go_sem,h6,h7,h8,hd1]
   rw[Qaz (f:=fun(x:Nat)=> .int .u16 x) (y:=d) (xs:=out) (ty':=155) (fz:=false) (T1 hh) (by simp+decide (disch:=first|omega|rfl|(simp+decide only[go_sem,Nat.mod_eq_of_lt (by omega:d<65536)]<;>rfl)|fail) only[go_sem,Nat.mod_eq_of_lt (by omega:d<65536)]) (by omega) rfl (by omega) (by omega)]
   simp+decide (disch:=try exact D3 h6 h7 h8) only[go_sem,h6,h7,h8]
   refine Qab (a.length-(i+1)) (by omega) ⟨i+1,1,out++[d],rfl,by omega,by omega,by simp[hol],?_,hst,?_⟩
   ·rw[Qbw];exact⟨hout,by intro z hz;simp at hz;omega⟩
   ·simp+decide (disch:=try exact D0) only[go_sem]
    simp
  ·obtain⟨d,hd1⟩:∃d:Nat,(dg a i:Int)-(dg b i:Int)-(c:Int)=d:=⟨((dg a i:Int)-(dg b i:Int)-(c:Int)).toNat,by omega⟩
   have hst:=step d 0 (by omega) (by omega) (by omega)
   simp+decide (disch:=try exact D4 h6 h7 h8 hd1) only[go_sem,h6,h7,h8,hd1]
   rw[Qaz (f:=fun(x:Nat)=> .int .u16 x) (y:=d) (xs:=out) (ty':=155) (fz:=false) (T1 hh) (by simp+decide (disch:=first|omega|rfl|(simp+decide only[go_sem,Nat.mod_eq_of_lt (by omega:d<65536)]<;>rfl)|fail) only[go_sem,Nat.mod_eq_of_lt (by omega:d<65536)]) (by omega) rfl (by omega) (by omega)]
   simp+decide (disch:=try exact D3 h6 h7 h8) only[go_sem,h6,h7,h8]
   refine Qab (a.length-(i+1)) (by omega) ⟨i+1,0,out++[d],rfl,by omega,by omega,by simp[hol],?_,hst,?_⟩
   ·rw[Qbw];exact⟨hout,by intro z hz;simp at hz;omega⟩
   ·simp+decide (disch:=try exact D0) only[go_sem]
    simp
 ·obtain rfl:i=a.length:=by omega
  have hbz:val (b.drop a.length)=0:=Qh4 (by have:=Qfg ha;omega)
  have hbs:=Qmn b a.length
  rw[hbz,Nat.mul_zero,Nat.add_zero]at hbs
  rw[List.take_length,<-hbs]at hv
  have hvo:=Qfg hout
  rw[hol]at hvo
  have hc0:c=0:=by
   match c,hc1 with
   |0,_=>rfl
   |1,_=>exfalso;have:=Qfg ha;omega
  subst hc0
  simp+decide (disch:=try exact D2 h6 hh) only[go_sem,h6,hh]
  refine Qfz hP (Qbx hout (by omega)) (by simp+decide (disch:=try exact E1 hh) only[go_sem,hh,Qac,List.contains_cons,List.contains_nil,List.flatMap_cons,List.flatMap_nil,List.append_nil];simp[List.take_of_length_le]) rfl fun hp'=> ?_
  simp+decide (disch:=try exact D0) only[go_sem]
  exact Qb2 rfl rfl rfl (Qgv (congrArg PV.num (by omega))) (Qy _)
theorem Qk2{a b:List Nat}(ha:Qj a)(hb:Qj b)(hla:a.length<2^40)(hlb:b.length<2^40):Qd Tryz.prog 149 [PV.nat a,PV.nat b] (· =PV.num (val a*val b)):=by
 refine Qi Qt Tryz.func149 rfl Qack (by simp[Q78]) fun C hP=> ?_;simp only[Q78,Zo,Zg,Zm,Zc,Zf,Zl,Zh,Zs,Zi,Zb,Zk,Zn,Zu,Zq,Zr,Zz]
 simp+decide (disch:=try exact D0) only[go_sem]
 refine Qai (by repeat (first|exact Qw|exact Qo|exact Qp|exact Qq|exact Qr|apply Qn|apply Qv|apply Qz|apply Q6|apply Q7|apply Qk|apply Qu)) [(6,9),(17,62)] [] (fun m J hp=>∃(i:Nat)(L:List Nat),m=a.length-i/\i<=a.length/\L.length=a.length+b.length+1/\Qj L/\val L=val (a.take i)*val b/\J 6= .int .i64 i/\hp=Qg hp0 16 ⟨1,155,Qa3 L,false⟩) a.length ?_ ?_
 ·refine⟨0,List.replicate (a.length+b.length+1) 0,rfl,by omega,by simp,?_,by simp[val,Qsx],?_⟩
  ·intro z hz;rw[List.eq_of_mem_replicate hz];omega
  ·simp+decide (disch:=try exact D0) only[go_sem]
   simp
 rintro _ J _ ⟨i,L,rfl,hi,hLl,hL,hv,h6,rfl⟩
 simp+decide (disch:=try exact D1 h6) only[go_sem,h6]
 refine Qb (fun hg=> ?_) (fun hg=> ?_)
 ·have hi':i<a.length:=by omega
  have hai:=Qal ha hi'
  have hts:=Qfh hi'
  have hz0:dg L (i+b.length)=0:=by
   apply Qzs
   apply Qh4
   rw[hv,Nat.pow_add]
   have h1:=Qd2 ha i (by omega)
   have h2:=Qfg hb
   exact Nat.mul_lt_mul'' h1 h2
  generalize hxx:a[i]=ai at *
  simp+decide (disch:=try exact D2 h6 hxx) only[go_sem,h6,hxx]
  refine Qai (by repeat (first|exact Qw|exact Qo|exact Qp|exact Qq|exact Qr|apply Qn|apply Qv|apply Qz|apply Q6|apply Q7|apply Qk|apply Qu)) [(7,9),(23,62)] [] (fun m J hp=>∃(k c:Nat)(M:List Nat),m=b.length+1-k/\k<=b.length+1/\(k<=b.length∨c=0)/\c<65536/\M.length=L.length/\Qj M/\val M+65536^(i+k)*(c+ai*val (b.drop k))=val L+65536^i*(ai*val b)/\(∀j,i+k<=j->dg M j=dg L j)/\J 7= .int .u64 c/\J 8= .int .i64 k/\hp=Qg hp0 16 ⟨1,155,Qa3 M,false⟩) (b.length+1) ?_ ?_
  ·refine⟨0,0,L,rfl,by omega,by omega,by omega,rfl,hL,by simp,fun _ _=>rfl,?_⟩
   simp+decide (disch:=try exact D1 h6) only[go_sem,h6]
   simp
  rintro _ J2 _ ⟨k,c,M,rfl,hk,hk2,hc,hMl,hM,hw,hsame,h7,h8,rfl⟩
  have e2:=Qgz b k
  have d2:=Qmm hb k
  simp+decide (disch:=try exact D3 h6 h7 h8) only[go_sem,h6,h7,h8]
  refine Qa9 (fun hkb=> ?_) (fun hkb=> ?_)
  ·have hkb':k<=b.length:=by omega
   have hj:i+k<M.length:=by omega
   have hx:=Qal hM hj
   have hset:=fun v=>Qyc (v:=v) hj
   have hmx:=Qe6 hai d2
   have hdx:dg M (i+k)=M[i+k]:=Qbi hj
   generalize hxm:M[i+k]=x at *
   have hdm:=Nat.div_add_mod (x+ai*dg b k+c) 65536
   have hnew:=Qs8 (T:=val L+65536^i*(ai*val b)) (hset ((x+ai*dg b k+c)%65536)) (by rw[<-e2];exact hw) hdm
   have hr:=Nat.mod_lt (x+ai*dg b k+c) (show 0<65536 by omega)
   have hq:(x+ai*dg b k+c)/65536<65536:=by omega
   have hq0:¬k<b.length->(x+ai*dg b k+c)/65536=0:=fun h=>by
    have z1:dg b k=0:=by rw[dg,Qbj (by omega)]
    have z2:x=0:=by rw[<-hdx,hsame _ (Nat.le_refl _),show i+k=i+b.length by omega,hz0]
    rw[z1,z2];omega
   have hlims:Qj (M.set (i+k) ((x+ai*dg b k+c)%65536)):=fun z hz=>by
    rcases List.mem_or_eq_of_mem_set hz with h|h
    ·exact hM z h
    ·omega
   have e5:IntKind.u64.wrap ((ai*dg b k:Nat):Int)=((ai*dg b k:Nat):Int):=Qe8 (by omega) (by omega)
   simp+decide (disch:=try exact D5 h6 h7 h8 hxx hxm) only[go_sem,h6,h7,h8,hxx,hxm]
   refine Qa hP (Qbn hb (by omega)) rfl rfl rfl ?_
   simp+decide (disch:=first|omega|rfl|(simp+decide only[go_sem,h6,h7,h8,hxx,hxm,e5,Nat.mod_mod]<;>rfl)|fail) only[go_sem,h6,h7,h8,hxx,hxm,e5,Nat.mod_mod]
   refine Qab (b.length+1-(k+1)) (by omega) ⟨k+1,(x+ai*dg b k+c)/65536,M.set (i+k) ((x+ai*dg b k+c)%65536),rfl,by omega,?_,hq,by rw[List.length_set];exact hMl,hlims,?_,?_,?_⟩
   ·by_cases h:k<b.length
    ·omega
    ·exact .inr (hq0 h)
   ·rw[<-Nat.add_assoc,Nat.pow_succ];exact hnew
   ·intro j hj2
    rw[Qs9 (by omega)];exact hsame j (by omega)
   ·simp+decide (disch:=try exact D3 h6 h7 h8) only[go_sem,h6,h7,h8]
  simp+decide (disch:=try exact D3 h6 h7 h8) only[go_sem,h6,h7,h8]
  refine Qb (fun hc0=> ?_) (fun hc0=> ?_)
  ·have hkb':k<=b.length:=by omega
   have hj:i+k<M.length:=by omega
   have hx:=Qal hM hj
   have hset:=fun v=>Qyc (v:=v) hj
   have hmx:=Qe6 hai d2
   have hdx:dg M (i+k)=M[i+k]:=Qbi hj
   generalize hxm:M[i+k]=x at *
   have hdm:=Nat.div_add_mod (x+ai*dg b k+c) 65536
   have hnew:=Qs8 (T:=val L+65536^i*(ai*val b)) (hset ((x+ai*dg b k+c)%65536)) (by rw[<-e2];exact hw) hdm
   have hr:=Nat.mod_lt (x+ai*dg b k+c) (show 0<65536 by omega)
   have hq:(x+ai*dg b k+c)/65536<65536:=by omega
   have hq0:¬k<b.length->(x+ai*dg b k+c)/65536=0:=fun h=>by
    have z1:dg b k=0:=by rw[dg,Qbj (by omega)]
    have z2:x=0:=by rw[<-hdx,hsame _ (Nat.le_refl _),show i+k=i+b.length by omega,hz0]
    rw[z1,z2];omega
   have hlims:Qj (M.set (i+k) ((x+ai*dg b k+c)%65536)):=fun z hz=>by
    rcases List.mem_or_eq_of_mem_set hz with h|h
    ·exact hM z h
    ·omega
   have e5:IntKind.u64.wrap ((ai*dg b k:Nat):Int)=((ai*dg b k:Nat):Int):=Qe8 (by omega) (by omega)
   simp+decide (disch:=try exact D5 h6 h7 h8 hxx hxm) only[go_sem,h6,h7,h8,hxx,hxm]
   refine Qa hP (Qbn hb (by omega)) rfl rfl rfl ?_
   simp+decide (disch:=first|omega|rfl|(simp+decide only[go_sem,h6,h7,h8,hxx,hxm,e5,Nat.mod_mod]<;>rfl)|fail) only[go_sem,h6,h7,h8,hxx,hxm,e5,Nat.mod_mod]
   refine Qab (b.length+1-(k+1)) (by omega) ⟨k+1,(x+ai*dg b k+c)/65536,M.set (i+k) ((x+ai*dg b k+c)%65536),rfl,by omega,?_,hq,by rw[List.length_set];exact hMl,hlims,?_,?_,?_⟩
   ·by_cases h:k<b.length
    ·omega
    ·exact .inr (hq0 h)
   ·rw[<-Nat.add_assoc,Nat.pow_succ];exact hnew
   ·intro j hj2
    rw[Qs9 (by omega)];exact hsame j (by omega)
   ·simp+decide (disch:=try exact D3 h6 h7 h8) only[go_sem,h6,h7,h8]
  ·obtain rfl:c=0:=by omega
   rw[List.drop_of_length_le (by omega)]at hw
   simp only[val,Nat.mul_zero,Nat.add_zero]at hw
   simp+decide (disch:=try exact D3 h6 h7 h8) only[go_sem,h6,h7,h8]
   simp (disch:=decide) only[Qbu,Qcf]
   refine Qab (a.length-(i+1)) (by omega) ⟨i+1,M,rfl,by omega,by omega,hM,?_,?_⟩
   ·rw[hw,hv,hts,Nat.add_mul,Nat.mul_assoc]
   ·simp+decide (disch:=try exact D0) only[go_sem]
 ·obtain rfl:i=a.length:=by omega
  rw[List.take_length]at hv
  simp+decide (disch:=try exact D0) only[go_sem]
  refine Qfz hP (Qbx hL (by omega)) (by simp+decide (disch:=try exact E0) only[go_sem,Qac,List.contains_cons,List.contains_nil,List.flatMap_cons,List.flatMap_nil,List.append_nil];simp[List.take_of_length_le,hLl]) rfl fun hp'=> ?_
  simp+decide (disch:=try exact D0) only[go_sem]
  exact Qc (by rw[hv]) rfl
theorem Qi0{x y:Nat}(hx:nl x<2^40)(hy:nl y<2^40):Qd Tryz.prog 149 [PV.num x,PV.num y] (· =PV.num (x*y)):=by
 have:=Qk2 (Ql x) (Ql y) hx hy
 rwa[Q5,Q5]at this
theorem Q0b{x y:Nat}(hx:nl x<2^42)(hy:nl y<2^42):Qd Tryz.prog 215 [PV.num x,PV.num y] (· = .int .i64 (Qdz x y)):=by
 have:=Qh7 (Ql x) (Ql y) hx hy
 rwa[Q5,Q5]at this
theorem Qre{x y:Nat}(hx:nl x<2^40)(hy:nl y<2^40)(h:y<=x):Qd Tryz.prog 199 [PV.num x,PV.num y] (· = .tup [PV.num (x-y),.int .i64 0]):=by
 have:=Qk1 (Ql x) (Ql y) hx hy
 rwa[Q5,Q5,if_neg (by omega)]at this
theorem Qyj{x y:Nat}:Qdz x y<=0↔x<=y:=by unfold Qdz;split<;>(try split)<;>omega
theorem Qnc{x y:Nat}(hx:nl x<2^38)(hy:nl y<2^38)(hy0:0<y):Qd Tryz.prog 198 [PV.num x,PV.num y] (· = .int .u64 (min 65535 (x/y):Nat)):=by
 have hq2:∀(n d:Nat) fr hp K,n<18446744073709551616->Qa4 .quo false (.int .u64 (n:Int)) (.int .u64 2) d fr hp K=K (upd fr d (.int .u64 ((n/2:Nat):Int))) hp:=fun n d fr hp K h=>by
  rw[show(2:Int)=((2:Nat):Int)from rfl,Qi5 (by omega) h]
 refine Qi Qt Tryz.func198 rfl Qacl (by simp[Q79]) fun C hP=> ?_;simp only[Q79,Zo,Zg,Zm,Zc,Zf,Zl,Zh,Zs,Zi,Zb,Zk,Zn,Zu,Zq,Zr,Zz]
 simp+decide (disch:=try exact D0) only[go_sem]
 refine Qai (by repeat (first|exact Qw|exact Qo|exact Qp|exact Qq|exact Qr|apply Qn|apply Qv|apply Qz|apply Q6|apply Q7|apply Qk|apply Qu)) [(5,25)] [] (fun m J hp=>∃lo hi:Nat,m=hi-lo/\lo<=hi/\hi<=65535/\y*lo<=x/\(hi=65535∨x<y*(hi+1))/\J 5= .int .u64 lo/\J 6= .int .u64 hi) 65535 ?_ ?_
 ·refine⟨0,65535,rfl,by omega,by omega,by omega,.inl rfl,?_⟩
  simp+decide (disch:=try exact D0) only[go_sem]
  simp
 rintro _ J h ⟨lo,hi,rfl,h1,h2,h3,h4,h5,h6⟩
 simp+decide (disch:=try exact D2 h5 h6) only[go_sem,h5,h6]
 refine Qb (fun hg=> ?_) (fun hg=> ?_)
 ·have hsz:nl ((lo+hi+1)/2)<=4:=Qd9 (by omega)
  have hm:=Qfy y ((lo+hi+1)/2)
  generalize hmid:(lo+hi+1)/2=mid at *
  simp+decide (disch:=try exact D4 h5 h6 hq2 hmid) only[go_sem,h5,h6,hq2,hmid]
  refine Qa hP (Qc8 (n:=mid) (by omega)) rfl rfl rfl ?_
  simp+decide (disch:=try exact D2 h5 h6) only[go_sem,h5,h6]
  refine Qa hP (Qi0 (x:=y) (y:=mid) (by omega) (by omega)) rfl rfl rfl ?_
  simp+decide (disch:=try exact D2 h5 h6) only[go_sem,h5,h6]
  refine Qa hP (Q0b (x:=y*mid) (y:=x) (by omega) (by omega)) rfl rfl rfl ?_
  simp+decide (disch:=try exact D2 h5 h6) only[go_sem,h5,h6]
  refine Qb (fun hc=> ?_) (fun hc=> ?_)
  ·rw[Qyj]at hc
   simp+decide (disch:=try exact D2 h5 h6) only[go_sem,h5,h6]
   refine Qab (hi-mid) (by omega) ⟨mid,hi,rfl,by omega,h2,hc,h4,?_⟩
   simp+decide (disch:=try exact D1 h6) only[go_sem,h6]
  ·rw[Qyj]at hc
   obtain⟨n,rfl⟩:∃n,mid=n+1:=⟨mid-1,by omega⟩
   have e:((n+1:Nat):Int)-1=n:=by omega
   simp+decide (disch:=try exact D3 h5 h6 e) only[go_sem,h5,h6,e]
   refine Qab (n-lo) (by omega) ⟨lo,n,rfl,by omega,by omega,h3,.inr (by omega),?_⟩
   simp+decide (disch:=try exact D1 h5) only[go_sem,h5]
 ·obtain rfl:lo=hi:=by omega
  simp+decide (disch:=try exact D1 h5) only[go_sem,h5]
  refine Qc ?_ rfl
  have hle:lo<=x/y:=(Nat.le_div_iff_mul_le hy0).2 (by rw[Nat.mul_comm];exact h3)
  rcases h4 with rfl|h4
  ·rw[Nat.min_eq_left hle]
  ·have:x/y<lo+1:=(Nat.div_lt_iff_lt_mul hy0).2 (by rw[Nat.mul_comm];exact h4)
   congr 2;omega
theorem Qlv{a b:List Nat}(ha:Qj a)(hb:Qj b)(hla:a.length<2^36)(hlb:b.length<2^36):Qd Tryz.prog 147 [PV.nat a,PV.nat b]
  (· =if val b=0 then .tup [PV.num 0,PV.num 0,.int .i64 3]else .tup [PV.num (val a/val b),PV.num (val a%val b),.int .i64 0]):=by
 have hda:=Qam ha
 have hdb:=Qam hb
 refine Qi Qt Tryz.func147 rfl Qacm (by simp[Q8a]) fun C hP=> ?_;simp only[Q8a,Zo,Zg,Zm,Zc,Zf,Zl,Zh,Zs,Zi,Zb,Zk,Zn,Zu,Zq,Zr,Zz]
 simp+decide (disch:=try exact D0) only[go_sem]
 refine Qa hP (Qbx ha (by omega)) rfl rfl rfl ?_
 simp+decide (disch:=try exact D0) only[go_sem]
 refine Qa hP (Qbx hb (by omega)) rfl rfl rfl ?_
 simp+decide (disch:=try exact D0) only[go_sem]
 generalize val a=x at *
 generalize val b=y at *
 unfold nl at hda hdb
 refine Qb (fun hz=> ?_) (fun hz=> ?_)
 ·have hy0:y=0:=Qbm.1 (Qc3 (by omega))
  simp+decide (disch:=try exact D0) only[go_sem]
  rw[if_pos hy0]
  exact Qmc rfl rfl rfl rfl Qhv Qhv (Qy _)
 have hy0:y≠0:=fun h=>by rw[h,Qa2]at hz;simp at hz
 rw[if_neg hy0]
 have hyp:0<y:=Nat.pos_of_ne_zero hy0
 have hxl:=Ql x
 have hyl:=Ql y
 have hxv:=Q5 x
 have hyv:=Q5 y
 simp+decide (disch:=try exact D0) only[go_sem]
 refine Qbq (fun h1=> ?_) (fun h1=> ?_)
 ·simp+decide (disch:=try exact D0) only[go_sem]
  refine Qb (fun h2=> ?_) (fun h2=> ?_)
  ·have hx64:=Qj7.1 (show nl x<=4 by unfold nl;omega)
   have hy64:=Qj7.1 (show nl y<=4 by unfold nl;omega)
   have hq:=Nat.div_le_self x y
   have hr:=Nat.mod_lt x hyp
   simp+decide (disch:=try exact D0) only[go_sem]
   refine Qa hP (Qgo hxl (by omega)) rfl rfl rfl ?_
   simp+decide (disch:=try exact D1 hxv) only[go_sem,hxv]
   refine Qa hP (Qgo hyl (by omega)) rfl rfl rfl ?_
   simp+decide (disch:=first|omega|rfl|(simp+decide only[go_sem,hxv,hyv,Qi5]<;>rfl)|fail) only[go_sem,hxv,hyv,Qi5]
   refine Qa hP (Qc8 (n:=x/y) (by omega)) rfl rfl rfl ?_
   simp+decide (disch:=try exact D0) only[go_sem]
   refine Qa hP (Qgo hxl (by omega)) rfl rfl rfl ?_
   simp+decide (disch:=try exact D1 hxv) only[go_sem,hxv]
   refine Qa hP (Qgo hyl (by omega)) rfl rfl rfl ?_
   simp+decide (disch:=first|omega|rfl|(simp+decide only[go_sem,hxv,hyv,Qd5]<;>rfl)|fail) only[go_sem,hxv,hyv,Qd5]
   refine Qa hP (Qc8 (n:=x%y) (by omega)) rfl rfl rfl ?_
   simp+decide (disch:=try exact D0) only[go_sem]
   exact Qmc rfl rfl rfl rfl (Qy _) (Qy _) (Qy _)
  ·have hsep:=trivial
   simp+decide (disch:=try exact D0) only[go_sem]
   refine Qoq 7 1 T0 ?_
   refine Qoq 8 1 T0 ?_
   refine Qvq (by repeat (first|exact Qw|exact Qo|exact Qp|exact Qq|exact Qr|apply Qn|apply Qv|apply Qz|apply Q6|apply Q7|apply Qk|apply Qu)) [(7,10),(41,69)] [49,51,58,60] (fun k J hp=>∃qs,k<=(dig x).length/\qs.length=(dig x).length-k/\Qj qs/\val qs=val ((dig x).drop k)/y/\J 7= .sl 1 (Qa3 qs)/\J 8=PV.num (val ((dig x).drop k)%y)/\J 9= .int .i64 ((k:Int)-1)) (dig x).length ?_ ?_
   ·refine⟨[],Nat.le_refl _,by simp,Qcy,by simp[val],?_⟩
    simp+decide (disch:=try exact D0) only[go_sem]
    simp[val,Qa2]
   rintro k J h ⟨qs,hk,hql,hqs,hqv,h7,h8,h9⟩
   simp+decide (disch:=try exact D3 h7 h8 h9) only[go_sem,h7,h8,h9]
   have hr:=Nat.mod_lt (val ((dig x).drop k)) hyp
   refine Qb (fun hg=> ?_) (fun hg=> ?_)
   ·obtain _|n:=k
    ·omega
    have hn:n<(dig x).length:=by omega
    have han:=Qal hxl hn
    have e:((n+1:Nat):Int)-1=n:=by omega
    have hst:=Qq5 (x:=(dig x)[n]) hyp hqv
    rw[<-Qcv hn]at hst
    generalize hV:val ((dig x).drop (n+1))%y=r at *
    generalize hxx:(dig x)[n]=xi at *
    have hrl:(dig r).length<=(dig y).length:=Qb0 (Nat.le_of_lt hr)
    have hlim:Qj ([xi]++dig r):=by rw[Qbw];exact⟨by intro z hz;simp at hz;omega,Ql r⟩
    have hvl:val ([xi]++dig r)=r*65536+xi:=by rw[Qcc,Q5];simp[val];omega
    have hlt:(r*65536+xi)/y<65536:=by
     rw[Nat.div_lt_iff_lt_mul hyp]
     have:(r+1)*65536<=y*65536:=Nat.mul_le_mul_right _ hr
     omega
    have hnR:nl (r*65536+xi)<=(dig y).length+1:=by
     have:=Qam hlim
     rw[hvl,List.length_append]at this
     simp at this;omega
    have hdm:=Nat.div_add_mod (r*65536+xi) y
    have hnm:nl (y*((r*65536+xi)/y))<=(dig y).length+1:=Nat.le_trans (Qb0 (by omega)) hnR
    have hn4:nl ((r*65536+xi)/y)<=4:=Qd9 (by omega)
    have hsub:r*65536+xi-y*((r*65536+xi)/y)=(r*65536+xi)%y:=by omega
    simp+decide (disch:=try exact D5 h7 h8 h9 e hxx) only[go_sem,h7,h8,h9,e,hxx]
    rw[Qi7 (f:=fun(x:Nat)=> .int .u16 x) (xs:=[xi]) (ys:=dig r) (n:=1) Tr0 rfl (by omega) (by omega) (by omega)]
    simp+decide (disch:=try exact D5 h7 h8 h9 e hxx) only[go_sem,h7,h8,h9,e,hxx]
    refine Qdj hP (Qbx (l:=[xi]++dig r) hlim (by simp;omega)) (by simp+decide (disch:=try exact E0) only[go_sem,Qac,List.contains_cons,List.contains_nil,List.flatMap_cons,List.flatMap_nil,List.append_nil];simp[Nat.add_comm 1,List.take_of_length_le]) rfl ?_
    rw[hvl]
    simp+decide (disch:=try exact D5 h7 h8 h9 e hxx) only[go_sem,h7,h8,h9,e,hxx]
    refine Qa hP (Qnc (x:=r*65536+xi) (y:=y) (by omega) (by unfold nl;omega) hyp) rfl rfl rfl ?_
    rw[Nat.min_eq_right (by omega:(r*65536+xi)/y<=65535)]
    generalize hD:(r*65536+xi)/y=D at *
    simp+decide (disch:=first|omega|rfl|(simp+decide only[go_sem,h7,h8,h9,e,hxx,Nat.mod_eq_of_lt hlt]<;>rfl)|fail) only[go_sem,h7,h8,h9,e,hxx,Nat.mod_eq_of_lt hlt]
    rw[Qi7 (f:=fun(x:Nat)=> .int .u16 x) (xs:=[D]) (ys:=qs) (n:=1) Tr0 rfl (by omega) (by omega) (by omega)]
    simp+decide (disch:=try exact D5 h7 h8 h9 e hxx) only[go_sem,h7,h8,h9,e,hxx]
    refine Qa hP (Qc8 (n:=D) (by omega)) rfl rfl rfl ?_
    simp+decide (disch:=try exact D4 h7 h8 h9 e) only[go_sem,h7,h8,h9,e]
    refine Qa hP (Qi0 (x:=y) (y:=D) (by unfold nl;omega) (by omega)) rfl rfl rfl ?_
    simp+decide (disch:=try exact D4 h7 h8 h9 e) only[go_sem,h7,h8,h9,e]
    refine Qa hP (Qre (x:=r*65536+xi) (y:=y*D) (by omega) (by omega) (by omega)) rfl rfl rfl ?_
    rw[hsub]
    simp+decide (disch:=try exact D4 h7 h8 h9 e) only[go_sem,h7,h8,h9,e]
    refine Qq4 7 n rfl ?_ (by omega) ⟨D::qs,by omega,by simp;omega,?_,?_,?_⟩
    ·simp+decide (disch:=try exact E0) only[go_sem,Qac,List.contains_cons,List.contains_nil,List.flatMap_cons,List.flatMap_nil,List.append_nil]
    ·rw[Qax];exact⟨hlt,hqs⟩
    ·rw[val,hst.1]
    ·simp+decide (disch:=try exact E1 hst.2) only[go_sem,Qac,List.contains_cons,List.contains_nil,List.flatMap_cons,List.flatMap_nil,List.append_nil,hst.2]
     simp[Nat.add_comm 1,List.take_of_length_le]
   ·obtain rfl:k=0:=by omega
    rw[List.drop_zero,hxv]at hqv h8
    simp+decide (disch:=try exact D2 h7 h8) only[go_sem,h7,h8]
    refine Qa hP (Qbx hqs (by omega)) rfl rfl rfl ?_
    simp+decide (disch:=try exact D2 h7 h8) only[go_sem,h7,h8]
    exact Qmc rfl rfl rfl rfl (Qgv (by rw[hqv])) (Qy _) (Qy _)
 ·have hsep:=trivial
  simp+decide (disch:=try exact D0) only[go_sem]
  refine Qoq 7 1 T0 ?_
  refine Qoq 8 1 T0 ?_
  refine Qvq (by repeat (first|exact Qw|exact Qo|exact Qp|exact Qq|exact Qr|apply Qn|apply Qv|apply Qz|apply Q6|apply Q7|apply Qk|apply Qu)) [(7,10),(41,69)] [49,51,58,60] (fun k J hp=>∃qs,k<=(dig x).length/\qs.length=(dig x).length-k/\Qj qs/\val qs=val ((dig x).drop k)/y/\J 7= .sl 1 (Qa3 qs)/\J 8=PV.num (val ((dig x).drop k)%y)/\J 9= .int .i64 ((k:Int)-1)) (dig x).length ?_ ?_
  ·refine⟨[],Nat.le_refl _,by simp,Qcy,by simp[val],?_⟩
   simp+decide (disch:=try exact D0) only[go_sem]
   simp[val,Qa2]
  rintro k J h ⟨qs,hk,hql,hqs,hqv,h7,h8,h9⟩
  simp+decide (disch:=try exact D3 h7 h8 h9) only[go_sem,h7,h8,h9]
  have hr:=Nat.mod_lt (val ((dig x).drop k)) hyp
  refine Qb (fun hg=> ?_) (fun hg=> ?_)
  ·obtain _|n:=k
   ·omega
   have hn:n<(dig x).length:=by omega
   have han:=Qal hxl hn
   have e:((n+1:Nat):Int)-1=n:=by omega
   have hst:=Qq5 (x:=(dig x)[n]) hyp hqv
   rw[<-Qcv hn]at hst
   generalize hV:val ((dig x).drop (n+1))%y=r at *
   generalize hxx:(dig x)[n]=xi at *
   have hrl:(dig r).length<=(dig y).length:=Qb0 (Nat.le_of_lt hr)
   have hlim:Qj ([xi]++dig r):=by rw[Qbw];exact⟨by intro z hz;simp at hz;omega,Ql r⟩
   have hvl:val ([xi]++dig r)=r*65536+xi:=by rw[Qcc,Q5];simp[val];omega
   have hlt:(r*65536+xi)/y<65536:=by
    rw[Nat.div_lt_iff_lt_mul hyp]
    have:(r+1)*65536<=y*65536:=Nat.mul_le_mul_right _ hr
    omega
   have hnR:nl (r*65536+xi)<=(dig y).length+1:=by
    have:=Qam hlim
    rw[hvl,List.length_append]at this
    simp at this;omega
   have hdm:=Nat.div_add_mod (r*65536+xi) y
   have hnm:nl (y*((r*65536+xi)/y))<=(dig y).length+1:=Nat.le_trans (Qb0 (by omega)) hnR
   have hn4:nl ((r*65536+xi)/y)<=4:=Qd9 (by omega)
   have hsub:r*65536+xi-y*((r*65536+xi)/y)=(r*65536+xi)%y:=by omega
   simp+decide (disch:=try exact D5 h7 h8 h9 e hxx) only[go_sem,h7,h8,h9,e,hxx]
   rw[Qi7 (f:=fun(x:Nat)=> .int .u16 x) (xs:=[xi]) (ys:=dig r) (n:=1) Tr0 rfl (by omega) (by omega) (by omega)]
   simp+decide (disch:=try exact D5 h7 h8 h9 e hxx) only[go_sem,h7,h8,h9,e,hxx]
   refine Qdj hP (Qbx (l:=[xi]++dig r) hlim (by simp;omega)) (by simp+decide (disch:=try exact E0) only[go_sem,Qac,List.contains_cons,List.contains_nil,List.flatMap_cons,List.flatMap_nil,List.append_nil];simp[Nat.add_comm 1,List.take_of_length_le]) rfl ?_
   rw[hvl]
   simp+decide (disch:=try exact D5 h7 h8 h9 e hxx) only[go_sem,h7,h8,h9,e,hxx]
   refine Qa hP (Qnc (x:=r*65536+xi) (y:=y) (by omega) (by unfold nl;omega) hyp) rfl rfl rfl ?_
   rw[Nat.min_eq_right (by omega:(r*65536+xi)/y<=65535)]
   generalize hD:(r*65536+xi)/y=D at *
   simp+decide (disch:=first|omega|rfl|(simp+decide only[go_sem,h7,h8,h9,e,hxx,Nat.mod_eq_of_lt hlt]<;>rfl)|fail) only[go_sem,h7,h8,h9,e,hxx,Nat.mod_eq_of_lt hlt]
   rw[Qi7 (f:=fun(x:Nat)=> .int .u16 x) (xs:=[D]) (ys:=qs) (n:=1) Tr0 rfl (by omega) (by omega) (by omega)]
   simp+decide (disch:=try exact D5 h7 h8 h9 e hxx) only[go_sem,h7,h8,h9,e,hxx]
   refine Qa hP (Qc8 (n:=D) (by omega)) rfl rfl rfl ?_
   simp+decide (disch:=try exact D4 h7 h8 h9 e) only[go_sem,h7,h8,h9,e]
   refine Qa hP (Qi0 (x:=y) (y:=D) (by unfold nl;omega) (by omega)) rfl rfl rfl ?_
   simp+decide (disch:=try exact D4 h7 h8 h9 e) only[go_sem,h7,h8,h9,e]
   refine Qa hP (Qre (x:=r*65536+xi) (y:=y*D) (by omega) (by omega) (by omega)) rfl rfl rfl ?_
   rw[hsub]
   simp+decide (disch:=try exact D4 h7 h8 h9 e) only[go_sem,h7,h8,h9,e]
   refine Qq4 7 n rfl ?_ (by omega) ⟨D::qs,by omega,by simp;omega,?_,?_,?_⟩
   ·simp+decide (disch:=try exact E0) only[go_sem,Qac,List.contains_cons,List.contains_nil,List.flatMap_cons,List.flatMap_nil,List.append_nil]
   ·rw[Qax];exact⟨hlt,hqs⟩
   ·rw[val,hst.1]
   ·simp+decide (disch:=try exact E1 hst.2) only[go_sem,Qac,List.contains_cons,List.contains_nil,List.flatMap_cons,List.flatMap_nil,List.append_nil,hst.2]
    simp[Nat.add_comm 1,List.take_of_length_le]
  ·obtain rfl:k=0:=by omega
   rw[List.drop_zero,hxv]at hqv h8
   simp+decide (disch:=try exact D2 h7 h8) only[go_sem,h7,h8]
   refine Qa hP (Qbx hqs (by omega)) rfl rfl rfl ?_
   simp+decide (disch:=try exact D2 h7 h8) only[go_sem,h7,h8]
   exact Qmc rfl rfl rfl rfl (Qgv (by rw[hqv])) (Qy _) (Qy _)
theorem Qt2{x y:Nat}(hx:nl x<2^36)(hy:nl y<2^36)(h0:y≠0):Qd Tryz.prog 147 [PV.num x,PV.num y] (· = .tup [PV.num (x/y),PV.num (x%y),.int .i64 0]):=by
 have:=Qlv (Ql x) (Ql y) hx hy
 rwa[Q5,Q5,if_neg h0]at this
theorem Qpk{a b:List Nat}(ha:Qj a)(hb:Qj b)(hla:a.length<2^36)(hlb:b.length<2^36):Qd Tryz.prog 83 [PV.nat a,PV.nat b] (· =PV.num (Nat.gcd (val a) (val b))):=by
 have hda:=Qam ha
 have hdb:=Qam hb
 refine Qi Qt Tryz.func83 rfl Qafm (by simp[c83]) fun C hP=> ?_;simp only[c83,Zo,Zg,Zm,Zc,Zf,Zl,Zh,Zs,Zi,Zb,Zk,Zn,Zu,Zq,Zr,Zz]
 simp+decide (disch:=try exact D0) only[go_sem]
 refine Qa hP (Qbx ha (by omega)) rfl rfl rfl ?_
 simp+decide (disch:=try exact D0) only[go_sem]
 refine Qa hP (Qbx hb (by omega)) rfl rfl rfl ?_
 simp+decide (disch:=try exact D0) only[go_sem]
 refine Qai (by repeat (first|exact Qw|exact Qo|exact Qp|exact Qq|exact Qr|apply Qn|apply Qv|apply Qz|apply Q6|apply Q7|apply Qk|apply Qu)) [(0,1),(5,7),(12,23)] [] (fun m J hp=>∃x y,m=y/\Nat.gcd x y=Nat.gcd (val a) (val b)/\nl x<2^36/\nl y<2^36/\J 0=PV.num x/\J 1=PV.num y/\hp=hp0) (val b) ?_ ?_
 ·refine⟨val a,val b,rfl,rfl,by omega,by omega,?_⟩
  simp+decide (disch:=try exact D0) only[go_sem]
 rintro y J _ ⟨x,_,rfl,hg,hx,hy,h0,h1,rfl⟩
 generalize Nat.gcd (val a) (val b)=g at *
 simp+decide (disch:=try exact D2 h0 h1) only[go_sem,h0,h1]
 refine Qb (fun hc=> ?_) (fun hc=> ?_)
 ·have hy0:y≠0:=fun h=>by rw[h,Qa2]at hc;simp at hc
  have hmod:=Qb0 (Nat.le_of_lt (Nat.mod_lt x (Nat.pos_of_ne_zero hy0)))
  simp+decide (disch:=try exact D2 h0 h1) only[go_sem,h0,h1]
  refine Qa hP (Qt2 (x:=x) (y:=y) hx hy hy0) rfl rfl rfl ?_
  simp+decide (disch:=try exact D2 h0 h1) only[go_sem,h0,h1]
  refine Qab (x%y) (Nat.mod_lt _ (Nat.pos_of_ne_zero hy0)) ⟨y,x%y,rfl,?_,hy,by omega,?_⟩
  ·rw[<-hg,Nat.gcd_comm x y,Nat.gcd_rec y x,Nat.gcd_comm]
  ·simp+decide (disch:=try exact D0) only[go_sem]
 ·have hy0:y=0:=Qbm.1 (Qc3 (by omega))
  subst hy0
  simp+decide (disch:=try exact D1 h0) only[go_sem,h0]
  exact Qc (by rw[<-hg,Nat.gcd_zero_right]) rfl
theorem Qel{n:Bool}{a:List Nat}(ha:Qj a)(hla:a.length<2^42):Qd Tryz.prog 183 [.bool n,PV.nat a] (· =PV.zz (zv n a)):=by
 refine Qi Qt Tryz.func183 rfl Qacn (by simp[Q8b]) fun C hP=> ?_;simp only[Q8b,Zo,Zg,Zm,Zc,Zf,Zl,Zh,Zs,Zi,Zb,Zk,Zn,Zu,Zq,Zr,Zz]
 simp+decide (disch:=try exact D0) only[go_sem]
 refine Qa hP (Qbx ha hla) rfl rfl rfl ?_
 simp+decide (disch:=try exact D0) only[go_sem]
 refine Qf8 (fun hn=> ?_) (fun hn=> ?_)
 all_goals
  simp+decide (disch:=try exact D0) only[go_sem]
  refine Qa1 ?_
  simp+decide (disch:=try exact D0) only[go_sem]
  exact Qc (by have:=Qsb n (val a);rw[hn]at this;subst hn;simpa[zv]using this) rfl
theorem Qhj{n:Bool}{a:List Nat}(ha:Qj a)(hla:a.length<2^42):Qd Tryz.prog 152 [PV.zi n a] (· =PV.zz (zv n a)):=by
 refine Qi Qt Tryz.func152 rfl Qaco (by simp[Q8c]) fun C hP=> ?_;simp only[Q8c,Zo,Zg,Zm,Zc,Zf,Zl,Zh,Zs,Zi,Zb,Zk,Zn,Zu,Zq,Zr,Zz]
 simp+decide (disch:=try exact D0) only[go_sem]
 refine Qa hP (Qel ha hla) rfl rfl rfl ?_
 simp+decide (disch:=try exact D0) only[go_sem]
 refine Qa1 ?_
 simp+decide (disch:=try exact D0) only[go_sem]
 exact Qc rfl rfl
theorem Qpl{n m:Bool}{a b:List Nat}(ha:Qj a)(hb:Qj b)(hla:a.length<2^40)(hlb:b.length<2^40):Qd Tryz.prog 148 [PV.zi n a,PV.zi m b] (· =PV.zz (zv n a*zv m b)):=by
 have hr:nl (val a*val b)<2^42:=by have:=Qfy (val a) (val b);have:=Qam ha;have:=Qam hb;omega
 refine Qi Qt Tryz.func148 rfl Qact (by simp[Q8h]) fun C hP=> ?_;simp only[Q8h,Zo,Zg,Zm,Zc,Zf,Zl,Zh,Zs,Zi,Zb,Zk,Zn,Zu,Zq,Zr,Zz]
 simp+decide (disch:=try exact D0) only[go_sem]
 refine Qa hP (Qk2 ha hb hla hlb) rfl rfl rfl ?_
 simp+decide (disch:=try exact D0) only[go_sem]
 refine Qa hP (Qel (n:= !(n==m)) (Ql (val a*val b)) hr) rfl rfl rfl ?_
 simp+decide (disch:=try exact D0) only[go_sem]
 refine Qa1 ?_
 simp+decide (disch:=try exact D0) only[go_sem]
 exact Qc (congrArg PV.zz (by rw[Qhf];unfold zv;cases n<;>cases m<;>simp[Int.neg_mul,Int.mul_neg])) rfl
theorem Qm1{x:Int}(h1: -9223372036854775808<=x)(h2:x<=9223372036854775807):Qd Tryz.prog 120 [.int .i64 x] (· =PV.zz x):=by
 refine Qi Qt Tryz.func120 rfl Qacp (by simp[Q8d]) fun C hP=> ?_;simp only[Q8d,Zo,Zg,Zm,Zc,Zf,Zl,Zh,Zs,Zi,Zb,Zk,Zn,Zu,Zq,Zr,Zz]
 simp+decide (disch:=try exact D0) only[go_sem]
 refine Qb (fun hc=> ?_) (fun hc=> ?_)
 ·obtain⟨y,hy⟩:∃y:Nat,x= -((y:Int)+1):=⟨(-(x+1)).toNat,by omega⟩
  have e1:IntKind.i64.wrap (x+1)= -(y:Int):=by rw[Qgt (by omega) (by omega)];omega
  have e2:IntKind.i64.wrap (0- -(y:Int))=(y:Int):=by rw[Qgt (by omega) (by omega)];omega
  have e3:IntKind.u64.wrap (y:Int)=(y:Int):=Qe8 (by omega) (by omega)
  have hl1:nl y<=4:=Qd9 (by omega)
  have hl2:nl (y+1)<=4:=Qd9 (by omega)
  simp+decide (disch:=try exact D3 e1 e2 e3) only[go_sem,e1,e2,e3]
  refine Qa hP (Qc8 (n:=y) (by omega)) rfl rfl rfl ?_
  simp+decide (disch:=try exact D0) only[go_sem]
  refine Qa hP (Qc8 (n:=1) (by omega)) rfl rfl rfl ?_
  simp+decide (disch:=try exact D0) only[go_sem]
  refine Qa hP (Qpj (Ql y) (Ql 1) (show nl y<_ by omega) (show nl 1<_ by rw[Qnu];omega)) rfl rfl rfl ?_
  simp+decide (disch:=try exact D0) only[go_sem]
  refine Qa hP (Qel (n:=true) (Ql (val (dig y)+val (dig 1))) (show nl _<_ by rw[Q5,Q5];omega)) rfl rfl rfl ?_
  simp+decide (disch:=try exact D0) only[go_sem]
  refine Qa1 ?_
  simp+decide (disch:=try exact D0) only[go_sem]
  exact Qc (congrArg PV.zz (by rw[Qhf,Q5,Q5];simp;omega)) rfl
 ·obtain⟨y,rfl⟩:∃y:Nat,x=y:=⟨x.toNat,by omega⟩
  have hl1:nl y<=4:=Qd9 (by omega)
  simp+decide (disch:=try exact D0) only[go_sem]
  refine Qa hP (Qc8 (by omega)) rfl rfl rfl ?_
  simp+decide (disch:=try exact D0) only[go_sem]
  refine Qa hP (Qel (n:=false) (Ql y) (show nl _<_ by omega)) rfl rfl rfl ?_
  simp+decide (disch:=try exact D0) only[go_sem]
  refine Qa1 ?_
  simp+decide (disch:=try exact D0) only[go_sem]
  exact Qc (congrArg PV.zz (by rw[Qhf];simp)) rfl
theorem Qwc{n:Bool}{a:List Nat}(ha:Qj a)(hla:a.length<2^42):Qd Tryz.prog 88 [PV.zi n a] (· = .int .i64 (sgn (zv n a))):=by
 refine Qi Qt Tryz.func88 rfl Qafq (by simp[c88]) fun C hP=> ?_;simp only[c88,Zo,Zg,Zm,Zc,Zf,Zl,Zh,Zs,Zi,Zb,Zk,Zn,Zu,Zq,Zr,Zz]
 simp+decide (disch:=try exact D0) only[go_sem]
 refine Qa hP (Qhj ha hla) rfl rfl rfl ?_
 generalize zv n a=z
 simp+decide (disch:=try exact D0) only[go_sem]
 refine Qb (fun hz=> ?_) (fun hz=> ?_)
 ·have:z=0:=by have:=Qbm.1 (Qc3 (n:=z.natAbs) (by omega));omega
  subst this
  simp+decide (disch:=try exact D0) only[go_sem]
  exact Qc rfl rfl
 ·have h0:z≠0:=fun h=>by subst h;exact hz (by simp[Qa2])
  simp+decide (disch:=try exact D0) only[go_sem]
  refine Qig (fun hn=> ?_) (fun hn=> ?_)
  ·have hn:z<0:=by simpa using hn
   simp+decide (disch:=try exact D0) only[go_sem]
   exact Qc (by rw[sgn,if_pos hn]) rfl
  ·have hn:¬z<0:=by simpa using hn
   simp+decide (disch:=try exact D0) only[go_sem]
   exact Qc (by rw[sgn,if_neg hn,if_pos (by omega)]) rfl
theorem Qt3{n:Bool}{a:List Nat}(ha:Qj a)(hla:a.length<2^42):Qd Tryz.prog 80 [PV.zi n a] (· = .bool (Qgc n a)):=by
 refine Qi Qt Tryz.func80 rfl Qafp (by simp[c80]) fun C hP=> ?_;simp only[c80,Zo,Zg,Zm,Zc,Zf,Zl,Zh,Zs,Zi,Zb,Zk,Zn,Zu,Zq,Zr,Zz]
 simp+decide (disch:=try exact D0) only[go_sem]
 refine Qa hP (Qnb ha (by omega)) rfl rfl rfl ?_
 simp+decide (disch:=try exact D0) only[go_sem]
 refine Qf8 (fun hv=> ?_) (fun hv=> ?_)
 ·simp+decide (disch:=try exact D0) only[go_sem]
  refine Qf8 (fun hn=> ?_) (fun hn=> ?_)
  ·simp+decide (disch:=try exact D0) only[go_sem]
   exact Qc (congrArg PV.bool (by unfold Qgc;subst hn;cases a<;>simp_all<;>omega)) rfl
  ·simp+decide (disch:=try exact D0) only[go_sem]
   exact Qc (congrArg PV.bool (by unfold Qgc;subst hn;cases a<;>simp_all)) rfl
 ·simp+decide (disch:=try exact D0) only[go_sem]
  exact Qc (congrArg PV.bool (by unfold Qgc;cases a<;>simp_all)) rfl
theorem Qxi{n m:Bool}{a b:List Nat}(ha:Qj a)(hb:Qj b)(hla:a.length<2^41)(hlb:b.length<2^41):Qd Tryz.prog 182 [PV.zi n a,PV.zi m b] (· = .int .i64 (Qfa (zv n a) (zv m b))):=by
 have hx:nl (zv n a).natAbs<2^41:=by rw[Qbe];have:=Qam ha;omega
 have hy:nl (zv m b).natAbs<2^41:=by rw[Qbe];have:=Qam hb;omega
 refine Qi Qt Tryz.func182 rfl Qacq (by simp[Q8e]) fun C hP=> ?_;simp only[Q8e,Zo,Zg,Zm,Zc,Zf,Zl,Zh,Zs,Zi,Zb,Zk,Zn,Zu,Zq,Zr,Zz]
 simp+decide (disch:=try exact D0) only[go_sem]
 refine Qa hP (Qhj ha (by omega)) rfl rfl rfl ?_
 simp+decide (disch:=try exact D0) only[go_sem]
 refine Qa hP (Qhj hb (by omega)) rfl rfl rfl ?_
 generalize zv n a=x at *
 generalize zv m b=y at *
 have lx:(dig x.natAbs).length<2^41:=hx
 have ly:(dig y.natAbs).length<2^41:=hy
 by_cases hx0:x<0<;>by_cases hy0:y<0
 ·simp+decide (disch:=try exact D2 hx0 hy0) only[go_sem,hx0,hy0]
  refine Qa hP (Qh7 (Ql y.natAbs) (Ql x.natAbs) (by omega) (by omega)) rfl rfl rfl ?_
  simp+decide (disch:=try exact D0) only[go_sem]
  exact Qc (congrArg (PV.int .i64) (by rw[Q5,Q5];unfold Qdz Qfa;split<;>split<;>(try split)<;>(try split)<;>omega)) rfl
 ·simp+decide (disch:=try exact D2 hx0 hy0) only[go_sem,hx0,hy0]
  exact Qc (congrArg (PV.int .i64) (by unfold Qfa;rw[if_pos (by omega)])) rfl
 ·simp+decide (disch:=try exact D2 hx0 hy0) only[go_sem,hx0,hy0]
  exact Qc (congrArg (PV.int .i64) (by unfold Qfa;rw[if_neg (by omega),if_pos (by omega)])) rfl
 ·simp+decide (disch:=try exact D2 hx0 hy0) only[go_sem,hx0,hy0]
  refine Qa hP (Qh7 (Ql x.natAbs) (Ql y.natAbs) (by omega) (by omega)) rfl rfl rfl ?_
  simp+decide (disch:=try exact D0) only[go_sem]
  exact Qc (congrArg (PV.int .i64) (by rw[Q5,Q5];unfold Qdz Qfa;split<;>split<;>(try split)<;>(try split)<;>omega)) rfl
theorem Qxj{n m:Bool}{a b:List Nat}(ha:Qj a)(hb:Qj b)(hla:a.length<2^40)(hlb:b.length<2^40):Qd Tryz.prog 150 [PV.zi n a,PV.zi m b] (· =PV.zz (zv n a+zv m b)):=by
 have hda:=Qam ha
 have hdb:=Qam hb
 refine Qi Qt Tryz.func150 rfl Qacs (by simp[Q8g]) fun C hP=> ?_;simp only[Q8g,Zo,Zg,Zm,Zc,Zf,Zl,Zh,Zs,Zi,Zb,Zk,Zn,Zu,Zq,Zr,Zz]
 simp+decide (disch:=try exact D0) only[go_sem]
 refine Qig (fun hnm=> ?_) (fun hnm=> ?_)
 ·have hnm:n=m:=by simpa using hnm
  subst hnm
  have hr:=Q1v (val a) (val b)
  simp+decide (disch:=try exact D0) only[go_sem]
  refine Qa hP (Qpj ha hb hla hlb) rfl rfl rfl ?_
  simp+decide (disch:=try exact D0) only[go_sem]
  refine Qa hP (Qel (n:=n) (Ql (val a+val b)) (show nl _<_ by omega)) rfl rfl rfl ?_
  simp+decide (disch:=try exact D0) only[go_sem]
  refine Qa1 ?_
  simp+decide (disch:=try exact D0) only[go_sem]
  exact Qc (congrArg PV.zz (by rw[Qhf];unfold zv;split<;>simp<;>omega)) rfl
 have hnm:n= !m:=by cases n<;>cases m<;>simp_all
 subst hnm
 simp+decide (disch:=try exact D0) only[go_sem]
 refine Qa hP (Qk1 ha hb hla hlb) rfl rfl rfl ?_
 by_cases hc:val a<val b
 ·rw[if_pos hc]
  have hr:=Qb0 (Nat.sub_le (val b) (val a))
  simp+decide (disch:=try exact D0) only[go_sem]
  refine Qa hP (Qk1 hb ha hlb hla) rfl rfl rfl ?_
  rw[if_neg (by omega)]
  simp+decide (disch:=try exact D0) only[go_sem]
  refine Qa hP (Qel (n:=m) (Ql (val b-val a)) (show nl _<_ by omega)) rfl rfl rfl ?_
  simp+decide (disch:=try exact D0) only[go_sem]
  refine Qa1 ?_
  simp+decide (disch:=try exact D0) only[go_sem]
  exact Qc (congrArg PV.zz (by rw[Qhf];unfold zv;cases m<;>simp<;>omega)) rfl
 ·rw[if_neg hc]
  have hr:=Qb0 (Nat.sub_le (val a) (val b))
  simp+decide (disch:=try exact D0) only[go_sem]
  refine Qa hP (Qel (n:= !m) (Ql (val a-val b)) (show nl _<_ by omega)) rfl rfl rfl ?_
  simp+decide (disch:=try exact D0) only[go_sem]
  refine Qa1 ?_
  simp+decide (disch:=try exact D0) only[go_sem]
  exact Qc (congrArg PV.zz (by rw[Qhf];unfold zv;cases m<;>simp<;>omega)) rfl
theorem Qn2{a:List Nat}{g:Nat}(ha:Qj a)(hx:a.length<2^36)(hy:nl g<2^36)(h0:g≠0):Qd Tryz.prog 147 [PV.nat a,PV.num g] (· = .tup [PV.num (val a/g),PV.num (val a%g),.int .i64 0]):=by
 have:=Qlv ha (Ql g) hx hy
 rwa[Q5,if_neg h0]at this
theorem Qafz(n:Bool)(a:List Nat)(D:Nat):zv n (dig (val a/Nat.gcd (val a) D))=zv n a/(Nat.gcd (zv n a).natAbs D:Int):=by
 rw[Qbe,Qhf]
 unfold zv
 cases n
 ·simp
 ·have hd:((Nat.gcd (val a) D:Nat):Int)∣(val a:Int):=Int.natCast_dvd_natCast.2 (Nat.gcd_dvd_left _ _)
  simp only[if_true]
  rw[Int.neg_ediv_of_dvd hd,Int.natCast_ediv]
theorem Qn3{n:Bool}{a d:List Nat}(ha:Qj a)(hd:Qj d)(hla:a.length<2^36)(hld:d.length<2^36):Qd Tryz.prog 119 [PV.zi n a,PV.nat d] (· =PV.rat (rv n a d)):=by
 have hna:=Qam ha
 have hnd:=Qam hd
 refine Qi Qt Tryz.func119 rfl Qacu (by simp[Q8i]) fun C hP=> ?_;simp only[Q8i,Zo,Zg,Zm,Zc,Zf,Zl,Zh,Zs,Zi,Zb,Zk,Zn,Zu,Zq,Zr,Zz]
 simp+decide (disch:=try exact D0) only[go_sem]
 refine Qa hP (Qbx hd (by omega)) rfl rfl rfl ?_
 simp+decide (disch:=try exact D0) only[go_sem]
 refine Qb (fun hz=> ?_) (fun hz=> ?_)
 ·have h0:val d=0:=Qbm.1 (Qc3 (n:=val d) (by omega))
  simp+decide (disch:=try exact D0) only[go_sem]
  refine Qa hP (Qc8 (n:=1) (by omega)) rfl rfl rfl ?_
  simp+decide (disch:=try exact D0) only[go_sem]
  refine Qa1 ?_
  simp+decide (disch:=try exact D0) only[go_sem]
  exact(by unfold rv;rw[Qpb (.inl h0),Qga];exact Qhu Qx8 rfl)
 ·have h0:val d≠0:=fun h=>by rw[h,Qa2]at hz;exact hz rfl
  have hg0:Nat.gcd (val a) (val d)≠0:=fun h=>h0 (Nat.gcd_eq_zero_iff.1 h).2
  have hg:=Qb0 (Nat.gcd_le_right (val a) (Nat.pos_of_ne_zero h0))
  have hq:=Q2n (val a) (Nat.gcd (val a) (val d))
  simp+decide (disch:=try exact D0) only[go_sem]
  refine Qa hP (Qpk ha hd hla hld) rfl rfl rfl ?_
  simp+decide (disch:=try exact D0) only[go_sem]
  refine Qa hP (Qn2 ha hla (by omega) hg0) rfl rfl rfl ?_
  simp+decide (disch:=try exact D0) only[go_sem]
  refine Qa hP (Qn2 hd hld (by omega) hg0) rfl rfl rfl ?_
  simp+decide (disch:=try exact D0) only[go_sem]
  refine Qa hP (Qhj (n:=n) (Ql (val a/Nat.gcd (val a) (val d))) (show nl _<_ by omega)) rfl rfl rfl ?_
  rw[Qafz]
  have hm:=Qil (z:=zv n a) h0
  simp+decide (disch:=try exact D0) only[go_sem]
  refine Qa1 ?_
  simp+decide (disch:=try exact D0) only[go_sem]
  exact Qc (by unfold rv;rw[PV.rat,hm.1,hm.2,Qbe]) rfl
theorem Qea{n:Bool}{a d:List Nat}{k:Nat}(hp:Raw k n a d)(hk:k<2^36):Qd Tryz.prog 89 [PV.rr n a d] (· =PV.rat (rv n a d)):=by
 obtain⟨ha,hd,sa,sd,k1⟩:=hp
 refine Qi Qt Tryz.func89 rfl Qafs (by simp[c89]) fun C hP=> ?_;simp only[c89,Zo,Zg,Zm,Zc,Zf,Zl,Zh,Zs,Zi,Zb,Zk,Zn,Zu,Zq,Zr,Zz]
 simp+decide (disch:=try exact D0) only[go_sem]
 refine Qa hP (Qn3 (n:=n) ha hd (by omega) (by omega)) rfl rfl rfl ?_
 simp+decide (disch:=try exact D0) only[go_sem]
 refine Qa1 ?_
 simp+decide (disch:=try exact D0) only[go_sem]
 exact Qc rfl rfl
theorem Qgd{z:Int}{D:Nat}(hz:nl z.natAbs<2^36)(hD:nl D<2^36):Qd Tryz.prog 119 [PV.zz z,PV.num D] (· =PV.rat (mkRat z D)):=by
 have:=Qn3 (n:=decide (z<0)) (Ql z.natAbs) (Ql D) hz hD
 rwa[rv,Qe9,Q5]at this
theorem Qge{x:Int}(h1: -9223372036854775808<=x)(h2:x<=9223372036854775807):Qd Tryz.prog 50 [.int .i64 x] (· =PV.rat (x:Rat)):=by
 have hl1:nl x.natAbs<=4:=Qd9 (by omega)
 refine Qi Qt Tryz.func50 rfl Qaft (by simp[c50]) fun C hP=> ?_;simp only[c50,Zo,Zg,Zm,Zc,Zf,Zl,Zh,Zs,Zi,Zb,Zk,Zn,Zu,Zq,Zr,Zz]
 simp+decide (disch:=try exact D0) only[go_sem]
 refine Qa hP (Qm1 h1 h2) rfl rfl rfl ?_
 simp+decide (disch:=try exact D0) only[go_sem]
 refine Qa hP (Qc8 (n:=1) (by omega)) rfl rfl rfl ?_
 simp+decide (disch:=try exact D0) only[go_sem]
 refine Qa hP (Qgd (z:=x) (D:=1) (by omega) (by rw[Qnu];omega)) rfl rfl rfl ?_
 simp+decide (disch:=try exact D0) only[go_sem]
 refine Qa1 ?_
 simp+decide (disch:=try exact D0) only[go_sem]
 exact Qc (congrArg PV.rat (Rat.mkRat_one x)) rfl
theorem Qei(d:List Nat):Qd Tryz.prog 151 [PV.nat d] (· =PV.zi false d):=by
 refine Qi Qt Tryz.func151 rfl Qacw (by simp[Q8k]) fun C hP=> ?_;simp only[Q8k,Zo,Zg,Zm,Zc,Zf,Zl,Zh,Zs,Zi,Zb,Zk,Zn,Zu,Zq,Zr,Zz]
 simp+decide (disch:=try exact D0) only[go_sem]
 refine Qa1 ?_
 simp+decide (disch:=try exact D0) only[go_sem]
 exact Qc rfl rfl
theorem Qrf{x:Int}(hx:nl x.natAbs<2^42):Qd Tryz.prog 88 [PV.zz x] (· = .int .i64 (sgn x)):=by
 have:=Qwc (n:=decide (x<0)) (Ql x.natAbs) hx
 rwa[Qe9]at this
theorem Qwd{n:Bool}{a d:List Nat}{k:Nat}(hp:Raw k n a d)(hk:k<2^36):Qd Tryz.prog 27 [PV.rr n a d] (· = .int .i64 (Qd0 (rv n a d))):=by
 have hs:=hp.rs
 unfold FW.rs at hs
 refine Qi Qt Tryz.func27 rfl Qafu (by simp[c27]) fun C hP=> ?_;simp only[c27,Zo,Zg,Zm,Zc,Zf,Zl,Zh,Zs,Zi,Zb,Zk,Zn,Zu,Zq,Zr,Zz]
 simp+decide (disch:=try exact D0) only[go_sem]
 refine Qa hP (Qea hp hk) rfl rfl rfl ?_
 simp+decide (disch:=try exact D0) only[go_sem]
 refine Qa hP (Qrf (x:=(rv n a d).num) (by omega)) rfl rfl rfl ?_
 simp+decide (disch:=try exact D0) only[go_sem]
 exact Qc rfl rfl
theorem Qg0{x:Int}{d:Nat}(hx:nl x.natAbs<2^40)(hy:nl d<2^40):Qd Tryz.prog 148 [PV.zz x,PV.zi false (dig d)] (· =PV.zz (x*(d:Int))):=by
 have:=Qpl (n:=decide (x<0)) (m:=false) (Ql x.natAbs) (Ql d) hx hy
 rwa[Qe9,Qf1,Q5]at this
theorem Q3p{x y:Int}(hx:nl x.natAbs<2^40)(hy:nl y.natAbs<2^40):Qd Tryz.prog 150 [PV.zz x,PV.zz y] (· =PV.zz (x+y)):=by
 have:=Qxj (n:=decide (x<0)) (m:=decide (y<0)) (Ql x.natAbs) (Ql y.natAbs) hx hy
 rwa[Qe9,Qe9]at this
theorem Q3q{x y:Int}(hx:nl x.natAbs<2^41)(hy:nl y.natAbs<2^41):Qd Tryz.prog 182 [PV.zz x,PV.zz y] (· = .int .i64 (Qfa x y)):=by
 have:=Qxi (n:=decide (x<0)) (m:=decide (y<0)) (Ql x.natAbs) (Ql y.natAbs) hx hy
 rwa[Qe9,Qe9]at this
theorem Qxk{n m:Bool}{a d b c:List Nat}{k:Nat}(hp:Raw k n a d)(hq:Raw k m b c)(hk:k<2^34):Qd Tryz.prog 85 [PV.rr n a d,PV.rr m b c] (· =PV.rat (rv n a d*rv m b c)):=by
 obtain⟨ha,hd,sa,sd,k1⟩:=hp
 obtain⟨hb,hc,sb,sc,k2⟩:=hq
 have h1:=Qar (zv n a) (zv m b)
 have h2:=Qfy (val d) (val c)
 rw[Qbe,Qbe]at h1
 have e1:=Qam ha
 have e2:=Qam hd
 have e3:=Qam hb
 have e4:=Qam hc
 refine Qi Qt Tryz.func85 rfl Qafy (by simp[c85]) fun C hP=> ?_;simp only[c85,Zo,Zg,Zm,Zc,Zf,Zl,Zh,Zs,Zi,Zb,Zk,Zn,Zu,Zq,Zr,Zz]
 simp+decide (disch:=try exact D0) only[go_sem]
 refine Qa hP (Qpl (n:=n) (m:=m) ha hb (by omega) (by omega)) rfl rfl rfl ?_
 simp+decide (disch:=try exact D0) only[go_sem]
 refine Qa hP (Qk2 hd hc (by omega) (by omega)) rfl rfl rfl ?_
 simp+decide (disch:=try exact D0) only[go_sem]
 refine Qa hP (Qgd (z:=zv n a*zv m b) (D:=val d*val c) (by omega) (by omega)) rfl rfl rfl ?_
 simp+decide (disch:=try exact D0) only[go_sem]
 refine Qa1 ?_
 simp+decide (disch:=try exact D0) only[go_sem]
 exact Qc (congrArg PV.rat (Rat.mkRat_mul_mkRat _ _ _ _).symm) rfl
theorem Qxl{n m:Bool}{a d b c:List Nat}{k:Nat}(hp:Raw k n a d)(hq:Raw k m b c)(hk:k<2^34):Qd Tryz.prog 118 [PV.rr n a d,PV.rr m b c] (· = .int .i64 (Qkr (rv n a d) (rv m b c))):=by
 have hx:=hp.rs
 have hy:=hq.rs
 unfold FW.rs at hx hy
 refine Qi Qt Tryz.func118 rfl Qacx (by simp[Q8l]) fun C hP=> ?_;simp only[Q8l,Zo,Zg,Zm,Zc,Zf,Zl,Zh,Zs,Zi,Zb,Zk,Zn,Zu,Zq,Zr,Zz]
 simp+decide (disch:=try exact D0) only[go_sem]
 refine Qa hP (Qea hp (by omega)) rfl rfl rfl ?_
 simp+decide (disch:=try exact D0) only[go_sem]
 refine Qa hP (Qea hq (by omega)) rfl rfl rfl ?_
 generalize rv n a d=p at *
 generalize rv m b c=q at *
 have h1:=Qar p.num (q.den:Int)
 have h2:=Qar q.num (p.den:Int)
 rw[Int.natAbs_natCast]at h1 h2
 simp+decide (disch:=try exact D0) only[go_sem]
 refine Qa hP (Qei (dig q.den)) rfl rfl rfl ?_
 simp+decide (disch:=try exact D0) only[go_sem]
 refine Qa hP (Qg0 (x:=p.num) (d:=q.den) (by omega) (by omega)) rfl rfl rfl ?_
 simp+decide (disch:=try exact D0) only[go_sem]
 refine Qa hP (Qei (dig p.den)) rfl rfl rfl ?_
 simp+decide (disch:=try exact D0) only[go_sem]
 refine Qa hP (Qg0 (x:=q.num) (d:=p.den) (by omega) (by omega)) rfl rfl rfl ?_
 simp+decide (disch:=try exact D0) only[go_sem]
 refine Qa hP (Q3q (x:=p.num*(q.den:Int)) (y:=q.num*(p.den:Int)) (by omega) (by omega)) rfl rfl rfl ?_
 simp+decide (disch:=try exact D0) only[go_sem]
 exact Qc (congrArg (PV.int .i64) (by rw[<-Qx9 p.den_nz q.den_nz,Rat.mkRat_self,Rat.mkRat_self])) rfl
theorem Qnd{n m:Bool}{a d b c:List Nat}{k:Nat}(hp:Raw k n a d)(hq:Raw k m b c)(hk:k<2^34):Qd Tryz.prog 49 [PV.rr n a d,PV.rr m b c] (· = .bool (decide (rv n a d=rv m b c))):=by
 refine Qi Qt Tryz.func49 rfl Qafv (by simp[c49]) fun C hP=> ?_;simp only[c49,Zo,Zg,Zm,Zc,Zf,Zl,Zh,Zs,Zi,Zb,Zk,Zn,Zu,Zq,Zr,Zz]
 simp+decide (disch:=try exact D0) only[go_sem]
 refine Qa hP (Qxl hp hq hk) rfl rfl rfl ?_
 simp+decide (disch:=try exact D0) only[go_sem]
 exact Qc (congrArg PV.bool (decide_eq_decide.2 Qs4)) rfl
theorem Qxm{n m:Bool}{a d b c:List Nat}{k:Nat}(hp:Raw k n a d)(hq:Raw k m b c)(hk:k<2^34):Qd Tryz.prog 87 [PV.rr n a d,PV.rr m b c] (· =PV.rat (rv n a d+rv m b c)):=by
 have hx:=hp.rs
 have hy:=hq.rs
 unfold FW.rs at hx hy
 refine Qi Qt Tryz.func87 rfl Qafx (by simp[c87]) fun C hP=> ?_;simp only[c87,Zo,Zg,Zm,Zc,Zf,Zl,Zh,Zs,Zi,Zb,Zk,Zn,Zu,Zq,Zr,Zz]
 simp+decide (disch:=try exact D0) only[go_sem]
 refine Qa hP (Qea hp (by omega)) rfl rfl rfl ?_
 simp+decide (disch:=try exact D0) only[go_sem]
 refine Qa hP (Qea hq (by omega)) rfl rfl rfl ?_
 generalize rv n a d=p at *
 generalize rv m b c=q at *
 have h1:=Qar p.num (q.den:Int)
 have h2:=Qar q.num (p.den:Int)
 have h3:=Qfj (p.num*(q.den:Int)) (q.num*(p.den:Int))
 have h4:=Qfy p.den q.den
 rw[Int.natAbs_natCast]at h1 h2
 simp+decide (disch:=try exact D0) only[go_sem]
 refine Qa hP (Qei (dig q.den)) rfl rfl rfl ?_
 simp+decide (disch:=try exact D0) only[go_sem]
 refine Qa hP (Qg0 (x:=p.num) (d:=q.den) (by omega) (by omega)) rfl rfl rfl ?_
 simp+decide (disch:=try exact D0) only[go_sem]
 refine Qa hP (Qei (dig p.den)) rfl rfl rfl ?_
 simp+decide (disch:=try exact D0) only[go_sem]
 refine Qa hP (Qg0 (x:=q.num) (d:=p.den) (by omega) (by omega)) rfl rfl rfl ?_
 simp+decide (disch:=try exact D0) only[go_sem]
 refine Qa hP (Q3p (x:=p.num*(q.den:Int)) (y:=q.num*(p.den:Int)) (by omega) (by omega)) rfl rfl rfl ?_
 simp+decide (disch:=try exact D0) only[go_sem]
 refine Qa hP (Qi0 (x:=p.den) (y:=q.den) (by omega) (by omega)) rfl rfl rfl ?_
 simp+decide (disch:=try exact D0) only[go_sem]
 refine Qa hP (Qgd (z:=p.num*(q.den:Int)+q.num*(p.den:Int)) (D:=p.den*q.den) (by omega) (by omega)) rfl rfl rfl ?_
 simp+decide (disch:=try exact D0) only[go_sem]
 refine Qa1 ?_
 simp+decide (disch:=try exact D0) only[go_sem]
 exact Qc (congrArg PV.rat (by rw[<-Rat.mkRat_add_mkRat _ _ p.den_nz q.den_nz,Rat.mkRat_self,Rat.mkRat_self])) rfl
theorem Qt4{n:Bool}{a d:List Nat}{k:Nat}(hp:Raw k n a d)(hk:k<2^36):Qd Tryz.prog 25 [PV.rr n a d] (· = .bool (Qgn n a d)):=by
 obtain⟨ha,hd,sa,sd,k1⟩:=hp
 have hgl:(dig (Nat.gcd (val a) (val d))).length<2^43:=by
  by_cases h0:val d=0
  ·rw[h0,Nat.gcd_zero_right]
   have h4:=Qam ha
   unfold nl at h4;omega
  ·have h3:=Qb0 (Nat.gcd_le_right (val a) (Nat.pos_of_ne_zero h0))
   have h4:=Qam hd
   unfold nl at h3 h4;omega
 refine Qi Qt Tryz.func25 rfl Qafr (by simp[c25]) fun C hP=> ?_;simp only[c25,Zo,Zg,Zm,Zc,Zf,Zl,Zh,Zs,Zi,Zb,Zk,Zn,Zu,Zq,Zr,Zz]
 simp+decide (disch:=try exact D0) only[go_sem]
 refine Qa hP (Qt3 ha (by omega)) rfl rfl rfl ?_
 unfold Qgn
 simp+decide (disch:=try exact D0) only[go_sem]
 cases hio:Qgc n a
 ·simp+decide (disch:=try exact D0) only[go_sem]
  exact Qc (by simp) rfl
 rw[Bool.true_and]
 simp+decide (disch:=try exact D0) only[go_sem]
 refine Qa hP (Qnb hd (by omega)) rfl rfl rfl ?_
 simp+decide (disch:=try exact D0) only[go_sem]
 refine Qf8 (fun hv=> ?_) (fun hv=> ?_)
 ·simp+decide (disch:=try exact D0) only[go_sem]
  refine Qa hP (Qpk ha hd (by omega) (by omega)) rfl rfl rfl ?_
  simp+decide (disch:=try exact D0) only[go_sem]
  refine Qa hP (Qc8 (n:=1) (by omega)) rfl rfl rfl ?_
  simp+decide (disch:=try exact D0) only[go_sem]
  refine Qa hP (Qwb hgl (by rw[Qga];decide)) rfl rfl rfl ?_
  rw[Qga,decide_eq_decide.2 (Qph (Nat.gcd (val a) (val d)))]
  simp+decide (disch:=try exact D0) only[go_sem]
  refine Qbq (fun hg=> ?_) (fun hg=> ?_)
  ·simp+decide (disch:=try exact D0) only[go_sem]
   exact Qc (congrArg PV.bool (by cases d<;>simp_all)) rfl
  ·simp+decide (disch:=try exact D0) only[go_sem]
   exact Qc (congrArg PV.bool (by simp[hg])) rfl
 ·simp+decide (disch:=try exact D0) only[go_sem]
  exact Qc (congrArg PV.bool (by simp_all)) rfl
theorem Q8o{a b:Rat}{k:Nat}(ha:rs a<=k)(hb:rs b<=k)(hk:k<2^34):Qd Tryz.prog 87 [PV.rat a,PV.rat b] (· =PV.rat (a+b)):=by
 have:=Qxm (Qcn ha) (Qcn hb) hk
 rwa[Qc6,Qc6]at this
theorem Q8p{a b:Rat}{k:Nat}(ha:rs a<=k)(hb:rs b<=k)(hk:k<2^34):Qd Tryz.prog 85 [PV.rat a,PV.rat b] (· =PV.rat (a*b)):=by
 have:=Qxk (Qcn ha) (Qcn hb) hk
 rwa[Qc6,Qc6]at this
theorem Qtn{a:Rat}(ha:rs a<2^36):Qd Tryz.prog 27 [PV.rat a] (· = .int .i64 (Qd0 a)):=by
 have:=Qwd (Qcn (Nat.le_refl (rs a))) ha
 rwa[Qc6]at this
theorem Q0c{a b:Rat}{k:Nat}(ha:rs a<=k)(hb:rs b<=k)(hk:k<2^34):Qd Tryz.prog 49 [PV.rat a,PV.rat b] (· = .bool (decide (a=b))):=by
 have:=Qnd (Qcn ha) (Qcn hb) hk
 rwa[Qc6,Qc6]at this
end Go.Proofs.YtkoclfmjlolkhaaGreat
namespace Go.FW
open Go
theorem Qrg(x y:Int)(hy:y≠0):mkRat (zv (decide (x<0) !=decide (y<0)) (dig x.natAbs)) y.natAbs=(x:Rat)/(y:Rat):=by
 rw[Rat.mkRat_eq_div,Qhf,<-Rat.intCast_natCast]
 have h3:(y:Rat)≠0:=by rw[Ne,Rat.intCast_eq_zero_iff];exact hy
 by_cases hy0:y<0
 ·have e2:(((y.natAbs:Nat):Int):Rat)= -(y:Rat):=by rw[<-Rat.intCast_neg];congr 1;omega
  have e1:(if(decide (x<0) !=decide (y<0))=true then -(x.natAbs:Int)else x.natAbs)= -x:=by
   by_cases hx:x<0<;>simp[hx,hy0]<;>omega
  rw[e1,e2,Rat.intCast_neg]
  grind
 ·have e2:(((y.natAbs:Nat):Int):Rat)=(y:Rat):=by congr 1;omega
  have e1:(if(decide (x<0) !=decide (y<0))=true then -(x.natAbs:Int)else x.natAbs)=x:=by
   by_cases hx:x<0<;>simp[hx,hy0]<;>omega
  rw[e1,e2]
theorem Qaf0{n m:Bool}{a d b c:List Nat}(hd:val d≠0)(hc:val c≠0)(hb:zv m b≠0):((zv n a*(val c:Int):Int):Rat)/((zv m b*(val d:Int):Int):Rat)=rv n a d/rv m b c:=by
 have h1:((val d:Int):Rat)≠0:=by rw[Ne,Rat.intCast_eq_zero_iff];omega
 have h2:((val c:Int):Rat)≠0:=by rw[Ne,Rat.intCast_eq_zero_iff];omega
 have h3:((zv m b:Int):Rat)≠0:=by rw[Ne,Rat.intCast_eq_zero_iff];exact hb
 unfold rv
 rw[Rat.mkRat_eq_div,Rat.mkRat_eq_div,Rat.intCast_mul,Rat.intCast_mul]
 rw[<-Rat.intCast_natCast,<-Rat.intCast_natCast]
 grind
end Go.FW
