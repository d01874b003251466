/- Part 8 of the proof of SquaresGrams: Q1, Q2, W1, W2, W3, W4, W5, W6, A1, A2, FwNH. Own lemmas; no conditions. -/
import Derived.Test.YtkoclfmjlolkhaaGreatSquaresGramsPart7
set_option linter.unusedSimpArgs false
set_option linter.unusedVariables false
set_option linter.unnecessarySimpa false
set_option maxRecDepth 100000
namespace Go.Proofs.YtkoclfmjlolkhaaGreat
open Go Go.FW
theorem Q1h{p:List RTm}{k:Nat}(hb:∀t∈p,RB k t)(h:Qfg p=true)(hok:Qcx p=true):PB 3 1048576 (p.map RTm.tm)/\Nrm (p.map RTm.tm):=by
 obtain⟨e1,e2⟩:=Qqm hb hok
 simp only[Qfg,Bool.and_eq_true,decide_eq_true_eq,List.all_eq_true]at h
 refine⟨fun t ht=> ?_,e2.nrm⟩
 have hv:=e2.t _ ht
 obtain⟨x,hx,rfl⟩:=List.mem_map.1 ht
 have hs:=h.2 x hx
 simp only[ltT,shQ,Bool.and_eq_true,decide_eq_true_eq]at hs
 have hr:=(show Raw 2 x.n x.a x.d from⟨(hb x hx).r.1,(hb x hx).r.2.1,hs.2.1,hs.2.2,by omega⟩).rs
 have hm:=MB.ofOk hv.m
 refine⟨?_,hm,Qdg hv.m⟩
 show rs (rv x.n x.a x.d)+1<=3
 omega
theorem Qxz{n:Bool}{a d:List Nat}{k:Nat}(hr:Raw k n a d)(hk:k<2^36):Qd Tryz.prog 34 [PV.rr n a d] (· = .bool (shQ a d)):=by
 have h1:=hr.sa
 have h2:=hr.sd
 refine Qf Qq Tryz.func34 rfl Qap3 (by simp[c34]) fun C hP=> ?_;simp only[c34,Zo,Zg,Zm,Zc,Zf,Zl,Zh,Zs,Zi,Zb,Zk,Zn,Zu,Zq,Zr,Zz]
 simp+decide (disch:=try exact D0) only[go_sem]
 refine Qaw (fun h=> ?_) (fun h=> ?_)
 ·simp+decide (disch:=try exact D0) only[go_sem]
  exact Qc (congrArg PV.bool (by rw[shQ,decide_eq_true (show a.length<=2 by omega),Bool.true_and];exact decide_eq_decide.2 ⟨fun h=>by omega,fun h=>by omega⟩)) rfl
 ·simp+decide (disch:=try exact D0) only[go_sem]
  exact Qc (by rw[shQ,decide_eq_false (show ¬a.length<=2 by omega),Bool.false_and]) rfl
theorem Qaal{p:List RTm}{k:Nat}(hb:∀t∈p,RB k t)(hk1:1<=k)(hk:k<2^36)(hl:p.length<2^40):Qd Tryz.prog 18 [PV.rpoly p] (· = .bool (Qfg p)):=by
 refine Qf Qq Tryz.func18 rfl Qap4 (by simp[c18]) fun C hP=> ?_;simp only[c18,Zo,Zg,Zm,Zc,Zf,Zl,Zh,Zs,Zi,Zb,Zk,Zn,Zu,Zq,Zr,Zz]
 simp+decide (disch:=try exact D0) only[go_sem]
 refine Qb (fun hn=> ?_) (fun hn=> ?_)
 ·simp+decide (disch:=try exact D0) only[go_sem]
  exact Qc (by simp[Qfg,show ¬p.length<=20 by omega]) rfl
 have hn':p.length<=20:=by omega
 simp+decide (disch:=try exact D0) only[go_sem]
 refine Qz (by repeat (first|exact Qn|exact Qi|exact Qj|exact Qk|exact Ql|apply Qh|apply Qm|apply Qt|apply Qx|apply Qy|apply Qg|apply Qr)) [(2,3),(7,28)] [] (fun m J hp=>∃i,m=p.length-i/\i<=p.length/\(∀j (h:j<p.length),j<i->ltT p[j]=true)/\J 3= .int .i64 (i:Nat)) p.length ?_ ?_
 ·refine⟨0,rfl,by omega,by omega,?_⟩
  simp+decide (disch:=try exact D0) only[go_sem]
  rfl
 rintro _ J h ⟨i,rfl,hi,h1,h3⟩
 simp+decide (disch:=try exact D1 h3) only[go_sem,h3]
 refine Qb (fun hg=> ?_) (fun hg=> ?_)
 ·have hi':i<p.length:=by omega
  have hbt:=hb _ (List.getElem_mem hi')
  have hmem:=List.getElem_mem hi'
  have hbad:ltT p[i]=false->Qfg p=false:=fun h=>by
   have:p.all ltT=false:=by
    rw[List.all_eq_false];exact⟨_,hmem,by simp[h]⟩
   simp[Qfg,this]
  have hadd:ltT p[i]=true->∀j (h:j<p.length),j<i+1->ltT p[j]=true:=fun h j hj hji=>by
   by_cases e:j=i
   ·subst e;exact h
   ·exact h1 j hj (by omega)
  have hml:=hbt.l
  generalize hx:p[i]=x at *
  have hsh:=Qxz (RB.raw hbt hk1) hk
  simp+decide (disch:=try exact D2 h3 hx) only[go_sem,h3,hx]
  refine Qal (fun h4=> ?_) (fun h4=> ?_)
  ·simp+decide (disch:=try exact D1 h3) only[go_sem,h3]
   exact Qc (by rw[hbad (by simp[ltT,show ¬x.m.length<=70 by omega])]) rfl
  simp+decide (disch:=try exact D2 h3 hx) only[go_sem,h3,hx]
  refine Qa hP hsh rfl rfl rfl ?_
  cases hs:shQ x.a x.d
  ·simp+decide (disch:=try exact D1 h3) only[go_sem,h3]
   exact Qc (by rw[hbad (by simp[ltT,hs])]) rfl
  ·simp+decide (disch:=try exact D1 h3) only[go_sem,h3]
   refine Qo (p.length-(i+1)) (by omega) ⟨i+1,rfl,by omega,hadd (by rw[ltT,hs,decide_eq_true (by omega)];rfl),?_⟩
   simp+decide (disch:=try exact D0) only[go_sem]
 ·obtain rfl:i=p.length:=by omega
  simp+decide (disch:=try exact D0) only[go_sem]
  refine Qc ?_ rfl
  have:p.all ltT=true:=by
   rw[List.all_eq_true]
   intro t ht
   obtain⟨j,hj,rfl⟩:=List.getElem_of_mem ht
   exact h1 j hj hj
  simp[Qfg,this,hn']
theorem Q1i(v:Nat)(n:Int)(h:n=((n.toNat:Nat):Int)):(List.replicate (v+1) (0:Int)).set v n=Qc6 v n.toNat:=by
 unfold Qc6
 rw[<-h]
 induction v with
 |zero=>rfl
 |succ v ih=>rw[List.replicate_succ,List.set_cons_succ,ih];rfl
theorem Qaam{x y:Int}(hx:nl x.natAbs<2^38)(hy:nl y.natAbs<2^38)(h0:y≠0):Qd Tryz.prog 187 [PV.zz x,PV.zz y] (· = .tup [PV.rat ((x:Rat)/(y:Rat)),.int .i64 0]):=by
 have hv:=Qu7 x y h0
 have hr:=Ql1 (n:=decide (x<0) !=decide (y<0)) (a:=dig x.natAbs) (d:=dig y.natAbs) (Qv _) (Qv _) hx hy
 rw[rv,Qag,hv]at hr
 have hs:=Qjt (n:=decide (y<0)) (a:=dig y.natAbs) (Qv _) (by show nl _<_;omega)
 rw[Qf2]at hs
 generalize(x:Rat)/(y:Rat)=Q at *
 refine Qf Qq Tryz.func187 rfl Qajy (by simp[c187]) fun C hP=> ?_;simp only[c187,Zo,Zg,Zm,Zc,Zf,Zl,Zh,Zs,Zi,Zb,Zk,Zn,Zu,Zq,Zr,Zz]
 simp+decide (disch:=try exact D0) only[go_sem]
 refine Qa hP hs rfl rfl rfl ?_
 simp+decide (disch:=try exact D0) only[go_sem]
 refine Qb (fun h=>absurd (Qs8.1 h) h0) (fun _=> ?_)
 simp+decide (disch:=try exact D0) only[go_sem]
 refine Qa hP hr rfl rfl rfl ?_
 simp+decide (disch:=try exact D0) only[go_sem]
 refine Qhs ?_
 simp+decide (disch:=try exact D0) only[go_sem]
 exact Qd8 rfl rfl rfl (Qab _) (Qab _)
theorem Qaan{n m:Bool}{a d b c:List Nat}{k:Nat}(hp:Raw k n a d)(hq:Raw k m b c)(hk:k<2^34)(h0:rv m b c≠0):Qd Tryz.prog 123 [PV.rr n a d,PV.rr m b c] (· = .tup [PV.rat (rv n a d/rv m b c),.int .i64 0]):=by
 refine Qf Qq Tryz.func123 rfl Qajz (by simp[c123]) fun C hP=> ?_;simp only[c123,Zo,Zg,Zm,Zc,Zf,Zl,Zh,Zs,Zi,Zb,Zk,Zn,Zu,Zq,Zr,Zz]
 simp+decide (disch:=try exact D0) only[go_sem]
 refine Qc8 hP (Qd4 hp.la hp.ld hp.k1 hp.sa hp.sd (by omega)) rfl rfl rfl ?_
 rintro _ ⟨n',a',d',rfl,g1,g2,g3,g4,g5,g6⟩
 simp+decide (disch:=try exact D0) only[go_sem]
 refine Qc8 hP (Qd4 hq.la hq.ld hq.k1 hq.sa hq.sd (by omega)) rfl rfl rfl ?_
 rintro _ ⟨m',b',c',rfl,e1,e2,e3,e4,e5,e6⟩
 simp+decide (disch:=try exact D0) only[go_sem]
 have hza:nl (zv n' a').natAbs<=k:=by rw[Qbu];exact Nat.le_trans (Qaz g1) g3
 have hzb:nl (zv m' b').natAbs<=k:=by rw[Qbu];exact Nat.le_trans (Qaz e1) e3
 have hvd:nl (val d')<=k:=Nat.le_trans (Qaz g2) g4
 have hvc:nl (val c')<=k:=Nat.le_trans (Qaz e2) e4
 have h3:=Qa8 (zv n' a') (val c')
 have h6:=Qa8 (zv m' b') (val d')
 rw[Int.natAbs_natCast]at h3 h6
 have hzb0:zv m' b'≠0:=fun h=>h0 (by rw[<-e6,rv,h,Rat.zero_mkRat])
 have hne:zv m' b'*(val d':Int)≠0:=Int.mul_ne_zero hzb0 (by omega)
 have hfin:=Qaqp (n:=n') (a:=a') (m:=m') (b:=b') g5 e5 hzb0
 rw[g6,e6]at hfin
 have hm1:=Qep (n:=n') (m:=false) g1 e2 (by omega) (by omega)
 have hm2:=Qep (n:=m') (m:=false) e1 g2 (by omega) (by omega)
 rw[Qgw]at hm1 hm2
 refine Qa hP (Qfc c') rfl rfl rfl ?_
 simp+decide (disch:=try exact D0) only[go_sem]
 refine Qa hP hm1 rfl rfl rfl ?_
 simp+decide (disch:=try exact D0) only[go_sem]
 refine Qa hP (Qfc d') rfl rfl rfl ?_
 simp+decide (disch:=try exact D0) only[go_sem]
 refine Qa hP hm2 rfl rfl rfl ?_
 generalize zv n' a'*(val c':Int)=X at *
 generalize zv m' b'*(val d':Int)=Y at *
 simp+decide (disch:=try exact D0) only[go_sem]
 refine Qa hP (Qaam (x:=X) (y:=Y) (by omega) (by omega) hne) rfl rfl rfl ?_
 rw[hfin]
 generalize rv n a d/rv m b c=Q at *
 simp+decide (disch:=try exact D0) only[go_sem]
 refine Qhs ?_
 simp+decide (disch:=try exact D0) only[go_sem]
 exact Qd8 rfl rfl rfl (Qab _) (Qab _)
theorem Qva{a b:Rat}{k:Nat}(ha:rs a<=k)(hb:rs b<=k)(hk:k<2^34)(h0:b≠0):Qd Tryz.prog 123 [PV.rat a,PV.rat b] (· = .tup [PV.rat (a/b),.int .i64 0]):=by
 have:=Qaan (Qbx ha) (Qbx hb) hk (by rw[Qca];exact h0)
 rwa[Qca,Qca]at this
theorem Qx0{x:Int}(hx:nl x.natAbs<2^40):Qd Tryz.prog 130 [PV.zz x] (· =PV.zz (-x)):=by
 have hs:=Qff (n:= !decide (x<0)) (a:=dig x.natAbs) (Qv _) (by show nl _<_;omega)
 have e:zv (!decide (x<0)) (dig x.natAbs)= -x:=by
  rw[Qiv];by_cases h:x<0<;>simp[h]<;>omega
 rw[e]at hs
 refine Qf Qq Tryz.func130 rfl Qal5 (by simp[c130]) fun C hP=> ?_;simp only[c130,Zo,Zg,Zm,Zc,Zf,Zl,Zh,Zs,Zi,Zb,Zk,Zn,Zu,Zq,Zr,Zz]
 simp+decide (disch:=try exact D0) only[go_sem]
 refine Qa hP hs rfl rfl rfl ?_
 simp+decide (disch:=try exact D0) only[go_sem]
 refine Qba ?_
 simp+decide (disch:=try exact D0) only[go_sem]
 exact Qc rfl rfl
theorem Qvb{x y:Int}(hx:nl x.natAbs<2^35)(hy:nl y.natAbs<2^35)(h0:y≠0):Qd Tryz.prog 121 [PV.zz x,PV.zz y] (· = .tup [PV.rat ((x:Rat)/(y:Rat)),.int .i64 0]):=by
 have h3:(y:Rat)≠0:=by rw[Ne,Rat.intCast_eq_zero_iff];exact h0
 have hnx:nl (-x).natAbs<2^35:=by rw[Int.natAbs_neg];exact hx
 have o1:=Qhf (z:=x) (D:=y.natAbs) (by omega) (by omega)
 have o2:=Qhf (z:= -x) (D:=y.natAbs) (by omega) (by omega)
 have e1:¬y<0->mkRat x y.natAbs=(x:Rat)/(y:Rat):=fun h=>by
  rw[Rat.mkRat_eq_div,<-Rat.intCast_natCast]
  congr 2;omega
 have e2:y<0->mkRat (-x) y.natAbs=(x:Rat)/(y:Rat):=fun h=>by
  have e:(((y.natAbs:Nat):Int):Rat)= -(y:Rat):=by rw[<-Rat.intCast_neg];congr 1;omega
  rw[Rat.mkRat_eq_div,<-Rat.intCast_natCast,e,Rat.intCast_neg]
  grind
 refine Qf Qq Tryz.func121 rfl Qal9 (by simp[c121]) fun C hP=> ?_;simp only[c121,Zo,Zg,Zm,Zc,Zf,Zl,Zh,Zs,Zi,Zb,Zk,Zn,Zu,Zq,Zr,Zz]
 simp+decide (disch:=try exact D0) only[go_sem]
 refine Qa hP (Qu5 (by omega)) rfl rfl rfl ?_
 simp+decide (disch:=try exact D0) only[go_sem]
 refine Qb (fun h=>absurd (Qs8.1 h) h0) (fun _=> ?_)
 simp+decide (disch:=try exact D0) only[go_sem]
 refine Qb (fun hn=> ?_) (fun hn=> ?_)
 ·rw[e2 hn]at o2
  generalize(x:Rat)/(y:Rat)=Q at *
  simp+decide (disch:=try exact D0) only[go_sem]
  refine Qa hP (Qx0 (x:=x) (by omega)) rfl rfl rfl ?_
  simp+decide (disch:=try exact D0) only[go_sem]
  refine Qa hP o2 rfl rfl rfl ?_
  simp+decide (disch:=try exact D0) only[go_sem]
  refine Qhs ?_
  simp+decide (disch:=try exact D0) only[go_sem]
  exact Qd8 rfl rfl rfl (Qab _) (Qab _)
 ·rw[e1 hn]at o1
  generalize(x:Rat)/(y:Rat)=Q at *
  simp+decide (disch:=try exact D0) only[go_sem]
  refine Qa hP o1 rfl rfl rfl ?_
  simp+decide (disch:=try exact D0) only[go_sem]
  refine Qhs ?_
  simp+decide (disch:=try exact D0) only[go_sem]
  exact Qd8 rfl rfl rfl (Qab _) (Qab _)
theorem Q60{n m:Bool}{a d b c:List Nat}{k:Nat}(hp:Raw k n a d)(hq:Raw k m b c)(hk:k<2^33)(h0:rv m b c≠0):Qd Tryz.prog 143 [PV.rr n a d,PV.rr m b c] (· = .tup [PV.rat (rv n a d/rv m b c),.int .i64 0]):=by
 have hx:=hp.rs
 have hy:=hq.rs
 unfold FW.rs at hx hy
 refine Qf Qq Tryz.func143 rfl Qamd (by simp[c143]) fun C hP=> ?_;simp only[c143,Zo,Zg,Zm,Zc,Zf,Zl,Zh,Zs,Zi,Zb,Zk,Zn,Zu,Zq,Zr,Zz]
 simp+decide (disch:=try exact D0) only[go_sem]
 refine Qa hP (Qdq hp (by omega)) rfl rfl rfl ?_
 simp+decide (disch:=try exact D0) only[go_sem]
 refine Qa hP (Qdq hq (by omega)) rfl rfl rfl ?_
 generalize rv n a d=p at *
 generalize rv m b c=q at *
 have h1:=Qa8 p.num (q.den:Int)
 have h2:=Qa8 q.num (p.den:Int)
 rw[Int.natAbs_natCast]at h1 h2
 have hq0:q.num≠0:=fun h=>h0 (Rat.num_eq_zero.1 h)
 have hne:q.num*(p.den:Int)≠0:=Int.mul_ne_zero hq0 (by have:=p.den_nz;omega)
 have hfin:((p.num*(q.den:Int):Int):Rat)/((q.num*(p.den:Int):Int):Rat)=p/q:=by
  have k1:((p.den:Int):Rat)≠0:=by rw[Ne,Rat.intCast_eq_zero_iff];have:=p.den_nz;omega
  have k2:((q.den:Int):Rat)≠0:=by rw[Ne,Rat.intCast_eq_zero_iff];have:=q.den_nz;omega
  have k3:((q.num:Int):Rat)≠0:=by rw[Ne,Rat.intCast_eq_zero_iff];exact hq0
  have d1:p=(p.num:Rat)/((p.den:Int):Rat):=by
   conv=>lhs;rw[<-Rat.mkRat_self p]
   rw[Rat.mkRat_eq_div,Rat.intCast_natCast]
  have d2:q=(q.num:Rat)/((q.den:Int):Rat):=by
   conv=>lhs;rw[<-Rat.mkRat_self q]
   rw[Rat.mkRat_eq_div,Rat.intCast_natCast]
  rw[Rat.intCast_mul,Rat.intCast_mul]
  generalize(p.num:Rat)=A at *
  generalize(q.num:Rat)=B at *
  generalize((p.den:Int):Rat)=D at *
  generalize((q.den:Int):Rat)=F at *
  rw[d1,d2]
  grind
 simp+decide (disch:=try exact D0) only[go_sem]
 refine Qa hP (Qfb (dig q.den)) rfl rfl rfl ?_
 simp+decide (disch:=try exact D0) only[go_sem]
 refine Qa hP (Qig (x:=p.num) (d:=q.den) (by omega) (by omega)) rfl rfl rfl ?_
 simp+decide (disch:=try exact D0) only[go_sem]
 refine Qa hP (Qfb (dig p.den)) rfl rfl rfl ?_
 simp+decide (disch:=try exact D0) only[go_sem]
 refine Qa hP (Qig (x:=q.num) (d:=p.den) (by omega) (by omega)) rfl rfl rfl ?_
 generalize p.num*(q.den:Int)=X at *
 generalize q.num*(p.den:Int)=Y at *
 simp+decide (disch:=try exact D0) only[go_sem]
 refine Qa hP (Qvb (x:=X) (y:=Y) (by omega) (by omega) hne) rfl rfl rfl ?_
 rw[hfin]
 generalize p/q=Q at *
 simp+decide (disch:=try exact D0) only[go_sem]
 refine Qhs ?_
 simp+decide (disch:=try exact D0) only[go_sem]
 exact Qd8 rfl rfl rfl (Qab _) (Qab _)
theorem Q1j{a b:Rat}{k:Nat}(ha:rs a<=k)(hb:rs b<=k)(hk:k<2^33)(h0:b≠0):Qd Tryz.prog 143 [PV.rat a,PV.rat b] (· = .tup [PV.rat (a/b),.int .i64 0]):=by
 have:=Q60 (Qbx ha) (Qbx hb) hk (by rw[Qca];exact h0)
 rwa[Qca,Qca]at this
theorem Q1k{x y:Int}(hx: -9223372036854775808<=x/\x<=9223372036854775807)(hy: -9223372036854775808<=y/\y<=9223372036854775807)(h0:y≠0):Qd Tryz.prog 51 [.int .i64 x,.int .i64 y] (· =PV.rat ((x:Rat)/(y:Rat))):=by
 have n1:=Qe0 (n:=x.natAbs) (by omega)
 have n2:=Qe0 (n:=y.natAbs) (by omega)
 have hm:=Qvb (x:=x) (y:=y) (by omega) (by omega) h0
 generalize(x:Rat)/(y:Rat)=Q at *
 refine Qf Qq Tryz.func51 rfl Qapv (by simp[c51]) fun C hP=> ?_;simp only[c51,Zo,Zg,Zm,Zc,Zf,Zl,Zh,Zs,Zi,Zb,Zk,Zn,Zu,Zq,Zr,Zz]
 simp+decide (disch:=try exact D0) only[go_sem]
 refine Qa hP (Qpb hx.1 hx.2) rfl rfl rfl ?_
 simp+decide (disch:=try exact D0) only[go_sem]
 refine Qa hP (Qpb hy.1 hy.2) rfl rfl rfl ?_
 simp+decide (disch:=try exact D0) only[go_sem]
 refine Qa hP hm rfl rfl rfl ?_
 simp+decide (disch:=try exact D0) only[go_sem]
 refine Qba ?_
 simp+decide (disch:=try exact D0) only[go_sem]
 exact Qc rfl rfl
theorem Qaao(n:Bool)(a d:List Nat):rv (!n) a d= -rv n a d:=by
 have e:zv (!n) a= -zv n a:=by unfold zv;cases n<;>simp
 unfold rv;rw[e,Rat.neg_mkRat]
theorem Raw.not{n:Bool}{a d:List Nat}{k:Nat}(h:Raw k n a d):Raw k (!n) a d:=⟨h.la,h.ld,h.sa,h.sd,h.k1⟩
theorem Qaap{n m:Bool}{a d b c:List Nat}{k:Nat}(hp:Raw k n a d)(hq:Raw k m b c)(hk:k<2^36):Qd Tryz.prog 181 [PV.rr n a d,PV.rr m b c] (· =PV.rat (rv n a d-rv m b c)):=by
 have h:=Qqp hp hq.not hk
 rw[Qaao,<-Rat.sub_eq_add_neg]at h
 refine Qf Qq Tryz.func181 rfl Qajw (by simp[c181]) fun C hP=> ?_;simp only[c181,Zo,Zg,Zm,Zc,Zf,Zl,Zh,Zs,Zi,Zb,Zk,Zn,Zu,Zq,Zr,Zz]
 simp+decide (disch:=try exact D0) only[go_sem]
 refine Qa hP h rfl rfl rfl ?_
 simp+decide (disch:=try exact D0) only[go_sem]
 refine Qba ?_
 simp+decide (disch:=try exact D0) only[go_sem]
 exact Qc rfl rfl
theorem Qaht{a b:Rat}{k:Nat}(ha:rs a<=k)(hb:rs b<=k)(hk:k<2^36):Qd Tryz.prog 181 [PV.rat a,PV.rat b] (· =PV.rat (a-b)):=by
 have:=Qaap (Qbx ha) (Qbx hb) hk
 rwa[Qca,Qca]at this
theorem Qaaq{n:Bool}{a d:List Nat}{k:Nat}(hp:Raw k n a d)(hk:k<2^36):Qd Tryz.prog 62 [PV.rr n a d] (· =PV.rat (-rv n a d)):=by
 refine Qf Qq Tryz.func62 rfl Qaov (by simp[c62]) fun C hP=> ?_;simp only[c62,Zo,Zg,Zm,Zc,Zf,Zl,Zh,Zs,Zi,Zb,Zk,Zn,Zu,Zq,Zr,Zz]
 simp+decide (disch:=try exact D0) only[go_sem]
 refine Qc8 hP (Qd4 hp.la hp.ld hp.k1 hp.sa hp.sd (by omega)) rfl rfl rfl ?_
 rintro _ ⟨n',a',d',rfl,g1,g2,g3,g4,g5,g6⟩
 simp+decide (disch:=try exact D0) only[go_sem]
 refine Qa hP (Ql1 (n:= !n') g1 g2 (by omega) (by omega)) rfl rfl rfl ?_
 rw[Qaao,g6]
 simp+decide (disch:=try exact D0) only[go_sem]
 refine Qba ?_
 simp+decide (disch:=try exact D0) only[go_sem]
 exact Qc rfl rfl
theorem Qahu{a:Rat}{k:Nat}(ha:rs a<=k)(hk:k<2^36):Qd Tryz.prog 62 [PV.rat a] (· =PV.rat (-a)):=by
 have:=Qaaq (Qbx ha) hk
 rwa[Qca]at this
theorem Qnb{x:Int}(h1: -9223372036854775808<=x)(h2:x<=9223372036854775807):Qd Tryz.prog 61 [.int .i64 x] (· =PV.rat (x:Rat)):=Qqt h1 h2
theorem Qtj{a:Rat}{k:Nat}(ha:rs a<=k)(hk:k<2^35):Qd Tryz.prog 63 [PV.rat a] (· =PV.rat (-a)):=by
 have h1:nl a.num.natAbs<=k:=by unfold rs at ha;omega
 have h2:nl a.den<=k:=by unfold rs at ha;omega
 have h3:nl (-a.num).natAbs<=k:=by rw[Int.natAbs_neg];exact h1
 have e:mkRat (-a.num) a.den= -a:=by rw[<-Rat.neg_mkRat,Rat.mkRat_self]
 have hn:=Qx0 (x:=a.num) (by omega)
 have ho:=Qhf (z:= -a.num) (D:=a.den) (by omega) (by omega)
 rw[e]at ho
 refine Qf Qq Tryz.func63 rfl Qaql (by simp[c63]) fun C hP=> ?_;simp only[c63,Zo,Zg,Zm,Zc,Zf,Zl,Zh,Zs,Zi,Zb,Zk,Zn,Zu,Zq,Zr,Zz]
 simp+decide (disch:=try exact D0) only[go_sem]
 refine Qa hP hn rfl rfl rfl ?_
 simp+decide (disch:=try exact D0) only[go_sem]
 refine Qa hP ho rfl rfl rfl ?_
 simp+decide (disch:=try exact D0) only[go_sem]
 refine Qba ?_
 simp+decide (disch:=try exact D0) only[go_sem]
 exact Qc rfl rfl
theorem Qagp{a b:Rat}{k:Nat}(ha:rs a<=k)(hb:rs b<=k)(hk:k<2^34):Qd Tryz.prog 145 [PV.rat a,PV.rat b] (· =PV.rat (a-b)):=by
 have h:=Q1c (a:=a) (b:= -b) ha (by rw[Qke];exact hb) hk
 rw[<-Rat.sub_eq_add_neg]at h
 refine Qf Qq Tryz.func145 rfl Qamc (by simp[c145]) fun C hP=> ?_;simp only[c145,Zo,Zg,Zm,Zc,Zf,Zl,Zh,Zs,Zi,Zb,Zk,Zn,Zu,Zq,Zr,Zz]
 simp+decide (disch:=try exact D0) only[go_sem]
 refine Qa hP (Qtj hb (by omega)) rfl rfl rfl ?_
 simp+decide (disch:=try exact D0) only[go_sem]
 refine Qa hP h rfl rfl rfl ?_
 simp+decide (disch:=try exact D0) only[go_sem]
 refine Qba ?_
 simp+decide (disch:=try exact D0) only[go_sem]
 exact Qc rfl rfl
theorem Qvc{l:List Rat}{R m:Nat}(hl:l.length=R*m)(hR:0<R)(hR2:R<=40)(hm:m<=40):
  Qcv Tryz.prog 54 [PV.mat R m l] (fun _=> .undef) hp0 (fun r F H=>r= .nso 2000000 0 R/\F 2000000= .nst 2000000 1 22 (Qak (rws 3000000 R fun _=>m))/\H 2000000=some ⟨1,22,[],false⟩/\
   ∀i,i<R->H (3000000+i)=some ⟨3,51,Qad PV.rat (Qai l m i) m,false⟩):=by
 refine Qfe Qq Tryz.func54 rfl Qaac (by simp[c54]) fun C hP=> ?_;simp only[c54,Zo,Zg,Zm,Zc,Zf,Zl,Zh,Zs,Zi,Zb,Zk,Zn,Zu,Zq,Zr,Zz]
 simp+decide (disch:=try exact D0) only[go_sem]
 refine Qb4 (Qht 7 2000000 rfl (by omega) rfl (by omega)) ?_
 simp+decide (disch:=try exact D0) only[go_sem]
 refine Qb4 (Qki (γ:=2000000) (e:=1) (ty:=22) (xs:=List.replicate R .nilS) (fz:=false) T0 (by intro h;have:=congrArg List.length h;simp at this;omega) (by omega) (fun x hx=>by rw[List.eq_of_mem_replicate hx];rfl)) ?_
 rw[Q9u 3000000 R fun _=>m]
 simp+decide (disch:=try exact D0) only[go_sem]
 refine Qbn (by repeat (first|exact Qn|exact Qi|exact Qj|exact Qk|exact Ql|apply Qh|apply Qm|apply Qt|apply Qx|apply Qy|apply Qg)) [(3,4),(10,36),(2000000,2000000)] [17] (fun n J hp=>∃i,n=R-i/\i<=R/\J 3= .nso 2000000 0 R/\J 10= .int .i64 (i:Nat)/\J 2000000= .nst 2000000 1 22 (Qeg 3000000 i R fun _=>m)/\
   hp 1=some ⟨3,24,[PV.mat R m l],false⟩/\hp 2000000=some ⟨1,22,[],false⟩/\(∀j,j<i->hp (3000000+j)=some ⟨3,51,Qad PV.rat (Qai l m j) m,false⟩)/\∀j,i<=j->hp (3000000+j)=none) R ?_ ?_
 ·refine⟨0,rfl,by omega,?_⟩
  simp+decide (disch:=try exact D0) only[go_sem]
  exact⟨rfl,(fun j hj=>by omega),fun j hj=>trivial⟩
 rintro _ J h ⟨i,rfl,hi,h3,h10,hg,h1,hh,hrow,hno⟩
 simp+decide (disch:=try exact D2 h3 h10) only[go_sem,h3,h10]
 refine Qb (fun hc=> ?_) (fun hc=> ?_)
 ·have hi':i<R:=by omega
  have hfr:=hno i (Nat.le_refl _)
  simp+decide (disch:=try exact D4 h3 h10 h1 hg) only[go_sem,h3,h10,h1,hg]
  refine Qb4 (Qht 17 (3000000+i) (T1 hfr) (by omega) rfl (by omega)) ?_
  have hgm:∀L,rnP (mvN 17 (3000000+i)) (.nst 2000000 1 22 (Qeg 3000000 i R L))= .nst 2000000 1 22 (Qeg 3000000 i R L):=fun L=>Qakm (by omega) (by omega) (by omega)
  simp+decide (disch:=try exact D6 h3 h10 h1 hg hh hgm) only[go_sem,h3,h10,h1,hg,hh,hgm]
  rw[Qakk (ty:=22) (B:=3000000) (i:=i) (n:=R) (L:=fun _=>m) (e0:=1) (ty0:=22) (xs0:=[]) (T2 hg hgm) (T1 hh) hi' (by omega) rfl]
  have hld:=fun(K:Qp) (fr:Fr) (hp:HP) d=>Qakl (d:=d) (fr:=fr) (hp:=hp) (K:=K) (γ:=2000000) (j:=i) (i:=i+1) (n:=R) (ty:=22) (B:=3000000) (L:=fun _=>m)
  have hb1:(i+1)*m<=R*m:=Nat.mul_le_mul_right _ hi'
  have hb2:i*m<=(i+1)*m:=Nat.mul_le_mul_right _ (by omega)
  have e1:(i:Int)*(m:Int)=((i*m:Nat):Int):=by rw[Int.natCast_mul]
  have e2:((i:Int)+1)*(m:Int)=(((i+1)*m:Nat):Int):=by rw[Int.natCast_mul];rfl
  have hcr:=Qxs hl hi'
  have hRm:R*m<=40*40:=Nat.mul_le_mul hR2 hm
  simp+decide (disch:=try exact D9 h3 h10 h1 hg hh hgm hld e1 e2) only[go_sem,h3,h10,h1,hg,hh,hgm,hld,e1,e2]
  rw[Qar4 (xs:=List.replicate m (.agg [.bool false,.nilS,.nilS])) (ty:=51) T0 (by omega) (by simp) (by rw[hcr,Qa0])]
  rw[hcr]
  simp+decide (disch:=try exact D2 h3 h10) only[go_sem,h3,h10]
  refine Qa4 (R-(i+1)) (by omega) ⟨i+1,rfl,by omega,?_⟩
  simp+decide (disch:=try exact D4 h3 h10 h1 hh) only[go_sem,h3,h10,h1,hh]
  refine⟨fun j hj=> ?_,fun j hj=> ?_⟩
  ·by_cases e:j=i
   ·subst e;simp+decide (disch:=try exact D0) only[go_sem]
   ·simp+decide (disch:=try exact D1 e) only[go_sem,e]
    exact hrow j (by omega)
  ·have e:¬j=i:=by omega
   simp+decide (disch:=try exact D1 e) only[go_sem,e]
   exact hno j (by omega)
 ·obtain rfl:i=R:=by omega
  rw[Q9v]at hg
  simp+decide (disch:=try exact D1 h3) only[go_sem,h3]
  refine Q0k ?_
  simp+decide (disch:=try exact D2 hg hh) only[go_sem,hg,hh]
  exact hrow
end Go.Proofs.YtkoclfmjlolkhaaGreat
namespace Go.FW
open Go
variable {C : Ctx} {ρ : Nat -> Option Nat} {fr fr' : Fr} {hp : HP} {w : World} {K R : Qp}
theorem Qcv.data{P:Program}{f:FuncId}{args:List PV}{Post:PV->Fr->HP->Prop}{Rr:PV->Prop}(k:Nat)(h:Qcv P f args (fun _=> .undef) hp0 Post)(hl:args.length<=1000000)
  (hpost:∀r F H,Post r F H->Qqq (Qf4 r F) k r/\Rr (Ql2 (Qf4 r F) H k r)):Qd P f args Rr:=by
 refine⟨h.1,fun w X vals hX hsz hrep=> ?_⟩
 let C:Ctx:=Ctx.plain P args.length w X hX hl
 have hsim:Qah C (fun _=>none) (Qm6 args fun _=> .undef) hp0 vals w:=by
  refine⟨hsz,Ext.refl _ _,(fun _ _ h=>by cases h),by simp[hp0],by simp[hp0],fun i=> ?_⟩
  unfold Qm6
  split
  ·cases hi:args[i]? with
   |none=>trivial
   |some p=>
    simp only[Option.getD_some]
    refine Qaa.ofData ((hrep i p hi).mono (fun _ _ _=>rfl) (fun b _ hn hx=> ?_) (Nat.le_refl _))
    rcases hx with hx|⟨_,_,h1,_⟩
    ·exact hn hx
    ·simp[hp0]at h1
  ·trivial
 refine(h.2 C _ vals w rfl rfl rfl hsim).mono ?_
 rintro e w' ⟨v,ρ',r,F,H,rfl,hs,hp⟩
 obtain⟨h1,h2⟩:=hpost r F H hp
 have hr0:Qf4 r F 0=r:=rfl
 obtain⟨ρ2,hs2⟩:=Q0j (fr:=Qf4 r F) (hp:=H) 0 k (by rw[hr0];exact h1) (C.setN 1 (by decide)) #[v] w' ⟨ρ',hs⟩
 refine⟨v,_,rfl,Ctx.plain_ext hs2.ext,?_,h2⟩
 have hsl:=hs2.slots 0
 rw[hr0]at hsl
 have e1:upd (Qf4 r F) 0 (Ql2 (Qf4 r F) H k r) 0=Ql2 (Qf4 r F) H k r:=by simp[upd]
 rw[e1]at hsl
 have hd:Qc4 w' (Xof C ρ2 (Qaq H (Qwj (Qf4 r F) k r))) (Ql2 (Qf4 r F) H k r) v:=by
  cases r with
  |rag cs=>exact hsl
  | nso γ o n=>
   cases k with
   |zero=>cases h1
   | succ k=>
    simp only[Qqq,okD]at h1
    split at h1
    ·rename_i hγ
     simp only[Ql2,dsn,hγ]at hsl⊢
     exact hsl
    ·exact h1.elim
  |_=>cases h1
 exact hd.mono (fun _ _ _=>rfl) (fun b _ hn hx=>hn (.inl hx)) (Nat.le_refl _)
theorem Qx1{γ ty n:Nat}{l:List (Nat×Nat)}(hγ:fr γ= .nst γ 1 ty (Qak l))(hn:n=l.length)(h2:2000000<=γ)(hl:∀x∈l,2000000<=x.1):Qqq fr 2 (.nso γ 0 n):=by
 simp only[Qqq,okD,hγ]
 refine⟨trivial,by simp[isY];omega,by simp[Qak,hn],fun x hx c hc=> ?_⟩
 obtain⟨y,hy,rfl⟩:=List.mem_map.1 (List.mem_of_mem_drop (List.mem_of_mem_take hx))
 obtain rfl:c= .mso y.1 0 y.2:=by simpa[PV.ncells,PV.cells]using hc
 have:=hl y hy
 simp only[okD,isY];simp;omega
theorem Q1l{γ ty n e':Nat}{l:List (Nat×Nat)}(hγ:fr γ= .nst γ 1 ty (Qak l))(hn:n=l.length)(ys:Nat->List PV)(hh:∀x∈l,∃ty' fz,hp x.1=some ⟨e',ty',ys x.1,fz⟩):
  Ql2 fr hp 2 (.nso γ 0 n)= .sl 1 (l.map fun x=> .sl e' ((ys x.1).take x.2)):=by
 simp only[Ql2,dsn,hγ,List.drop_zero]
 rw[List.take_of_length_le (by simp[Qak,hn])]
 simp only[Qak,List.map_map]
 congr 1
 refine List.map_congr_left fun x hx=> ?_
 obtain⟨ty',fz,h⟩:=hh x hx
 simp[Function.comp,PV.ncells,PV.cells,mkA,dsn,h]
theorem Q61 {P : Program} {f : FuncId} {fn : Func} {sf : SFn} {args : List PV} {Rr : PV -> Prop} (hm : P.follows .mixedOrders = true) (hf : P.funcs[f]? = some fn) (hname : (fn.name != "runtime.NumGoroutine") = true) (hc : Qe P fn = some sf.strip) (hn : args.length <= sf.n /\ sf.n <= 1000000)
  (hv:∀C:Ctx,C.P=P->C.N=sf.n->vc C (Qoz (Qdv sf.rs Rr)) [.c sf.body] (Qgf args) hp0):Qd P f args Rr:=by
 simp only[Qe,Option.bind_eq_some_iff,Option.map_eq_some_iff]at hc
 obtain⟨c,hb,sb,hcb,rs,hrs,hsf⟩:=hc
 obtain⟨n,rs',body⟩:=sf
 simp only[SFn.strip,SFn.mk.injEq]at hsf
 obtain⟨rfl,rfl,rfl⟩:=hsf
 refine⟨by simp[Qlt,hf,hb];simpa using hname,fun w X vals hX hsz hrep=> ?_⟩
 let C:Ctx:=Ctx.plain P fn.ntmps w X hX hn.2
 refine calls_of_wp hf hb ?_
 have hsz':(vals++Array.replicate (fn.ntmps-vals.size) undef).size=fn.ntmps:=by simp at hn ⊢;omega
 have hsim:Sim C (Qgf args) hp0 (vals++Array.replicate (fn.ntmps-vals.size) undef) w:=by
  refine⟨fun _=>none,hsz',Ext.refl _ _,(fun _ _ h=>by cases h),by simp[hp0],by simp[hp0],fun i=> ?_⟩
  unfold Qgf
  cases hi:args[i]? with
  |none=>trivial
  | some p=>
   simp only[Option.getD_some]
   have hil:i<vals.size:=by rw[hsz];exact(List.getElem?_eq_some_iff.1 hi).1
   have hr:=hrep i p hi
   have e:(vals++Array.replicate (fn.ntmps-vals.size) undef).getD i undef=vals.getD i undef:=by
    rw[Qch,if_pos hil]
   rw[e]
   refine Qaa.ofData (hr.mono (fun _ _ _=>rfl) (fun b _ hn hx=> ?_) (Nat.le_refl _))
   rcases hx with hx|⟨_,_,h1,_⟩
   ·exact hn hx
   ·simp[hp0]at h1
 have fin:∀(fr:Fr)(hp:HP)(a:Act)(w':World),a.defers=[]->Sim C fr hp a.tmps w'->Qoz (Qdv rs Rr) fr hp->
   a.defers=[]/\∃v,(results fn a.tmps).run P w'= .ok v w'/\∃v' r,Ending.returned v= .returned v'/\Ext Qbs w w'/\Qc4 w' X r v'/\Rr r:=by
  rintro fr hp a w' hd hs0 ⟨fr1,hp1,hw,hr⟩
  obtain⟨ρ,hs⟩:=hw C _ _ hs0
  obtain⟨v,r,h1,h2,h3⟩:=Qwy (C:=C) rfl hrs hs hr
  exact⟨hd,v,h1,v,r,rfl,Ctx.plain_ext hs.ext,h2,h3⟩
 exact Qm0 (C:=C) (R:=Qoz (Qdv rs Rr)) hm c body [] _ (Qgf args) hp0 _ w hcb ⟨fun fr hp a w' hd hs hv=>(by rw[Qj6]at hv;exact fin fr hp a w' hd hs hv),fun id sk' he=>(by simp[FW.Qat]at he),fin⟩ rfl hsim (hv C rfl rfl)
theorem Qea {P : Program} {f : FuncId} {fn : Func} {sf : SFn} {args : List PV} {Rr : PV -> Prop} (hm : P.follows .mixedOrders = true) (hf : P.funcs[f]? = some fn) (hname : (fn.name != "runtime.NumGoroutine") = true) (hc : Qe P fn = some sf.strip) (hn : args.length <= sf.n /\ sf.n <= 1000000)
  (hv:∀C:Ctx,C.P=P->vc C (Qoz (Qdv sf.rs Rr)) [.c sf.body] (Qgf args) hp0):Qd P f args Rr:=
 Q61 hm hf hname hc hn fun C h _=>hv C h
theorem Qms{Post:PV->Fr->HP->Prop}(h:Post (.tup []) fr hp):Ql3 [] Post fr hp:=by
 refine Qfd ?_
 simp only[Qdv,List.flatMap_nil,Qt3]
 exact⟨by simp,_,Qabu _,h⟩
theorem Qamg{ty w i d:Nat}{fz:Bool}{f:Nat->Rat}(h:i<w):ldM (some ⟨3,ty,Qad PV.rat f w,fz⟩) 3 true i 0 d fr hp K=K (upd fr d (PV.rat (f i))) hp:=by
 rw[Qj8 (by rw[Qa0];exact h) (by omega) (by simp),Qeh];rfl
theorem Qro{ty β w i:Nat}{f:Nat->Rat}{v:Rat}(h:i<w):stM (some ⟨3,ty,Qad PV.rat f w,false⟩) β 3 i 0 (PV.rat v) fr hp K=K fr (Qw hp β ⟨3,ty,Qad PV.rat (fun c=>if c=i then v else f c) w,false⟩):=by
 have e:=Qgr (fr:=fr) (hp:=hp) (K:=K) (n:=3) (ty:=ty) (β:=β) (i:=i) (xs:=Qad PV.rat f w) (v:=PV.rat v) (by rw[Qa0];exact h) rfl rfl
 rw[Qaeq (g:=fun c=>if c=i then v else f c) fun k _=>rfl]at e
 exact e
theorem Qvd{e ty:Nat}{xs ys:List PV}{fz:Bool}(h:xs=ys):HB.mk e ty xs fz=HB.mk e ty ys fz:=by rw[h]
theorem Q1m:(Qgp (.tup [])=True)/\(∀(k:IntKind)(n:Int),Qgp (.int k n)=True)/\(∀b:Bool,Qgp (.bool b)=True)/\(∀(e:Nat)(xs:List PV),Qgp (.sl e xs)=True)/\(∀cs:List PV,Qgp (.agg cs)=True)/\(∀cs:List PV,Qgp (.tup cs)=True):=by
 refine⟨?_,?_,?_,?_,?_,?_⟩<;>intros<;>simp[Qgp,PV.refs,PV.sref,rnP,rn1]
attribute [go_sem] Q1m Qamg
end Go.FW
