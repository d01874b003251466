/- Part 8 of the proof of SquaresPositive: Q1, Q2, W1, W2, W3, W4, W5, W6, A1, A2, FwNH. Own lemmas; no conditions. -/
import Derived.Test.YtkoclfmjlolkhaaGreatSquaresPositivePart7
set_option linter.unusedSimpArgs false
set_option linter.unusedVariables false
set_option linter.unnecessarySimpa false
set_option maxRecDepth 100000
namespace Go.Proofs.YtkoclfmjlolkhaaGreat
open Go Go.FW
structure SqB(k:Nat)(s:RSq):Prop where
 r:Raw k s.n s.a s.d
 p:∀t∈s.p,RB k t
 l:s.p.length<2^40
theorem Qag1{p:List RTm}{k:Nat}(hb:∀t∈p,RB k t)(h:Qi3 p=true)(hok:Qc2 p=true):PB 3 1048576 (p.map RTm.tm)/\Nrm (p.map RTm.tm):=by
 obtain⟨e1,e2⟩:=Qqw hb hok
 simp only[Qi3,Bool.and_eq_true,decide_eq_true_eq,List.all_eq_true]at h
 refine⟨fun t ht=> ?_,e2.nrm⟩
 have hv:=e2.t _ ht
 obtain⟨x,hx,rfl⟩:=List.mem_map.1 ht
 have hs:=h.2 x hx
 simp only[ltT,shQ,Bool.and_eq_true,decide_eq_true_eq]at hs
 have hr:=(show Raw 2 x.n x.a x.d from⟨(hb x hx).r.1,(hb x hx).r.2.1,hs.2.1,hs.2.2,by omega⟩).rs
 have hm:=MB.ofOk hv.m
 refine⟨?_,hm,Qjx hv.m⟩
 show rs (rv x.n x.a x.d)+1<=3
 omega
theorem Qaas{s:RSq}{k:Nat}(hb:SqB k s)(h:Qjp s=true)(h0:sqE s=0):PV.rsq s=PV.sq s.sq/\SqS s.sq/\0<s.sq.1:=by
 unfold sqE at h0
 split at h0
 ·rename_i h1
  split at h0
  ·rename_i h2
   split at h0
   ·rename_i h3
    simp only[Qjp,Bool.and_eq_true,decide_eq_true_eq]at h
    obtain⟨g1,g2,g3⟩:=h
    obtain⟨e1,e2⟩:=Qqw hb.p h2
    obtain⟨p1,p2⟩:=Qag1 hb.p g3 h2
    simp only[shQ,Bool.and_eq_true,decide_eq_true_eq]at g1
    have hr:=(show Raw 2 s.n s.a s.d from⟨hb.r.la,hb.r.ld,g1.1,g1.2,by omega⟩).rs
    have he:=Qah3 hb.r.la hb.r.ld h1
    refine⟨?_,⟨hr,p1,by show(s.p.map RTm.tm).length<=6;simpa using g2,p2⟩,h3⟩
    injection he with he
    injection he with e3 he
    injection he with e4 he
    injection he with e5 he
    show PV.agg [.bool s.n,PV.nat s.a,PV.nat s.d,PV.rpoly s.p]=PV.agg [.bool (decide ((rv s.n s.a s.d).num<0)),PV.num (rv s.n s.a s.d).num.natAbs,PV.num (rv s.n s.a s.d).den,PV.poly (s.p.map RTm.tm)]
    rw[e3,e4,e5,e1]
   ·cases h0
  ·cases h0
 ·cases h0
theorem Qq8{n:Bool}{a d:List Nat}{k:Nat}(hr:Raw k n a d)(hk:k<2^36):Qd Tryz.prog 34 [PV.rr n a d] (· = .bool (shQ a d)):=by
 have h1:=hr.sa
 have h2:=hr.sd
 refine Qf Qp Tryz.func34 rfl Qaqr (by simp[c34]) fun C hP=> ?_;simp only[c34,Zo,Zg,Zm,Zc,Zf,Zl,Zh,Zs,Zi,Zb,Zk,Zn,Zu,Zq,Zr,Zz]
 simp+decide (disch:=try exact D0) only[go_sem]
 refine Qay (fun h=> ?_) (fun h=> ?_)
 ·simp+decide (disch:=try exact D0) only[go_sem]
  exact Qc (congrArg PV.bool (by rw[shQ,decide_eq_true (show a.length<=2 by omega),Bool.true_and];exact decide_eq_decide.2 ⟨fun h=>by omega,fun h=>by omega⟩)) rfl
 ·simp+decide (disch:=try exact D0) only[go_sem]
  exact Qc (by rw[shQ,decide_eq_false (show ¬a.length<=2 by omega),Bool.false_and]) rfl
theorem Qaat{p:List RTm}{k:Nat}(hb:∀t∈p,RB k t)(hk1:1<=k)(hk:k<2^36)(hl:p.length<2^40):Qd Tryz.prog 18 [PV.rpoly p] (· = .bool (Qi3 p)):=by
 refine Qf Qp Tryz.func18 rfl Qaqs (by simp[c18]) fun C hP=> ?_;simp only[c18,Zo,Zg,Zm,Zc,Zf,Zl,Zh,Zs,Zi,Zb,Zk,Zn,Zu,Zq,Zr,Zz]
 simp+decide (disch:=try exact D0) only[go_sem]
 refine Qb (fun hn=> ?_) (fun hn=> ?_)
 ·simp+decide (disch:=try exact D0) only[go_sem]
  exact Qc (by simp[Qi3,show ¬p.length<=20 by omega]) rfl
 have hn':p.length<=20:=by omega
 simp+decide (disch:=try exact D0) only[go_sem]
 refine Qw (by repeat (first|exact Qo|exact Qi|exact Qj|exact Qk|exact Ql|apply Qh|apply Qn|apply Qr|apply Qx|apply Qy|apply Qg|apply Qs)) [(2,3),(7,28)] [] (fun m J hp=>∃i,m=p.length-i/\i<=p.length/\(∀j (h:j<p.length),j<i->ltT p[j]=true)/\J 3= .int .i64 (i:Nat)) p.length ?_ ?_
 ·refine⟨0,rfl,by omega,by omega,?_⟩
  simp+decide (disch:=try exact D0) only[go_sem]
  rfl
 rintro _ J h ⟨i,rfl,hi,h1,h3⟩
 simp+decide (disch:=try exact D1 h3) only[go_sem,h3]
 refine Qb (fun hg=> ?_) (fun hg=> ?_)
 ·have hi':i<p.length:=by omega
  have hbt:=hb _ (List.getElem_mem hi')
  have hmem:=List.getElem_mem hi'
  have hbad:ltT p[i]=false->Qi3 p=false:=fun h=>by
   have:p.all ltT=false:=by
    rw[List.all_eq_false];exact⟨_,hmem,by simp[h]⟩
   simp[Qi3,this]
  have hadd:ltT p[i]=true->∀j (h:j<p.length),j<i+1->ltT p[j]=true:=fun h j hj hji=>by
   by_cases e:j=i
   ·subst e;exact h
   ·exact h1 j hj (by omega)
  have hml:=hbt.l
  generalize hx:p[i]=x at *
  have hsh:=Qq8 (RB.raw hbt hk1) hk
  simp+decide (disch:=try exact D2 h3 hx) only[go_sem,h3,hx]
  refine Qah (fun h4=> ?_) (fun h4=> ?_)
  ·simp+decide (disch:=try exact D1 h3) only[go_sem,h3]
   exact Qc (by rw[hbad (by simp[ltT,show ¬x.m.length<=70 by omega])]) rfl
  simp+decide (disch:=try exact D2 h3 hx) only[go_sem,h3,hx]
  refine Qa hP hsh rfl rfl rfl ?_
  cases hs:shQ x.a x.d
  ·simp+decide (disch:=try exact D1 h3) only[go_sem,h3]
   exact Qc (by rw[hbad (by simp[ltT,hs])]) rfl
  ·simp+decide (disch:=try exact D1 h3) only[go_sem,h3]
   refine Qm (p.length-(i+1)) (by omega) ⟨i+1,rfl,by omega,hadd (by rw[ltT,hs,decide_eq_true (by omega)];rfl),?_⟩
   simp+decide (disch:=try exact D0) only[go_sem]
 ·obtain rfl:i=p.length:=by omega
  simp+decide (disch:=try exact D0) only[go_sem]
  refine Qc ?_ rfl
  have:p.all ltT=true:=by
   rw[List.all_eq_true]
   intro t ht
   obtain⟨j,hj,rfl⟩:=List.getElem_of_mem ht
   exact h1 j hj hj
  simp[Qi3,this,hn']
theorem Qam5{l:List RSq}{k:Nat}(hb:∀s∈l,SqB k s)(hk1:1<=k)(hk:k<2^36)(hl:l.length<2^40):Qd Tryz.prog 33 [.sl 4 (l.map PV.rsq)] (· = .bool (Qmd l)):=by
 refine Qf Qp Tryz.func33 rfl Qaqt (by simp[c33]) fun C hP=> ?_;simp only[c33,Zo,Zg,Zm,Zc,Zf,Zl,Zh,Zs,Zi,Zb,Zk,Zn,Zu,Zq,Zr,Zz]
 simp+decide (disch:=try exact D0) only[go_sem]
 refine Qb (fun hn=> ?_) (fun hn=> ?_)
 ·simp+decide (disch:=try exact D0) only[go_sem]
  exact Qc (by simp[Qmd,show ¬l.length<=5 by omega]) rfl
 have hn':l.length<=5:=by omega
 simp+decide (disch:=try exact D0) only[go_sem]
 refine Qw (by repeat (first|exact Qo|exact Qi|exact Qj|exact Qk|exact Ql|apply Qh|apply Qn|apply Qr|apply Qx|apply Qy|apply Qg|apply Qs)) [(2,3),(7,37)] [] (fun m J hp=>∃i,m=l.length-i/\i<=l.length/\(∀j (h:j<l.length),j<i->Qjp l[j]=true)/\J 3= .int .i64 (i:Nat)) l.length ?_ ?_
 ·refine⟨0,rfl,by omega,by omega,?_⟩
  simp+decide (disch:=try exact D0) only[go_sem]
  rfl
 rintro _ J h ⟨i,rfl,hi,h1,h3⟩
 simp+decide (disch:=try exact D1 h3) only[go_sem,h3]
 refine Qb (fun hg=> ?_) (fun hg=> ?_)
 ·have hi':i<l.length:=by omega
  have hbt:=hb _ (List.getElem_mem hi')
  have hmem:=List.getElem_mem hi'
  have hbad:Qjp l[i]=false->Qmd l=false:=fun h=>by
   have:l.all Qjp=false:=by
    rw[List.all_eq_false];exact⟨_,hmem,by simp[h]⟩
   simp[Qmd,this]
  have hadd:Qjp l[i]=true->∀j (h:j<l.length),j<i+1->Qjp l[j]=true:=fun h j hj hji=>by
   by_cases e:j=i
   ·subst e;exact h
   ·exact h1 j hj (by omega)
  have hpl:=hbt.l
  generalize hx:l[i]=x at *
  have hsh:=Qq8 hbt.r hk
  have hli:=Qaat hbt.p hk1 hk hbt.l
  simp+decide (disch:=try exact D2 h3 hx) only[go_sem,h3,hx]
  refine Qa hP hsh rfl rfl rfl ?_
  cases hs:shQ x.a x.d
  ·simp+decide (disch:=try exact D1 h3) only[go_sem,h3]
   exact Qc (by rw[hbad (by simp[Qjp,hs])]) rfl
  simp+decide (disch:=try exact D2 h3 hx) only[go_sem,h3,hx]
  refine Qah (fun h4=> ?_) (fun h4=> ?_)
  ·simp+decide (disch:=try exact D1 h3) only[go_sem,h3]
   exact Qc (by rw[hbad (by simp[Qjp,show ¬x.p.length<=6 by omega])]) rfl
  simp+decide (disch:=try exact D2 h3 hx) only[go_sem,h3,hx]
  refine Qa hP hli rfl rfl rfl ?_
  cases hs2:Qi3 x.p
  ·simp+decide (disch:=try exact D1 h3) only[go_sem,h3]
   exact Qc (by rw[hbad (by simp[Qjp,hs2])]) rfl
  ·simp+decide (disch:=try exact D1 h3) only[go_sem,h3]
   refine Qm (l.length-(i+1)) (by omega) ⟨i+1,rfl,by omega,hadd (by rw[Qjp,hs,hs2,decide_eq_true (by omega)];rfl),?_⟩
   simp+decide (disch:=try exact D0) only[go_sem]
 ·obtain rfl:i=l.length:=by omega
  simp+decide (disch:=try exact D0) only[go_sem]
  refine Qc ?_ rfl
  have:l.all Qjp=true:=by
   rw[List.all_eq_true]
   intro t ht
   obtain⟨j,hj,rfl⟩:=List.getElem_of_mem ht
   exact h1 j hj hj
  simp[Qmd,this,hn']
theorem Qag2{s:RSq}{k:Nat}(hb:SqB k s)(hk1:1<=k)(hk:k<2^36):Qd Tryz.prog 99 [PV.rsq s] (· = .int .i64 (sqE s)):=by
 have h1:=Qnm hb.r hk
 have h2:=Qsn hb.p hk1 hk hb.l
 have h3:=Qiy hb.r hk
 obtain⟨n,a,d,p⟩:=s
 simp only at h1 h2 h3
 refine Qf Qp Tryz.func99 rfl Qaqu (by simp[c99]) fun C hP=> ?_;simp only[c99,Zo,Zg,Zm,Zc,Zf,Zl,Zh,Zs,Zi,Zb,Zk,Zn,Zu,Zq,Zr,Zz]
 simp+decide (disch:=try exact D0) only[go_sem]
 refine Qa hP h1 rfl rfl rfl ?_
 cases e1:Qeq n a d
 ·simp+decide (disch:=try exact D0) only[go_sem]
  exact Qc (by simp[sqE,e1]) rfl
 simp+decide (disch:=try exact D0) only[go_sem]
 refine Qa hP h2 rfl rfl rfl ?_
 cases e2:Qc2 p
 ·simp+decide (disch:=try exact D0) only[go_sem]
  exact Qc (by simp[sqE,e1,e2]) rfl
 simp+decide (disch:=try exact D0) only[go_sem]
 refine Qa hP h3 rfl rfl rfl ?_
 have hp:= @Qtc (rv n a d)
 simp+decide (disch:=try exact D0) only[go_sem]
 refine Qb (fun h=> ?_) (fun h=> ?_)
 ·simp+decide (disch:=try exact D0) only[go_sem]
  exact Qc (by simp only[sqE,e1,e2,if_true];rw[if_neg (fun g=>by have:=hp.2 g;omega)]) rfl
 ·simp+decide (disch:=try exact D0) only[go_sem]
  exact Qc (by simp only[sqE,e1,e2,if_true];rw[if_pos (hp.1 (by omega))]) rfl
theorem Q7a(x:Int):Qd Tryz.prog 211 [.int .i64 x] (· = .bool (decide (1048576<x))):=by
 refine Qf Qp Tryz.func211 rfl Qamc (by simp[c211]) fun C hP=> ?_;simp only[c211,Zo,Zg,Zm,Zc,Zf,Zl,Zh,Zs,Zi,Zb,Zk,Zn,Zu,Zq,Zr,Zz]
 simp+decide (disch:=try exact D0) only[go_sem]
 exact Qc rfl rfl
theorem Qaau{t:Tm}(h:t.2.length<=2^36):Qd Tryz.prog 209 [PV.term t] (· = .bool (t.2.any fun x=>decide (1048576<x))):=by
 refine Qf Qp Tryz.func209 rfl Qamb (by simp[c209]) fun C hP=> ?_;simp only[c209,Zo,Zg,Zm,Zc,Zf,Zl,Zh,Zs,Zi,Zb,Zk,Zn,Zu,Zq,Zr,Zz]
 simp+decide (disch:=try exact D0) only[go_sem]
 refine Qa hP (Qq4 (fun x _=>Q7a x) h) rfl rfl rfl ?_
 simp+decide (disch:=try exact D0) only[go_sem]
 exact Qc rfl rfl
theorem Qag3{p:List Tm}{E:Nat}(hp:∀t∈p,MB E t.2)(hlp:p.length<=2^36):Qd Tryz.prog 171 [PV.poly p] (· = .bool (Qoc p)):=by
 refine Qf Qp Tryz.func171 rfl Qama (by simp[c171]) fun C hP=> ?_;simp only[c171,Zo,Zg,Zm,Zc,Zf,Zl,Zh,Zs,Zi,Zb,Zk,Zn,Zu,Zq,Zr,Zz]
 simp+decide (disch:=try exact D0) only[go_sem]
 refine Qah (fun h=> ?_) (fun h=> ?_)
 ·simp+decide (disch:=try exact D0) only[go_sem]
  exact Qc (congrArg PV.bool (by rw[Qoc,decide_eq_true (by omega),Bool.true_or])) rfl
 ·simp+decide (disch:=try exact D0) only[go_sem]
  refine Qa hP (Qq3 (fun t ht=>Qaau (by have:=(hp t ht).len;omega)) hlp) rfl rfl rfl ?_
  simp+decide (disch:=try exact D0) only[go_sem]
  exact Qc (congrArg PV.bool (by rw[Qoc,decide_eq_false (by omega),Bool.false_or])) rfl
theorem Qam6{x:Sq}(h:SqS x):Qd Tryz.prog 101 [PV.sq x] (· = .tup [PV.poly (sqT x),.int .i64 0]):=by
 have hl:=h.l
 have hw:=h.w
 have h1:=Qo4 h.b h.b
 have h5:=Nat.mul_le_mul hl hl
 have c1:=Q62 h.b h.b (by omega) (by omega) (by omega) (by omega) (by omega) (by omega)
 have c2:=Q1h (p:=Qdu x.2 x.2) (a:=x.1) (K:=36) (E:=2097152) (h1.1.mono (by omega) (by omega)) (by omega) (by omega) (by omega) (by omega)
 refine Qf Qp Tryz.func101 rfl Qamd (by simp[c101]) fun C hP=> ?_;simp only[c101,Zo,Zg,Zm,Zc,Zf,Zl,Zh,Zs,Zi,Zb,Zk,Zn,Zu,Zq,Zr,Zz]
 simp+decide (disch:=try exact D0) only[go_sem]
 refine Qa hP c1 rfl rfl rfl ?_
 simp+decide (disch:=try exact D0) only[go_sem]
 refine Qa hP c2 rfl rfl rfl ?_
 simp+decide (disch:=try exact D0) only[go_sem]
 exact Qep (r:= .tup [PV.poly (sqT x),.int .i64 0]) rfl rfl rfl (Qaa _) (Qaa _)
theorem Qare{l:List Sq}(h:∀x∈l,SqS x)(hl:l.length<=5):Qd Tryz.prog 100 [.sl 4 (l.map PV.sq),.fn 101 [] []] (· =PV.pe2 (Q69 (Qhx l []))):=by
 refine Qf Qp Tryz.func100 rfl Qame (by simp[c100]) fun C hP=> ?_;simp only[c100,Zo,Zg,Zm,Zc,Zf,Zl,Zh,Zs,Zi,Zb,Zk,Zn,Zu,Zq,Zr,Zz]
 simp+decide (disch:=try exact D0) only[go_sem]
 refine Qli 6 4 T0 ?_
 refine Qw (by repeat (first|exact Qo|exact Qi|exact Qj|exact Qk|exact Ql|apply Qh|apply Qn|apply Qr|apply Qx|apply Qy|apply Qg|apply Qs)) [(4,6),(8,10),(13,31)] [8] (fun q J hp=>∃i,q=l.length-i/\i<=l.length/\Qhx (l.drop i) (Qfr (l.take i))=Qhx l []/\J 6=PV.poly (Qfr (l.take i))/\J 13= .int .i64 (i:Nat)) l.length ?_ ?_
 ·refine⟨0,rfl,by omega,rfl,?_⟩
  simp+decide (disch:=try exact D0) only[go_sem]
  exact⟨rfl,rfl⟩
 rintro _ J h' ⟨i,rfl,hi,hgo,h6,h13⟩
 simp+decide (disch:=try exact D1 h13) only[go_sem,h13]
 refine Qb (fun hg=> ?_) (fun hg=> ?_)
 ·have hi':i<l.length:=by omega
  have hx0:=h _ (List.getElem_mem hi')
  obtain⟨a1,a2,a3⟩:=Qoe h i hi
  obtain⟨b1,b2,b3⟩:=Qoe h (i+1) hi'
  have hst:=Qkn hi'
  rw[Q68 _ hi',<-hst]at hgo
  obtain⟨c1,c2,c3⟩:=Q1p hx0
  have hs1:=Qam6 hx0
  have had:=Qvd (a1.mono (K':=400) (E':=2097152) (by omega) (by omega)) (c1.mono (K':=400) (E':=2097152) (by omega) (by omega)) (by omega) (by omega) (by omega) (by omega)
  have hlg:=Qag3 (fun t ht=>(b1 t ht).m) (by omega)
  generalize hx:l[i]=x at *
  rw[<-hst]at had
  generalize Qfr (l.take i)=A at *
  generalize hA':Qfr (l.take (i+1))=A' at *
  simp+decide (disch:=try exact D2 h13 hx) only[go_sem,h13,hx]
  refine Qa hP hs1 rfl rfl rfl ?_
  simp+decide (disch:=try exact D2 h13 h6) only[go_sem,h13,h6]
  refine Qa hP had rfl rfl rfl ?_
  simp+decide (disch:=try exact D1 h13) only[go_sem,h13]
  refine Qa hP hlg rfl rfl rfl ?_
  cases hp:Qoc A'
  ·rw[hp,if_neg (by decide)]at hgo
   simp+decide (disch:=try exact D1 h13) only[go_sem,h13]
   refine Qm (l.length-(i+1)) (by omega) ⟨i+1,rfl,by omega,by rw[hA'];exact hgo,?_⟩
   rw[hA']
   simp+decide (disch:=try exact D0) only[go_sem]
  ·rw[hp,if_pos rfl]at hgo
   simp+decide (disch:=try exact D0) only[go_sem]
   exact Qep (r:=PV.pe2 (Q69 (Qhx l []))) (by rw[<-hgo];rfl) rfl rfl Qtf (Qaa _)
 ·obtain rfl:i=l.length:=by omega
  rw[List.drop_length]at hgo
  simp+decide (disch:=try exact D1 h6) only[go_sem,h6]
  exact Qep (r:=PV.pe2 (Q69 (Qhx l []))) (by rw[<-hgo];rfl) rfl rfl (Qaa _) (Qaa _)
theorem Q4x{l:List RSq}{k:Nat}(hb:∀s∈l,SqB k s)(h:Qmd l=true)(h0:Qgd l=0):PV.sl 4 (l.map PV.rsq)=PV.sl 4 ((l.map RSq.sq).map PV.sq)/\(∀x∈l.map RSq.sq,SqS x/\0<x.1)/\(l.map RSq.sq).length<=5:=by
 simp only[Qmd,Bool.and_eq_true,decide_eq_true_eq,List.all_eq_true]at h
 obtain⟨h1,h2⟩:=h
 have hz:=Qvn h0
 refine⟨?_,fun x hx=> ?_,by rw[List.length_map];exact h1⟩
 ·rw[List.map_map]
  exact congrArg _ (List.map_congr_left fun s hs=>(Qaas (hb s hs) (h2 s hs) (hz s hs)).1)
 ·obtain⟨s,hs,rfl⟩:=List.mem_map.1 hx
  exact(Qaas (hb s hs) (h2 s hs) (hz s hs)).2
theorem Qarf{l:List RSq}{k:Nat}(hb:∀s∈l,SqB k s)(hk1:1<=k)(hk:k<2^36)(hf:Qmd l=true):Qd Tryz.prog 36 [.sl 4 (l.map PV.rsq)] (· =PV.pe2 (Qps l)):=by
 have hl5:l.length<=5:=by
  simp only[Qmd,Bool.and_eq_true,decide_eq_true_eq]at hf;exact hf.1
 refine Qf Qp Tryz.func36 rfl Qaqv (by simp[c36]) fun C hP=> ?_;simp only[c36,Zo,Zg,Zm,Zc,Zf,Zl,Zh,Zs,Zi,Zb,Zk,Zn,Zu,Zq,Zr,Zz]
 simp+decide (disch:=try exact D0) only[go_sem]
 refine Qw (by repeat (first|exact Qo|exact Qi|exact Qj|exact Qk|exact Ql|apply Qh|apply Qn|apply Qr|apply Qx|apply Qy|apply Qg|apply Qs)) [(2,3),(5,6),(9,18)] [5] (fun q J hp=>∃i,q=l.length-i/\i<=l.length/\Qgd (l.drop i)=Qgd l/\J 9= .int .i64 (i:Nat)) l.length ?_ ?_
 ·refine⟨0,rfl,by omega,rfl,?_⟩
  simp+decide (disch:=try exact D0) only[go_sem]
  rfl
 rintro _ J h' ⟨i,rfl,hi,he,h9⟩
 simp+decide (disch:=try exact D1 h9) only[go_sem,h9]
 refine Qb (fun hg=> ?_) (fun hg=> ?_)
 ·have hi':i<l.length:=by omega
  have hbt:=hb _ (List.getElem_mem hi')
  rw[Q3i hi']at he
  generalize hx:l[i]=s at *
  have hc:=Qag2 hbt hk1 hk
  generalize sqE s=e at *
  simp+decide (disch:=try exact D2 h9 hx) only[go_sem,h9,hx]
  refine Qa hP hc rfl rfl rfl ?_
  simp+decide (disch:=try exact D1 h9) only[go_sem,h9]
  refine Qb (fun h0=> ?_) (fun h0=> ?_)
  ·rw[if_neg (by omega)]at he
   simp+decide (disch:=try exact D0) only[go_sem]
   exact Qep (r:=PV.pe2 (Qps l)) (by rw[Qps,<-he,if_neg (by omega)]) rfl rfl Qtf (Qaa _)
  ·rw[if_pos (by omega)]at he
   simp+decide (disch:=try exact D1 h9) only[go_sem,h9]
   refine Qm (l.length-(i+1)) (by omega) ⟨i+1,rfl,by omega,he,?_⟩
   simp+decide (disch:=try exact D0) only[go_sem]
 ·obtain rfl:i=l.length:=by omega
  rw[List.drop_length]at he
  obtain⟨e1,e2,e3⟩:=Q4x hb hf he.symm
  have hs:=Qare (fun x hx=>(e2 x hx).1) e3
  simp+decide (disch:=try exact D0) only[go_sem]
  rw[e1]
  refine Qa hP hs rfl rfl rfl ?_
  simp+decide (disch:=try exact D0) only[go_sem]
  exact Qep (r:=PV.pe2 (Qps l)) (by rw[Qps,if_pos (show Qgd l=0 from he.symm)]) rfl rfl (Qaa _) (Qaa _)
theorem Q1q(v:Nat)(n:Int)(h:n=((n.toNat:Nat):Int)):(List.replicate (v+1) (0:Int)).set v n=Qc7 v n.toNat:=by
 unfold Qc7
 rw[<-h]
 induction v with
 |zero=>rfl
 |succ v ih=>rw[List.replicate_succ,List.set_cons_succ,ih];rfl
theorem Qaav{x y:Int}(hx:nl x.natAbs<2^38)(hy:nl y.natAbs<2^38)(h0:y≠0):Qd Tryz.prog 187 [PV.zz x,PV.zz y] (· = .tup [PV.rat ((x:Rat)/(y:Rat)),.int .i64 0]):=by
 have hv:=Qvk x y h0
 have hr:=Ql6 (n:=decide (x<0) !=decide (y<0)) (a:=dig x.natAbs) (d:=dig y.natAbs) (Qu _) (Qu _) hx hy
 rw[rv,Qaf,hv]at hr
 have hs:=Qjy (n:=decide (y<0)) (a:=dig y.natAbs) (Qu _) (by show nl _<_;omega)
 rw[Qf4]at hs
 generalize(x:Rat)/(y:Rat)=Q at *
 refine Qf Qp Tryz.func187 rfl Qakc (by simp[c187]) fun C hP=> ?_;simp only[c187,Zo,Zg,Zm,Zc,Zf,Zl,Zh,Zs,Zi,Zb,Zk,Zn,Zu,Zq,Zr,Zz]
 simp+decide (disch:=try exact D0) only[go_sem]
 refine Qa hP hs rfl rfl rfl ?_
 simp+decide (disch:=try exact D0) only[go_sem]
 refine Qb (fun h=>absurd (Qtb.1 h) h0) (fun _=> ?_)
 simp+decide (disch:=try exact D0) only[go_sem]
 refine Qa hP hr rfl rfl rfl ?_
 simp+decide (disch:=try exact D0) only[go_sem]
 refine Qhc ?_
 simp+decide (disch:=try exact D0) only[go_sem]
 exact Qep rfl rfl rfl (Qaa _) (Qaa _)
theorem Qaaw{n m:Bool}{a d b c:List Nat}{k:Nat}(hp:Raw k n a d)(hq:Raw k m b c)(hk:k<2^34)(h0:rv m b c≠0):Qd Tryz.prog 123 [PV.rr n a d,PV.rr m b c] (· = .tup [PV.rat (rv n a d/rv m b c),.int .i64 0]):=by
 refine Qf Qp Tryz.func123 rfl Qakd (by simp[c123]) fun C hP=> ?_;simp only[c123,Zo,Zg,Zm,Zc,Zf,Zl,Zh,Zs,Zi,Zb,Zk,Zn,Zu,Zq,Zr,Zz]
 simp+decide (disch:=try exact D0) only[go_sem]
 refine Qc9 hP (Qd3 hp.la hp.ld hp.k1 hp.sa hp.sd (by omega)) rfl rfl rfl ?_
 rintro _ ⟨n',a',d',rfl,g1,g2,g3,g4,g5,g6⟩
 simp+decide (disch:=try exact D0) only[go_sem]
 refine Qc9 hP (Qd3 hq.la hq.ld hq.k1 hq.sa hq.sd (by omega)) rfl rfl rfl ?_
 rintro _ ⟨m',b',c',rfl,e1,e2,e3,e4,e5,e6⟩
 simp+decide (disch:=try exact D0) only[go_sem]
 have hza:nl (zv n' a').natAbs<=k:=by rw[Qbq];exact Nat.le_trans (Qax g1) g3
 have hzb:nl (zv m' b').natAbs<=k:=by rw[Qbq];exact Nat.le_trans (Qax e1) e3
 have hvd:nl (val d')<=k:=Nat.le_trans (Qax g2) g4
 have hvc:nl (val c')<=k:=Nat.le_trans (Qax e2) e4
 have h3:=Qa3 (zv n' a') (val c')
 have h6:=Qa3 (zv m' b') (val d')
 rw[Int.natAbs_natCast]at h3 h6
 have hzb0:zv m' b'≠0:=fun h=>h0 (by rw[<-e6,rv,h,Rat.zero_mkRat])
 have hne:zv m' b'*(val d':Int)≠0:=Int.mul_ne_zero hzb0 (by omega)
 have hfin:=Qard (n:=n') (a:=a') (m:=m') (b:=b') g5 e5 hzb0
 rw[g6,e6]at hfin
 have hm1:=Qer (n:=n') (m:=false) g1 e2 (by omega) (by omega)
 have hm2:=Qer (n:=m') (m:=false) e1 g2 (by omega) (by omega)
 rw[Qgy]at hm1 hm2
 refine Qa hP (Qfd c') rfl rfl rfl ?_
 simp+decide (disch:=try exact D0) only[go_sem]
 refine Qa hP hm1 rfl rfl rfl ?_
 simp+decide (disch:=try exact D0) only[go_sem]
 refine Qa hP (Qfd d') rfl rfl rfl ?_
 simp+decide (disch:=try exact D0) only[go_sem]
 refine Qa hP hm2 rfl rfl rfl ?_
 generalize zv n' a'*(val c':Int)=X at *
 generalize zv m' b'*(val d':Int)=Y at *
 simp+decide (disch:=try exact D0) only[go_sem]
 refine Qa hP (Qaav (x:=X) (y:=Y) (by omega) (by omega) hne) rfl rfl rfl ?_
 rw[hfin]
 generalize rv n a d/rv m b c=Q at *
 simp+decide (disch:=try exact D0) only[go_sem]
 refine Qhc ?_
 simp+decide (disch:=try exact D0) only[go_sem]
 exact Qep rfl rfl rfl (Qaa _) (Qaa _)
theorem Qvp{a b:Rat}{k:Nat}(ha:rs a<=k)(hb:rs b<=k)(hk:k<2^34)(h0:b≠0):Qd Tryz.prog 123 [PV.rat a,PV.rat b] (· = .tup [PV.rat (a/b),.int .i64 0]):=by
 have:=Qaaw (Qb8 ha) (Qb8 hb) hk (by rw[Qcl];exact h0)
 rwa[Qcl,Qcl]at this
theorem Qx8{x:Int}(hx:nl x.natAbs<2^40):Qd Tryz.prog 130 [PV.zz x] (· =PV.zz (-x)):=by
 have hs:=Qfj (n:= !decide (x<0)) (a:=dig x.natAbs) (Qu _) (by show nl _<_;omega)
 have e:zv (!decide (x<0)) (dig x.natAbs)= -x:=by
  rw[Qit];by_cases h:x<0<;>simp[h]<;>omega
 rw[e]at hs
 refine Qf Qp Tryz.func130 rfl Qamu (by simp[c130]) fun C hP=> ?_;simp only[c130,Zo,Zg,Zm,Zc,Zf,Zl,Zh,Zs,Zi,Zb,Zk,Zn,Zu,Zq,Zr,Zz]
 simp+decide (disch:=try exact D0) only[go_sem]
 refine Qa hP hs rfl rfl rfl ?_
 simp+decide (disch:=try exact D0) only[go_sem]
 refine Qa5 ?_
 simp+decide (disch:=try exact D0) only[go_sem]
 exact Qc rfl rfl
theorem Qvq{x y:Int}(hx:nl x.natAbs<2^35)(hy:nl y.natAbs<2^35)(h0:y≠0):Qd Tryz.prog 121 [PV.zz x,PV.zz y] (· = .tup [PV.rat ((x:Rat)/(y:Rat)),.int .i64 0]):=by
 have h3:(y:Rat)≠0:=by rw[Ne,Rat.intCast_eq_zero_iff];exact h0
 have hnx:nl (-x).natAbs<2^35:=by rw[Int.natAbs_neg];exact hx
 have o1:=Qhg (z:=x) (D:=y.natAbs) (by omega) (by omega)
 have o2:=Qhg (z:= -x) (D:=y.natAbs) (by omega) (by omega)
 have e1:¬y<0->mkRat x y.natAbs=(x:Rat)/(y:Rat):=fun h=>by
  rw[Rat.mkRat_eq_div,<-Rat.intCast_natCast]
  congr 2;omega
 have e2:y<0->mkRat (-x) y.natAbs=(x:Rat)/(y:Rat):=fun h=>by
  have e:(((y.natAbs:Nat):Int):Rat)= -(y:Rat):=by rw[<-Rat.intCast_neg];congr 1;omega
  rw[Rat.mkRat_eq_div,<-Rat.intCast_natCast,e,Rat.intCast_neg]
  grind
 refine Qf Qp Tryz.func121 rfl Qamy (by simp[c121]) fun C hP=> ?_;simp only[c121,Zo,Zg,Zm,Zc,Zf,Zl,Zh,Zs,Zi,Zb,Zk,Zn,Zu,Zq,Zr,Zz]
 simp+decide (disch:=try exact D0) only[go_sem]
 refine Qa hP (Qvi (by omega)) rfl rfl rfl ?_
 simp+decide (disch:=try exact D0) only[go_sem]
 refine Qb (fun h=>absurd (Qtb.1 h) h0) (fun _=> ?_)
 simp+decide (disch:=try exact D0) only[go_sem]
 refine Qb (fun hn=> ?_) (fun hn=> ?_)
 ·rw[e2 hn]at o2
  generalize(x:Rat)/(y:Rat)=Q at *
  simp+decide (disch:=try exact D0) only[go_sem]
  refine Qa hP (Qx8 (x:=x) (by omega)) rfl rfl rfl ?_
  simp+decide (disch:=try exact D0) only[go_sem]
  refine Qa hP o2 rfl rfl rfl ?_
  simp+decide (disch:=try exact D0) only[go_sem]
  refine Qhc ?_
  simp+decide (disch:=try exact D0) only[go_sem]
  exact Qep rfl rfl rfl (Qaa _) (Qaa _)
 ·rw[e1 hn]at o1
  generalize(x:Rat)/(y:Rat)=Q at *
  simp+decide (disch:=try exact D0) only[go_sem]
  refine Qa hP o1 rfl rfl rfl ?_
  simp+decide (disch:=try exact D0) only[go_sem]
  refine Qhc ?_
  simp+decide (disch:=try exact D0) only[go_sem]
  exact Qep rfl rfl rfl (Qaa _) (Qaa _)
theorem Q7b{n m:Bool}{a d b c:List Nat}{k:Nat}(hp:Raw k n a d)(hq:Raw k m b c)(hk:k<2^33)(h0:rv m b c≠0):Qd Tryz.prog 143 [PV.rr n a d,PV.rr m b c] (· = .tup [PV.rat (rv n a d/rv m b c),.int .i64 0]):=by
 have hx:=hp.rs
 have hy:=hq.rs
 unfold FW.rs at hx hy
 refine Qf Qp Tryz.func143 rfl Qam2 (by simp[c143]) fun C hP=> ?_;simp only[c143,Zo,Zg,Zm,Zc,Zf,Zl,Zh,Zs,Zi,Zb,Zk,Zn,Zu,Zq,Zr,Zz]
 simp+decide (disch:=try exact D0) only[go_sem]
 refine Qa hP (Qdp hp (by omega)) rfl rfl rfl ?_
 simp+decide (disch:=try exact D0) only[go_sem]
 refine Qa hP (Qdp hq (by omega)) rfl rfl rfl ?_
 generalize rv n a d=p at *
 generalize rv m b c=q at *
 have h1:=Qa3 p.num (q.den:Int)
 have h2:=Qa3 q.num (p.den:Int)
 rw[Int.natAbs_natCast]at h1 h2
 have hq0:q.num≠0:=fun h=>h0 (Rat.num_eq_zero.1 h)
 have hne:q.num*(p.den:Int)≠0:=Int.mul_ne_zero hq0 (by have:=p.den_nz;omega)
 have hfin:((p.num*(q.den:Int):Int):Rat)/((q.num*(p.den:Int):Int):Rat)=p/q:=by
  have k1:((p.den:Int):Rat)≠0:=by rw[Ne,Rat.intCast_eq_zero_iff];have:=p.den_nz;omega
  have k2:((q.den:Int):Rat)≠0:=by rw[Ne,Rat.intCast_eq_zero_iff];have:=q.den_nz;omega
  have k3:((q.num:Int):Rat)≠0:=by rw[Ne,Rat.intCast_eq_zero_iff];exact hq0
  have d1:p=(p.num:Rat)/((p.den:Int):Rat):=by
   conv=>lhs;rw[<-Rat.mkRat_self p]
   rw[Rat.mkRat_eq_div,Rat.intCast_natCast]
  have d2:q=(q.num:Rat)/((q.den:Int):Rat):=by
   conv=>lhs;rw[<-Rat.mkRat_self q]
   rw[Rat.mkRat_eq_div,Rat.intCast_natCast]
  rw[Rat.intCast_mul,Rat.intCast_mul]
  generalize(p.num:Rat)=A at *
  generalize(q.num:Rat)=B at *
  generalize((p.den:Int):Rat)=D at *
  generalize((q.den:Int):Rat)=F at *
  rw[d1,d2]
  grind
 simp+decide (disch:=try exact D0) only[go_sem]
 refine Qa hP (Qfc (dig q.den)) rfl rfl rfl ?_
 simp+decide (disch:=try exact D0) only[go_sem]
 refine Qa hP (Qid (x:=p.num) (d:=q.den) (by omega) (by omega)) rfl rfl rfl ?_
 simp+decide (disch:=try exact D0) only[go_sem]
 refine Qa hP (Qfc (dig p.den)) rfl rfl rfl ?_
 simp+decide (disch:=try exact D0) only[go_sem]
 refine Qa hP (Qid (x:=q.num) (d:=p.den) (by omega) (by omega)) rfl rfl rfl ?_
 generalize p.num*(q.den:Int)=X at *
 generalize q.num*(p.den:Int)=Y at *
 simp+decide (disch:=try exact D0) only[go_sem]
 refine Qa hP (Qvq (x:=X) (y:=Y) (by omega) (by omega) hne) rfl rfl rfl ?_
 rw[hfin]
 generalize p/q=Q at *
 simp+decide (disch:=try exact D0) only[go_sem]
 refine Qhc ?_
 simp+decide (disch:=try exact D0) only[go_sem]
 exact Qep rfl rfl rfl (Qaa _) (Qaa _)
theorem Q1r{a b:Rat}{k:Nat}(ha:rs a<=k)(hb:rs b<=k)(hk:k<2^33)(h0:b≠0):Qd Tryz.prog 143 [PV.rat a,PV.rat b] (· = .tup [PV.rat (a/b),.int .i64 0]):=by
 have:=Q7b (Qb8 ha) (Qb8 hb) hk (by rw[Qcl];exact h0)
 rwa[Qcl,Qcl]at this
theorem Q1s{x y:Int}(hx: -9223372036854775808<=x/\x<=9223372036854775807)(hy: -9223372036854775808<=y/\y<=9223372036854775807)(h0:y≠0):Qd Tryz.prog 51 [.int .i64 x,.int .i64 y] (· =PV.rat ((x:Rat)/(y:Rat))):=by
 have n1:=Qe1 (n:=x.natAbs) (by omega)
 have n2:=Qe1 (n:=y.natAbs) (by omega)
 have hm:=Qvq (x:=x) (y:=y) (by omega) (by omega) h0
 generalize(x:Rat)/(y:Rat)=Q at *
 refine Qf Qp Tryz.func51 rfl Qaqk (by simp[c51]) fun C hP=> ?_;simp only[c51,Zo,Zg,Zm,Zc,Zf,Zl,Zh,Zs,Zi,Zb,Zk,Zn,Zu,Zq,Zr,Zz]
 simp+decide (disch:=try exact D0) only[go_sem]
 refine Qa hP (Qpq hx.1 hx.2) rfl rfl rfl ?_
 simp+decide (disch:=try exact D0) only[go_sem]
 refine Qa hP (Qpq hy.1 hy.2) rfl rfl rfl ?_
 simp+decide (disch:=try exact D0) only[go_sem]
 refine Qa hP hm rfl rfl rfl ?_
 simp+decide (disch:=try exact D0) only[go_sem]
 refine Qa5 ?_
 simp+decide (disch:=try exact D0) only[go_sem]
 exact Qc rfl rfl
theorem Qaax(n:Bool)(a d:List Nat):rv (!n) a d= -rv n a d:=by
 have e:zv (!n) a= -zv n a:=by unfold zv;cases n<;>simp
 unfold rv;rw[e,Rat.neg_mkRat]
theorem Raw.not{n:Bool}{a d:List Nat}{k:Nat}(h:Raw k n a d):Raw k (!n) a d:=⟨h.la,h.ld,h.sa,h.sd,h.k1⟩
theorem Qaay{n m:Bool}{a d b c:List Nat}{k:Nat}(hp:Raw k n a d)(hq:Raw k m b c)(hk:k<2^36):Qd Tryz.prog 181 [PV.rr n a d,PV.rr m b c] (· =PV.rat (rv n a d-rv m b c)):=by
 have h:=Qqy hp hq.not hk
 rw[Qaax,<-Rat.sub_eq_add_neg]at h
 refine Qf Qp Tryz.func181 rfl Qaka (by simp[c181]) fun C hP=> ?_;simp only[c181,Zo,Zg,Zm,Zc,Zf,Zl,Zh,Zs,Zi,Zb,Zk,Zn,Zu,Zq,Zr,Zz]
 simp+decide (disch:=try exact D0) only[go_sem]
 refine Qa hP h rfl rfl rfl ?_
 simp+decide (disch:=try exact D0) only[go_sem]
 refine Qa5 ?_
 simp+decide (disch:=try exact D0) only[go_sem]
 exact Qc rfl rfl
theorem Qah9{a b:Rat}{k:Nat}(ha:rs a<=k)(hb:rs b<=k)(hk:k<2^36):Qd Tryz.prog 181 [PV.rat a,PV.rat b] (· =PV.rat (a-b)):=by
 have:=Qaay (Qb8 ha) (Qb8 hb) hk
 rwa[Qcl,Qcl]at this
theorem Qaaz{n:Bool}{a d:List Nat}{k:Nat}(hp:Raw k n a d)(hk:k<2^36):Qd Tryz.prog 62 [PV.rr n a d] (· =PV.rat (-rv n a d)):=by
 refine Qf Qp Tryz.func62 rfl Qapl (by simp[c62]) fun C hP=> ?_;simp only[c62,Zo,Zg,Zm,Zc,Zf,Zl,Zh,Zs,Zi,Zb,Zk,Zn,Zu,Zq,Zr,Zz]
 simp+decide (disch:=try exact D0) only[go_sem]
 refine Qc9 hP (Qd3 hp.la hp.ld hp.k1 hp.sa hp.sd (by omega)) rfl rfl rfl ?_
 rintro _ ⟨n',a',d',rfl,g1,g2,g3,g4,g5,g6⟩
 simp+decide (disch:=try exact D0) only[go_sem]
 refine Qa hP (Ql6 (n:= !n') g1 g2 (by omega) (by omega)) rfl rfl rfl ?_
 rw[Qaax,g6]
 simp+decide (disch:=try exact D0) only[go_sem]
 refine Qa5 ?_
 simp+decide (disch:=try exact D0) only[go_sem]
 exact Qc rfl rfl
theorem Qaia{a:Rat}{k:Nat}(ha:rs a<=k)(hk:k<2^36):Qd Tryz.prog 62 [PV.rat a] (· =PV.rat (-a)):=by
 have:=Qaaz (Qb8 ha) hk
 rwa[Qcl]at this
theorem Qnr{x:Int}(h1: -9223372036854775808<=x)(h2:x<=9223372036854775807):Qd Tryz.prog 61 [.int .i64 x] (· =PV.rat (x:Rat)):=Qkl h1 h2
theorem Qtq{a:Rat}{k:Nat}(ha:rs a<=k)(hk:k<2^35):Qd Tryz.prog 63 [PV.rat a] (· =PV.rat (-a)):=by
 have h1:nl a.num.natAbs<=k:=by unfold rs at ha;omega
 have h2:nl a.den<=k:=by unfold rs at ha;omega
 have h3:nl (-a.num).natAbs<=k:=by rw[Int.natAbs_neg];exact h1
 have e:mkRat (-a.num) a.den= -a:=by rw[<-Rat.neg_mkRat,Rat.mkRat_self]
 have hn:=Qx8 (x:=a.num) (by omega)
 have ho:=Qhg (z:= -a.num) (D:=a.den) (by omega) (by omega)
 rw[e]at ho
 refine Qf Qp Tryz.func63 rfl Qaq9 (by simp[c63]) fun C hP=> ?_;simp only[c63,Zo,Zg,Zm,Zc,Zf,Zl,Zh,Zs,Zi,Zb,Zk,Zn,Zu,Zq,Zr,Zz]
 simp+decide (disch:=try exact D0) only[go_sem]
 refine Qa hP hn rfl rfl rfl ?_
 simp+decide (disch:=try exact D0) only[go_sem]
 refine Qa hP ho rfl rfl rfl ?_
 simp+decide (disch:=try exact D0) only[go_sem]
 refine Qa5 ?_
 simp+decide (disch:=try exact D0) only[go_sem]
 exact Qc rfl rfl
theorem Qag4{a b:Rat}{k:Nat}(ha:rs a<=k)(hb:rs b<=k)(hk:k<2^34):Qd Tryz.prog 145 [PV.rat a,PV.rat b] (· =PV.rat (a-b)):=by
 have h:=Q1k (a:=a) (b:= -b) ha (by rw[Qkg];exact hb) hk
 rw[<-Rat.sub_eq_add_neg]at h
 refine Qf Qp Tryz.func145 rfl Qam1 (by simp[c145]) fun C hP=> ?_;simp only[c145,Zo,Zg,Zm,Zc,Zf,Zl,Zh,Zs,Zi,Zb,Zk,Zn,Zu,Zq,Zr,Zz]
 simp+decide (disch:=try exact D0) only[go_sem]
 refine Qa hP (Qtq hb (by omega)) rfl rfl rfl ?_
 simp+decide (disch:=try exact D0) only[go_sem]
 refine Qa hP h rfl rfl rfl ?_
 simp+decide (disch:=try exact D0) only[go_sem]
 refine Qa5 ?_
 simp+decide (disch:=try exact D0) only[go_sem]
 exact Qc rfl rfl
theorem Qvr{l:List Rat}{R m:Nat}(hl:l.length=R*m)(hR:0<R)(hR2:R<=40)(hm:m<=40):
  Qcv Tryz.prog 54 [PV.mat R m l] (fun _=> .undef) hp0 (fun r F H=>r= .nso 2000000 0 R/\F 2000000= .nst 2000000 1 22 (Qai (rws 3000000 R fun _=>m))/\H 2000000=some ⟨1,22,[],false⟩/\
   ∀i,i<R->H (3000000+i)=some ⟨3,51,Qac PV.rat (Qaj l m i) m,false⟩):=by
 refine Qfg Qp Tryz.func54 rfl Qaaj (by simp[c54]) fun C hP=> ?_;simp only[c54,Zo,Zg,Zm,Zc,Zf,Zl,Zh,Zs,Zi,Zb,Zk,Zn,Zu,Zq,Zr,Zz]
 simp+decide (disch:=try exact D0) only[go_sem]
 refine Qce (Qiu 7 2000000 rfl (by omega) rfl (by omega)) ?_
 simp+decide (disch:=try exact D0) only[go_sem]
 refine Qce (Ql7 (γ:=2000000) (e:=1) (ty:=22) (xs:=List.replicate R .nilS) (fz:=false) T0 (by intro h;have:=congrArg List.length h;simp at this;omega) (by omega) (fun x hx=>by rw[List.eq_of_mem_replicate hx];rfl)) ?_
 rw[Q95 3000000 R fun _=>m]
 simp+decide (disch:=try exact D0) only[go_sem]
 refine Qbp (by repeat (first|exact Qo|exact Qi|exact Qj|exact Qk|exact Ql|apply Qh|apply Qn|apply Qr|apply Qx|apply Qy|apply Qg)) [(3,4),(10,36),(2000000,2000000)] [17] (fun n J hp=>∃i,n=R-i/\i<=R/\J 3= .nso 2000000 0 R/\J 10= .int .i64 (i:Nat)/\J 2000000= .nst 2000000 1 22 (Qef 3000000 i R fun _=>m)/\
   hp 1=some ⟨3,24,[PV.mat R m l],false⟩/\hp 2000000=some ⟨1,22,[],false⟩/\(∀j,j<i->hp (3000000+j)=some ⟨3,51,Qac PV.rat (Qaj l m j) m,false⟩)/\∀j,i<=j->hp (3000000+j)=none) R ?_ ?_
 ·refine⟨0,rfl,by omega,?_⟩
  simp+decide (disch:=try exact D0) only[go_sem]
  exact⟨rfl,(fun j hj=>by omega),fun j hj=>trivial⟩
 rintro _ J h ⟨i,rfl,hi,h3,h10,hg,h1,hh,hrow,hno⟩
 simp+decide (disch:=try exact D2 h3 h10) only[go_sem,h3,h10]
 refine Qb (fun hc=> ?_) (fun hc=> ?_)
 ·have hi':i<R:=by omega
  have hfr:=hno i (Nat.le_refl _)
  simp+decide (disch:=try exact D4 h3 h10 h1 hg) only[go_sem,h3,h10,h1,hg]
  refine Qce (Qiu 17 (3000000+i) (T1 hfr) (by omega) rfl (by omega)) ?_
  have hgm:∀L,rnP (mvN 17 (3000000+i)) (.nst 2000000 1 22 (Qef 3000000 i R L))= .nst 2000000 1 22 (Qef 3000000 i R L):=fun L=>Qak0 (by omega) (by omega) (by omega)
  simp+decide (disch:=try exact D6 h3 h10 h1 hg hh hgm) only[go_sem,h3,h10,h1,hg,hh,hgm]
  rw[Qaky (ty:=22) (B:=3000000) (i:=i) (n:=R) (L:=fun _=>m) (e0:=1) (ty0:=22) (xs0:=[]) (T2 hg hgm) (T1 hh) hi' (by omega) rfl]
  have hld:=fun(K:Qq) (fr:Fr) (hp:HP) d=>Qakz (d:=d) (fr:=fr) (hp:=hp) (K:=K) (γ:=2000000) (j:=i) (i:=i+1) (n:=R) (ty:=22) (B:=3000000) (L:=fun _=>m)
  have hb1:(i+1)*m<=R*m:=Nat.mul_le_mul_right _ hi'
  have hb2:i*m<=(i+1)*m:=Nat.mul_le_mul_right _ (by omega)
  have e1:(i:Int)*(m:Int)=((i*m:Nat):Int):=by rw[Int.natCast_mul]
  have e2:((i:Int)+1)*(m:Int)=(((i+1)*m:Nat):Int):=by rw[Int.natCast_mul];rfl
  have hcr:=Qx2 hl hi'
  have hRm:R*m<=40*40:=Nat.mul_le_mul hR2 hm
  simp+decide (disch:=try exact D9 h3 h10 h1 hg hh hgm hld e1 e2) only[go_sem,h3,h10,h1,hg,hh,hgm,hld,e1,e2]
  rw[Qass (xs:=List.replicate m (.agg [.bool false,.nilS,.nilS])) (ty:=51) T0 (by omega) (by simp) (by rw[hcr,Qaz])]
  rw[hcr]
  simp+decide (disch:=try exact D2 h3 h10) only[go_sem,h3,h10]
  refine Qa7 (R-(i+1)) (by omega) ⟨i+1,rfl,by omega,?_⟩
  simp+decide (disch:=try exact D4 h3 h10 h1 hh) only[go_sem,h3,h10,h1,hh]
  refine⟨fun j hj=> ?_,fun j hj=> ?_⟩
  ·by_cases e:j=i
   ·subst e;simp+decide (disch:=try exact D0) only[go_sem]
   ·simp+decide (disch:=try exact D1 e) only[go_sem,e]
    exact hrow j (by omega)
  ·have e:¬j=i:=by omega
   simp+decide (disch:=try exact D1 e) only[go_sem,e]
   exact hno j (by omega)
 ·obtain rfl:i=R:=by omega
  rw[Q96]at hg
  simp+decide (disch:=try exact D1 h3) only[go_sem,h3]
  refine Q0t ?_
  simp+decide (disch:=try exact D2 hg hh) only[go_sem,hg,hh]
  exact hrow
end Go.Proofs.YtkoclfmjlolkhaaGreat
namespace Go.FW
open Go
variable {C : Ctx} {ρ : Nat -> Option Nat} {fr fr' : Fr} {hp : HP} {w : World} {K R : Qq}
theorem Qcv.data{P:Program}{f:FuncId}{args:List PV}{Post:PV->Fr->HP->Prop}{Rr:PV->Prop}(k:Nat)(h:Qcv P f args (fun _=> .undef) hp0 Post)(hl:args.length<=1000000)
  (hpost:∀r F H,Post r F H->Qqz (Qf6 r F) k r/\Rr (Ql8 (Qf6 r F) H k r)):Qd P f args Rr:=by
 refine⟨h.1,fun w X vals hX hsz hrep=> ?_⟩
 let C:Ctx:=Ctx.plain P args.length w X hX hl
 have hsim:Qag C (fun _=>none) (Qnj args fun _=> .undef) hp0 vals w:=by
  refine⟨hsz,Ext.refl _ _,(fun _ _ h=>by cases h),by simp[hp0],by simp[hp0],fun i=> ?_⟩
  unfold Qnj
  split
  ·cases hi:args[i]? with
   |none=>trivial
   |some p=>
    simp only[Option.getD_some]
    refine Qz.ofData ((hrep i p hi).mono (fun _ _ _=>rfl) (fun b _ hn hx=> ?_) (Nat.le_refl _))
    rcases hx with hx|⟨_,_,h1,_⟩
    ·exact hn hx
    ·simp[hp0]at h1
  ·trivial
 refine(h.2 C _ vals w rfl rfl rfl hsim).mono ?_
 rintro e w' ⟨v,ρ',r,F,H,rfl,hs,hp⟩
 obtain⟨h1,h2⟩:=hpost r F H hp
 have hr0:Qf6 r F 0=r:=rfl
 obtain⟨ρ2,hs2⟩:=Q0s (fr:=Qf6 r F) (hp:=H) 0 k (by rw[hr0];exact h1) (C.setN 1 (by decide)) #[v] w' ⟨ρ',hs⟩
 refine⟨v,_,rfl,Ctx.plain_ext hs2.ext,?_,h2⟩
 have hsl:=hs2.slots 0
 rw[hr0]at hsl
 have e1:upd (Qf6 r F) 0 (Ql8 (Qf6 r F) H k r) 0=Ql8 (Qf6 r F) H k r:=by simp[upd]
 rw[e1]at hsl
 have hd:Qc4 w' (Xof C ρ2 (Qap H (Qww (Qf6 r F) k r))) (Ql8 (Qf6 r F) H k r) v:=by
  cases r with
  |rag cs=>exact hsl
  | nso γ o n=>
   cases k with
   |zero=>cases h1
   | succ k=>
    simp only[Qqz,okD]at h1
    split at h1
    ·rename_i hγ
     simp only[Ql8,dsn,hγ]at hsl⊢
     exact hsl
    ·exact h1.elim
  |_=>cases h1
 exact hd.mono (fun _ _ _=>rfl) (fun b _ hn hx=>hn (.inl hx)) (Nat.le_refl _)
theorem Qx9{γ ty n:Nat}{l:List (Nat×Nat)}(hγ:fr γ= .nst γ 1 ty (Qai l))(hn:n=l.length)(h2:2000000<=γ)(hl:∀x∈l,2000000<=x.1):Qqz fr 2 (.nso γ 0 n):=by
 simp only[Qqz,okD,hγ]
 refine⟨trivial,by simp[isY];omega,by simp[Qai,hn],fun x hx c hc=> ?_⟩
 obtain⟨y,hy,rfl⟩:=List.mem_map.1 (List.mem_of_mem_drop (List.mem_of_mem_take hx))
 obtain rfl:c= .mso y.1 0 y.2:=by simpa[PV.ncells,PV.cells]using hc
 have:=hl y hy
 simp only[okD,isY];simp;omega
theorem Q1t{γ ty n e':Nat}{l:List (Nat×Nat)}(hγ:fr γ= .nst γ 1 ty (Qai l))(hn:n=l.length)(ys:Nat->List PV)(hh:∀x∈l,∃ty' fz,hp x.1=some ⟨e',ty',ys x.1,fz⟩):
  Ql8 fr hp 2 (.nso γ 0 n)= .sl 1 (l.map fun x=> .sl e' ((ys x.1).take x.2)):=by
 simp only[Ql8,dsn,hγ,List.drop_zero]
 rw[List.take_of_length_le (by simp[Qai,hn])]
 simp only[Qai,List.map_map]
 congr 1
 refine List.map_congr_left fun x hx=> ?_
 obtain⟨ty',fz,h⟩:=hh x hx
 simp[Function.comp,PV.ncells,PV.cells,mkA,dsn,h]
theorem Q7c {P : Program} {f : FuncId} {fn : Func} {sf : SFn} {args : List PV} {Rr : PV -> Prop} (hm : P.follows .mixedOrders = true) (hf : P.funcs[f]? = some fn) (hname : (fn.name != "runtime.NumGoroutine") = true) (hc : Qe P fn = some sf.strip) (hn : args.length <= sf.n /\ sf.n <= 1000000)
  (hv:∀C:Ctx,C.P=P->C.N=sf.n->vc C (Qpg (Qdt sf.rs Rr)) [.c sf.body] (Qgg args) hp0):Qd P f args Rr:=by
 simp only[Qe,Option.bind_eq_some_iff,Option.map_eq_some_iff]at hc
 obtain⟨c,hb,sb,hcb,rs,hrs,hsf⟩:=hc
 obtain⟨n,rs',body⟩:=sf
 simp only[SFn.strip,SFn.mk.injEq]at hsf
 obtain⟨rfl,rfl,rfl⟩:=hsf
 refine⟨by simp[Qly,hf,hb];simpa using hname,fun w X vals hX hsz hrep=> ?_⟩
 let C:Ctx:=Ctx.plain P fn.ntmps w X hX hn.2
 refine calls_of_wp hf hb ?_
 have hsz':(vals++Array.replicate (fn.ntmps-vals.size) undef).size=fn.ntmps:=by simp at hn ⊢;omega
 have hsim:Sim C (Qgg args) hp0 (vals++Array.replicate (fn.ntmps-vals.size) undef) w:=by
  refine⟨fun _=>none,hsz',Ext.refl _ _,(fun _ _ h=>by cases h),by simp[hp0],by simp[hp0],fun i=> ?_⟩
  unfold Qgg
  cases hi:args[i]? with
  |none=>trivial
  | some p=>
   simp only[Option.getD_some]
   have hil:i<vals.size:=by rw[hsz];exact(List.getElem?_eq_some_iff.1 hi).1
   have hr:=hrep i p hi
   have e:(vals++Array.replicate (fn.ntmps-vals.size) undef).getD i undef=vals.getD i undef:=by
    rw[Qcd,if_pos hil]
   rw[e]
   refine Qz.ofData (hr.mono (fun _ _ _=>rfl) (fun b _ hn hx=> ?_) (Nat.le_refl _))
   rcases hx with hx|⟨_,_,h1,_⟩
   ·exact hn hx
   ·simp[hp0]at h1
 have fin:∀(fr:Fr)(hp:HP)(a:Act)(w':World),a.defers=[]->Sim C fr hp a.tmps w'->Qpg (Qdt rs Rr) fr hp->
   a.defers=[]/\∃v,(results fn a.tmps).run P w'= .ok v w'/\∃v' r,Ending.returned v= .returned v'/\Ext Qbt w w'/\Qc4 w' X r v'/\Rr r:=by
  rintro fr hp a w' hd hs0 ⟨fr1,hp1,hw,hr⟩
  obtain⟨ρ,hs⟩:=hw C _ _ hs0
  obtain⟨v,r,h1,h2,h3⟩:=Qxc (C:=C) rfl hrs hs hr
  exact⟨hd,v,h1,v,r,rfl,Ctx.plain_ext hs.ext,h2,h3⟩
 exact Qnb (C:=C) (R:=Qpg (Qdt rs Rr)) hm c body [] _ (Qgg args) hp0 _ w hcb ⟨fun fr hp a w' hd hs hv=>(by rw[Qj9]at hv;exact fin fr hp a w' hd hs hv),fun id sk' he=>(by simp[FW.Qat]at he),fin⟩ rfl hsim (hv C rfl rfl)
theorem Qev {P : Program} {f : FuncId} {fn : Func} {sf : SFn} {args : List PV} {Rr : PV -> Prop} (hm : P.follows .mixedOrders = true) (hf : P.funcs[f]? = some fn) (hname : (fn.name != "runtime.NumGoroutine") = true) (hc : Qe P fn = some sf.strip) (hn : args.length <= sf.n /\ sf.n <= 1000000)
  (hv:∀C:Ctx,C.P=P->vc C (Qpg (Qdt sf.rs Rr)) [.c sf.body] (Qgg args) hp0):Qd P f args Rr:=
 Q7c hm hf hname hc hn fun C h _=>hv C h
theorem Qm3{Post:PV->Fr->HP->Prop}(h:Post (.tup []) fr hp):Ql9 [] Post fr hp:=by
 refine Qff ?_
 simp only[Qdt,List.flatMap_nil,Qua]
 exact⟨by simp,_,Qab1 _,h⟩
theorem Qam7{ty w i d:Nat}{fz:Bool}{f:Nat->Rat}(h:i<w):ldM (some ⟨3,ty,Qac PV.rat f w,fz⟩) 3 true i 0 d fr hp K=K (upd fr d (PV.rat (f i))) hp:=by
 rw[Qkb (by rw[Qaz];exact h) (by omega) (by simp),Qeg];rfl
theorem Qry{ty β w i:Nat}{f:Nat->Rat}{v:Rat}(h:i<w):stM (some ⟨3,ty,Qac PV.rat f w,false⟩) β 3 i 0 (PV.rat v) fr hp K=K fr (Qv hp β ⟨3,ty,Qac PV.rat (fun c=>if c=i then v else f c) w,false⟩):=by
 have e:=Qgt (fr:=fr) (hp:=hp) (K:=K) (n:=3) (ty:=ty) (β:=β) (i:=i) (xs:=Qac PV.rat f w) (v:=PV.rat v) (by rw[Qaz];exact h) rfl rfl
 rw[Qaev (g:=fun c=>if c=i then v else f c) fun k _=>rfl]at e
 exact e
theorem Qy6{e ty:Nat}{xs ys:List PV}{fz:Bool}(h:xs=ys):HB.mk e ty xs fz=HB.mk e ty ys fz:=by rw[h]
theorem Q1u:(Qgq (.tup [])=True)/\(∀(k:IntKind)(n:Int),Qgq (.int k n)=True)/\(∀b:Bool,Qgq (.bool b)=True)/\(∀(e:Nat)(xs:List PV),Qgq (.sl e xs)=True)/\(∀cs:List PV,Qgq (.agg cs)=True)/\(∀cs:List PV,Qgq (.tup cs)=True):=by
 refine⟨?_,?_,?_,?_,?_,?_⟩<;>intros<;>simp[Qgq,PV.refs,PV.sref,rnP,rn1]
attribute [go_sem] Q1u Qam7
end Go.FW
