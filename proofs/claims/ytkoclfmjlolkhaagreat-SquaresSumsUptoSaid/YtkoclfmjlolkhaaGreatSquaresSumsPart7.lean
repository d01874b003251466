/- Part 7 of the proof of SquaresSums: U2, U3, CL, U4, U7, U8, U10, P9, FwUD, FwUE, FwUF, FwUI, FwUJ, FwUH, FwUK, FwXA. Own lemmas; no conditions. -/
import Derived.Test.YtkoclfmjlolkhaaGreatSquaresSumsPart6
set_option linter.unusedSimpArgs false
set_option linter.unusedVariables false
set_option linter.unnecessarySimpa false
set_option maxRecDepth 100000
namespace Go.Proofs.YtkoclfmjlolkhaaGreat
open Go Go.FW
theorem Q94{k l:Nat}{a b:List Int}(ha:MB k a)(hb:MB l b)(h1:a.getLast? ≠some 0)(h2:b.getLast? ≠some 0):Qgy (· + ·) a b=Qce a b:=by
 rw[Qce,Qacj]
 rw[List.getLast?_eq_getElem?,Qc2]
 intro h
 obtain⟨hl,hv⟩:=List.getElem?_eq_some_iff.1 h
 rw[<-Qel hl,Q3z (by simp)]at hv
 rw[Qc2]at hl
 have p1:=(ha.eN (max a.length b.length-1)).1
 have p2:=(hb.eN (max a.length b.length-1)).1
 by_cases hc:b.length<=a.length
 ·apply h1
  have e:max a.length b.length-1=a.length-1:=by omega
  rw[e]at hv p1 p2
  rw[List.getLast?_eq_getElem?,List.getElem?_eq_getElem (by omega),<-Qel (by omega)]
  congr 1;omega
 ·apply h2
  have e:max a.length b.length-1=b.length-1:=by omega
  rw[e]at hv p1 p2
  rw[List.getLast?_eq_getElem?,List.getElem?_eq_getElem (by omega),<-Qel (by omega)]
  congr 1;omega
theorem Qyp{p:List Tm}{t:Tm}{K E:Nat}(hp:PB K E p)(ht:TB K E t)(hnz:NZ p)(ht0:t.1≠0)(hK:K<=2^33)(hE:E<=2^38)(hlp:p.length<=2^36):
  Qd Tryz.prog 134 [PV.poly p,PV.term t] (· =PV.poly (Qap p t)):=by
 refine Qf Qp Tryz.func134 rfl Qali (by simp[c134]) fun C hP=> ?_;simp only[c134,Zo,Zg,Zm,Zc,Zf,Zl,Zh,Zs,Zi,Zb,Zk,Zn,Zu,Zq,Zr,Zz]
 simp+decide (disch:=try exact D0) only[go_sem]
 refine Qcl 5 900 4 95 (by omega) T0 ?_
 refine Qw (by repeat (first|exact Qn|exact Qi|exact Qj|exact Qk|exact Ql|apply Qh|apply Qm|apply Qs|apply Qx|apply Qy|apply Qg|apply Qr)) [(5,32)] [31,32,900] (fun n J hp=>∃i,n=p.length-i/\i<=p.length/\J 5= .ms 900 (Qap (p.take i) t).length/\J 6= .int .i64 (i:Nat)/\hp 3=some ⟨4,95,[PV.term t],false⟩/\hp 900=some ⟨4,95,(Qap (p.take i) t).map PV.term,false⟩) p.length ?_ ?_
 ·refine⟨0,rfl,by omega,?_⟩
  simp+decide (disch:=try exact D0) only[go_sem]
  simp[Qap]
 rintro _ J h ⟨i,rfl,hi,h5,h6,hh3,hh⟩
 simp+decide (disch:=try exact D2 h5 h6) only[go_sem,h5,h6]
 refine Qb (fun hg=> ?_) (fun hg=> ?_)
 ·have hi':i<p.length:=by omega
  have htp:=hp.get hi'
  have htk:=Qni (t:=t) hi'
  have hlen:=Qd8 (p.take i) t
  rw[List.length_take]at hlen
  have c1:=htp.c
  have c2:=ht.c
  have hn0:=hnz _ (List.getElem_mem hi')
  generalize hx:p[i]=x at *
  have hzz:=Q94 htp.m ht.m htp.l ht.l
  rw[if_neg (fun h=>by rcases Rat.mul_eq_zero.1 h with h|h<;>contradiction)]at htk
  simp+decide (disch:=try exact D4 h5 h6 hh3 hx) only[go_sem,h5,h6,hh3,hx]
  refine Qa hP (Qpn (a:=x.1) (b:=t.1) (k:=2^33) (by omega) (by omega) (by omega)) rfl rfl rfl ?_
  simp+decide (disch:=try exact D4 h5 h6 hh3 hx) only[go_sem,h5,h6,hh3,hx]
  refine Qa hP (Q22 htp.m ht.m (by omega)) rfl rfl rfl ?_
  rw[hzz]
  simp+decide (disch:=try exact D4 h5 h6 hh3 hx) only[go_sem,h5,h6,hh3,hx]
  rw[Qae (f:=PV.term) (y:=(x.1*t.1,Qce x.2 t.2)) (xs:=Qap (p.take i) t) (ty':=95) (fz:=false) (T1 hh) Tr0 (by omega) rfl (by omega) (by omega)]
  rw[<-htk]
  simp+decide (disch:=try exact D4 h5 h6 hh3 hx) only[go_sem,h5,h6,hh3,hx]
  refine Qo (p.length-(i+1)) (by omega) ⟨i+1,rfl,by omega,?_⟩
  rw[htk]
  simp+decide (disch:=first|omega|rfl|(simp+decide only[go_sem,h5,h6,hh3,List.length_append]<;>rfl)|fail) only[go_sem,h5,h6,hh3,List.length_append]
 ·obtain rfl:i=p.length:=by omega
  rw[List.take_length]at h5 hh
  simp+decide (disch:=try exact E2 h5 hh) only[go_sem,h5,hh,Qab,List.contains_cons,List.contains_nil,List.flatMap_cons,List.flatMap_nil,List.append_nil]
  exact Qc (by simp[List.take_of_length_le]) rfl
theorem Q6m{p q:List Tm}{i:Nat}(h:i<q.length):Qhq p (q.take (i+1))=Qak (Qhq p (q.take i)) (Qap p q[i]):=by
 rw[List.take_succ_eq_append_getElem h,Qhq,List.foldl_append,Qhq];rfl
theorem Qsp{K E:Nat}{p:List Tm}(hp:PB K E p):∀(q out:List Tm)(L:Nat),PB K E q->PB L (E+E) out->PB (q.length*(K+K)+L) (E+E) (q.foldl (fun out t=>Qak out (Qap p t)) out)/\(q.foldl (fun out t=>Qak out (Qap p t)) out).length<=q.length*p.length+out.length
 | [],out,L,_,ho=>⟨by simpa using ho,by simp⟩
 |t::q,out,L,hq,ho=>by
  obtain⟨h1,h2⟩:=Qsp hp q (Qak out (Qap p t)) (L+(K+K)) (PB.cons.1 hq).2 (Qwj _ _ ho (Qh9 hp (PB.cons.1 hq).1))
  have h3:=Qm8 out (Qap p t)
  have h4:=Qd8 p t
  refine⟨h1.mono (by rw[List.length_cons,Nat.add_mul];omega) (Nat.le_refl _),Nat.le_trans h2 ?_⟩
  rw[List.length_cons,Nat.add_mul];omega
theorem Qagj{K E:Nat}{p q:List Tm}(hp:PB K E p)(hq:PB K E q):PB (q.length*(K+K)) (E+E) (Qhq p q)/\(Qhq p q).length<=q.length*p.length:=by
 have:=Qsp hp q [] 0 hq (PB.nil _ _)
 simpa[Qhq]using this
theorem Qnn{p q:List Tm}{K E:Nat}(hp:PB K E p)(hq:PB K E q)(hnp:NZ p)(hnq:NZ q)(hE:E<=2^37)(hlp:p.length<=2^30)(hlq:q.length<=2^30)(hlm:q.length*p.length<=2^36)(hK:q.length*(K+K)+(K+K)<=2^32):
  Qd Tryz.prog 69 [PV.poly p,PV.poly q] (· =PV.poly (Qhq p q)):=by
 refine Qf Qp Tryz.func69 rfl Qapw (by simp[c69]) fun C hP=> ?_;simp only[c69,Zo,Zg,Zm,Zc,Zf,Zl,Zh,Zs,Zi,Zb,Zk,Zn,Zu,Zq,Zr,Zz]
 simp+decide (disch:=try exact D0) only[go_sem]
 refine Qjj 5 4 T0 ?_
 refine Qw (by repeat (first|exact Qn|exact Qi|exact Qj|exact Qk|exact Ql|apply Qh|apply Qm|apply Qs|apply Qx|apply Qy|apply Qg|apply Qr)) [(5,20)] [] (fun n J hp=>∃i,n=q.length-i/\i<=q.length/\J 5=PV.poly (Qhq p (q.take i))/\J 6= .int .i64 (i:Nat)) q.length ?_ ?_
 ·refine⟨0,rfl,by omega,?_⟩
  simp+decide (disch:=try exact D0) only[go_sem]
  simp[Qhq]
 rintro _ J h ⟨i,rfl,hi,h5,h6⟩
 simp+decide (disch:=try exact D2 h5 h6) only[go_sem,h5,h6]
 refine Qb (fun hg=> ?_) (fun hg=> ?_)
 ·have hi':i<q.length:=by omega
  have htq:=hq.get hi'
  have htk:=Q6m (p:=p) hi'
  have hn0:=hnq _ (List.getElem_mem hi')
  obtain⟨hb1,hb2⟩:=Qagj hp (hq.take i)
  have hbt:=Qh9 hp htq
  have hlt:=Qd8 p q[i]
  generalize hx:q[i]=x at *
  have e1:(q.take i).length=i:=by rw[List.length_take];omega
  rw[e1]at hb1 hb2
  have e2:i*(K+K)<=q.length*(K+K):=Nat.mul_le_mul_right _ hi
  have e3:i*p.length<=q.length*p.length:=Nat.mul_le_mul_right _ hi
  simp+decide (disch:=try exact D3 h5 h6 hx) only[go_sem,h5,h6,hx]
  refine Qa hP (Qyp (t:=x) hp htq hnp hn0 (by omega) (by omega) (by omega)) rfl rfl rfl ?_
  simp+decide (disch:=try exact D3 h5 h6 hx) only[go_sem,h5,h6,hx]
  refine Qa hP (Qnm (K:=q.length*(K+K)+(K+K)) (E:=E+E) (hb1.mono (by omega) (by omega)) (hbt.mono (by omega) (by omega)) hK (by omega) (by omega) (by omega)) rfl rfl rfl ?_
  simp+decide (disch:=try exact D3 h5 h6 hx) only[go_sem,h5,h6,hx]
  refine Qo (q.length-(i+1)) (by omega) ⟨i+1,rfl,by omega,?_⟩
  rw[htk]
  simp+decide (disch:=try exact D0) only[go_sem]
 ·obtain rfl:i=q.length:=by omega
  rw[List.take_length]at h5
  simp+decide (disch:=try exact D1 h5) only[go_sem,h5]
  exact Qc rfl rfl
theorem Qp4{p:List Tm}{a:Rat}{K E:Nat}(hp:PB K E p)(hnz:NZ p)(ha:rs a+1<=K)(hK:K<=2^33)(hE:E<=2^38)(hlp:p.length<=2^36):
  Qd Tryz.prog 111 [PV.poly p,PV.rat a] (· =PV.poly (Qee p a)):=by
 refine Qf Qp Tryz.func111 rfl Qalg (by simp[c111]) fun C hP=> ?_;simp only[c111,Zo,Zg,Zm,Zc,Zf,Zl,Zh,Zs,Zi,Zb,Zk,Zn,Zu,Zq,Zr,Zz]
 simp+decide (disch:=try exact D0) only[go_sem]
 refine Qcl 5 900 4 95 (by omega) T0 ?_
 refine Qw (by repeat (first|exact Qn|exact Qi|exact Qj|exact Qk|exact Ql|apply Qh|apply Qm|apply Qs|apply Qx|apply Qy|apply Qg|apply Qr)) [(5,33)] [32,33,900] (fun n J hp=>∃i,n=p.length-i/\i<=p.length/\J 5= .ms 900 (Qap (p.take i) (a,[])).length/\J 6= .int .i64 (i:Nat)/\hp 3=some ⟨3,51,[PV.rat a],false⟩/\hp 900=some ⟨4,95,(Qap (p.take i) (a,[])).map PV.term,false⟩) p.length ?_ ?_
 ·refine⟨0,rfl,by omega,?_⟩
  simp+decide (disch:=try exact D0) only[go_sem]
  simp[Qap]
 rintro _ J h ⟨i,rfl,hi,h5,h6,hh3,hh⟩
 simp+decide (disch:=try exact D2 h5 h6) only[go_sem,h5,h6]
 refine Qay (fun hg=> ?_) (fun hg=> ?_)
 ·have hi':i<p.length:=by omega
  have htp:=hp.get hi'
  have htk:=Qni (t:=(a,[])) hi'
  have hlen:=Qd8 (p.take i) (a,[])
  rw[List.length_take]at hlen
  have c1:=htp.c
  have hn0:=hnz _ (List.getElem_mem hi')
  generalize hx:p[i]=x at *
  simp+decide (disch:=try exact D4 h5 h6 hh3 hx) only[go_sem,h5,h6,hh3,hx]
  refine Qa hP (Qkj (a:=a) (by omega)) rfl rfl rfl ?_
  simp+decide (disch:=try exact D4 h5 h6 hh3 hx) only[go_sem,h5,h6,hh3,hx]
  refine Qb (fun hz=> ?_) (fun hz=> ?_)
  ·rw[if_neg (fun h=>by rcases Rat.mul_eq_zero.1 h with h|h;exact hn0 h;exact hz (Qar.2 h)),Qacl htp.l]at htk
   simp+decide (disch:=try exact D4 h5 h6 hh3 hx) only[go_sem,h5,h6,hh3,hx]
   refine Qa hP (Qpn (a:=x.1) (b:=a) (k:=2^33) (by omega) (by omega) (by omega)) rfl rfl rfl ?_
   simp+decide (disch:=try exact D4 h5 h6 hh3 hx) only[go_sem,h5,h6,hh3,hx]
   rw[Qae (f:=PV.term) (y:=(x.1*a,x.2)) (xs:=Qap (p.take i) (a,[])) (ty':=95) (fz:=false) (T1 hh) Tr0 (by omega) rfl (by omega) (by omega)]
   rw[<-htk]
   simp+decide (disch:=try exact D4 h5 h6 hh3 hx) only[go_sem,h5,h6,hh3,hx]
   refine Qo (p.length-(i+1)) (by omega) ⟨i+1,rfl,by omega,?_⟩
   rw[htk]
   simp+decide (disch:=first|omega|rfl|(simp+decide only[go_sem,h5,h6,hh3,List.length_append]<;>rfl)|fail) only[go_sem,h5,h6,hh3,List.length_append]
  ·have ha0:=Qar.1 (Decidable.not_not.1 hz)
   have e0:∀l:List Tm,Qap l (a,[])=[]:=fun l=>by rw[ha0];simp[Qap]
   simp+decide (disch:=try exact E3 h5 hh hh3) only[go_sem,h5,hh,hh3,Qab,List.contains_cons,List.contains_nil,List.flatMap_cons,List.flatMap_nil,List.append_nil]
   refine Qc ?_ rfl
   rw[e0,Qee,if_pos ha0];rfl
 ·obtain rfl:i=p.length:=by omega
  rw[List.take_length]at h5 hh
  simp+decide (disch:=try exact E3 h5 hh hh3) only[go_sem,h5,hh,hh3,Qab,List.contains_cons,List.contains_nil,List.flatMap_cons,List.flatMap_nil,List.append_nil]
  refine Qc ?_ rfl
  rw[List.take_of_length_le (by simp),Qee]
  split
  ·rename_i ha0;rw[ha0];simp[Qap]
  ·rfl
theorem Q25{p:List Tm}{K E:Nat}(hp:PB K E p)(hnz:NZ p)(hK2:2<=K)(hK:K<=2^33)(hE:E<=2^38)(hlp:p.length<=2^36):Qd Tryz.prog 71 [PV.poly p] (· =PV.poly (pneg p)):=by
 have h1:=Q5v
 refine Qf Qp Tryz.func71 rfl Qapx (by simp[c71]) fun C hP=> ?_;simp only[c71,Zo,Zg,Zm,Zc,Zf,Zl,Zh,Zs,Zi,Zb,Zk,Zn,Zu,Zq,Zr,Zz]
 simp+decide (disch:=try exact D0) only[go_sem]
 refine Qa hP (Qiz (x:= -1) (by omega) (by omega)) rfl rfl rfl ?_
 simp+decide (disch:=try exact D0) only[go_sem]
 refine Qa hP (Qp4 (a:=((-1:Int):Rat)) hp hnz (by have:((-1:Int):Rat)= -1:=rfl;rw[this];omega) hK hE hlp) rfl rfl rfl ?_
 simp+decide (disch:=try exact D0) only[go_sem]
 exact Qc rfl rfl
theorem Qsq{p q:List Tm}{K E:Nat}(hp:PB K E p)(hq:PB K E q)(hnz:NZ q)(hK2:2<=K)(hK:K<=2^31)(hE:E<=2^38)(hlp:p.length<=2^36)(hlq:q.length<=2^36):Qd Tryz.prog 68 [PV.poly p,PV.poly q] (· =PV.poly (psub p q)):=by
 have hl:=Qpz q (-1)
 refine Qf Qp Tryz.func68 rfl Qapz (by simp[c68]) fun C hP=> ?_;simp only[c68,Zo,Zg,Zm,Zc,Zf,Zl,Zh,Zs,Zi,Zb,Zk,Zn,Zu,Zq,Zr,Zz]
 simp+decide (disch:=try exact D0) only[go_sem]
 refine Qa hP (Q25 hq hnz hK2 (by omega) hE hlq) rfl rfl rfl ?_
 simp+decide (disch:=try exact D0) only[go_sem]
 refine Qa hP (Qnm (hp.mono (K':=K+2) (by omega) (Nat.le_refl _)) (Qain hq) (by omega) hE hlp (by show(Qee q (-1)).length<=_;omega)) rfl rfl rfl ?_
 simp+decide (disch:=try exact D0) only[go_sem]
 exact Qc rfl rfl
theorem Qq3{l:List RTm}{k:Nat}(hb:∀t∈l,RB k t)(hk1:1<=k)(hk:k<2^36)(hll:l.length<2^40):Qd Tryz.prog 19 [PV.rpoly l] (· = .bool (Qcq l)):=by
 have hiff:=Qs9 l
 have bad:∀ {b:Bool},(b=true->False)->b=false:=fun {b} h=>by cases b<;>simp_all
 refine Qf Qp Tryz.func19 rfl Qapy (by simp[c19]) fun C hP=> ?_;simp only[c19,Zo,Zg,Zm,Zc,Zf,Zl,Zh,Zs,Zi,Zb,Zk,Zn,Zu,Zq,Zr,Zz]
 simp+decide (disch:=try exact D0) only[go_sem]
 refine Qw (by repeat (first|exact Qn|exact Qi|exact Qj|exact Qk|exact Ql|apply Qh|apply Qm|apply Qs|apply Qx|apply Qy|apply Qg|apply Qr)) [(2,51)] [] (fun n J hp=>∃i,n=l.length-i/\i<=l.length/\(∀j (h:j<l.length),j<i->rOk l[j]=true)/\(∀j (h:j+1<l.length),j+1<i->0<Qau l[j].m l[j+1].m)/\J 3= .int .i64 (i:Nat)) l.length ?_ ?_
 ·refine⟨0,rfl,by omega,by omega,by omega,?_⟩
  simp+decide (disch:=try exact D0) only[go_sem]
  rfl
 rintro _ J h ⟨i,rfl,hi,h1,h2,h7⟩
 simp+decide (disch:=try exact D1 h7) only[go_sem,h7]
 refine Qb (fun hg=> ?_) (fun hg=> ?_)
 ·have hi':i<l.length:=by omega
  have hbt:=hb _ (List.getElem_mem hi')
  have hr:=(RB.raw hbt hk1).rs
  have hml:=hbt.l
  have hbadt:Qcq l=true->rOk l[i]=true:=fun h=>(hiff.1 h).1 i hi'
  have hbadc:∀(j:Nat)(hj:j+1=i),Qcq l=true->0<Qau (l[j]'(by omega)).m l[i].m:=fun j hj h=>by subst hj;exact(hiff.1 h).2 j hi'
  have hadd1:rOk l[i]=true->∀j (h:j<l.length),j<i+1->rOk l[j]=true:=fun h j hj hji=>by
   by_cases e:j=i
   ·subst e;exact h
   ·exact h1 j hj (by omega)
  have hprev:∀(j:Nat)(hj:j+1=i),MB 1048576 (l[j]'(by omega)).m:=fun j hj=>by
   have:=h1 j (by omega) (by omega)
   simp only[rOk,Bool.and_eq_true]at this
   exact MB.ofOk this.2.2
  have hadd2:(∀(j:Nat)(hj:j+1=i),0<Qau (l[j]'(by omega)).m l[i].m)->∀j (h:j+1<l.length),j+1<i+1->0<Qau l[j].m l[j+1].m:=fun h j hj hji=>by
   by_cases e:j+1=i
   ·subst e;exact h j rfl
   ·exact h2 j hj (by omega)
  generalize hx:l[i]=x at *
  have hr':rs (rv x.n x.a x.d)<2^36:=by omega
  simp+decide (disch:=try exact D2 h7 hx) only[go_sem,h7,hx]
  refine Qa hP (Qks (RB.raw hbt hk1) hk) rfl rfl rfl ?_
  simp+decide (disch:=try exact D1 h7) only[go_sem,h7]
  cases hok:Qez x.n x.a x.d
  ·have hf:Qcq l=false:=bad fun h=>by have:=hbadt h;simp[rOk,hok]at this
   simp+decide (disch:=first|omega|rfl|(simp+decide only[go_sem,h7,Bool.not_false]<;>rfl)|fail) only[go_sem,h7,Bool.not_false]
   exact Qc (by rw[hf]) rfl
  simp+decide (disch:=first|omega|rfl|(simp+decide only[go_sem,h7,Bool.not_true,hx]<;>rfl)|fail) only[go_sem,h7,Bool.not_true,hx]
  refine Qa hP (Qg1 (RB.raw hbt hk1) hk) rfl rfl rfl ?_
  simp+decide (disch:=try exact D1 h7) only[go_sem,h7]
  refine Qaj (fun hz=> ?_) (fun hz=> ?_)
  ·have hf:Qcq l=false:=bad fun h=>by have:=hbadt h;simp[rOk,RTm.q,Qar.1 hz]at this
   simp+decide (disch:=try exact D1 h7) only[go_sem,h7]
   exact Qc (by rw[hf]) rfl
  simp+decide (disch:=try exact D2 h7 hx) only[go_sem,h7,hx]
  refine Qa hP (Qyo (by omega)) rfl rfl rfl ?_
  simp+decide (disch:=try exact D1 h7) only[go_sem,h7]
  cases hmo:Qbd x.m
  ·have hf:Qcq l=false:=bad fun h=>by have:=hbadt h;simp[rOk,hmo]at this
   simp+decide (disch:=first|omega|rfl|(simp+decide only[go_sem,h7,Bool.not_false]<;>rfl)|fail) only[go_sem,h7,Bool.not_false]
   exact Qc (by rw[hf]) rfl
  have hrok:rOk x=true:=by
   simp only[rOk,hok,hmo,Bool.true_and,Bool.and_true,decide_eq_true_eq]
   exact fun h=>hz (Qar.2 h)
  simp+decide (disch:=first|omega|rfl|(simp+decide only[go_sem,h7,Bool.not_true]<;>rfl)|fail) only[go_sem,h7,Bool.not_true]
  refine Qay (fun hi0=> ?_) (fun hi0=> ?_)
  ·obtain⟨j,rfl⟩:∃j,i=j+1:=⟨i-1,by omega⟩
   have e:((j+1:Nat):Int)-1=j:=by omega
   have hjl:j<l.length:=by omega
   have hpj:=hprev j rfl
   have hbadj:=hbadc j rfl
   have hadd2':0<Qau (l[j]'(by omega)).m x.m->∀j2 (h:j2+1<l.length),j2+1<j+1+1->0<Qau l[j2].m l[j2+1].m:=fun h=>hadd2 (fun j' hj'=>by
    obtain rfl:j'=j:=by omega
    exact h)
   generalize hy:l[j]'(by omega)=y at *
   simp+decide (disch:=try exact D4 h7 e hx hy) only[go_sem,h7,e,hx,hy]
   refine Qa hP (Qq2 hpj (MB.ofOk hmo) (by omega)) rfl rfl rfl ?_
   simp+decide (disch:=try exact D2 h7 e) only[go_sem,h7,e]
   refine Qb (fun hc=> ?_) (fun hc=> ?_)
   ·have hf:Qcq l=false:=bad fun h=>by have:=hbadj h;omega
    simp+decide (disch:=try exact D1 h7) only[go_sem,h7]
    exact Qc (by rw[hf]) rfl
   ·simp+decide (disch:=try exact D1 h7) only[go_sem,h7]
    refine Qo (l.length-(j+1+1)) (by omega) ⟨j+1+1,rfl,by omega,hadd1 hrok,hadd2' (by omega),?_⟩
    simp+decide (disch:=try exact D0) only[go_sem]
  ·obtain rfl:i=0:=by omega
   simp+decide (disch:=try exact D1 h7) only[go_sem,h7]
   refine Qo (l.length-1) (by omega) ⟨1,rfl,by omega,hadd1 hrok,hadd2 (fun j hj=>by omega),?_⟩
   simp+decide (disch:=try exact D0) only[go_sem]
 ·obtain rfl:i=l.length:=by omega
  have hf:Qcq l=true:=hiff.2 ⟨fun j hj=>h1 j hj hj,fun j hj=>h2 j hj hj⟩
  simp+decide (disch:=try exact D0) only[go_sem]
  exact Qc (by rw[hf]) rfl
theorem Qu9{a b:Rat}{k:Nat}(ha:rs a<=k)(hb:rs b<=k)(hk:k<2^34):Qd Tryz.prog 49 [PV.rat a,PV.rat b] (· = .bool (decide (a=b))):=by
 have:=Qyn (Qbs ha) (Qbs hb) hk
 rwa[Qcb,Qcb]at this
theorem Qsr{p:List Tm}{n:Bool}{a d:List Nat}{m:List Int}{K E k:Nat}(hp:PB K E p)(hs:Qcr p)(hnz:NZ p)(hr:Raw k n a d)(hk:k<=2^32)(hm:MB E m)(hl:m.getLast? ≠some 0)(hK:K<=2^32)(hE:E<=2^38)(hlp:p.length<=2^36):
  Qd Tryz.prog 133 [PV.poly p,PV.rr n a d,PV.mono m] (· =PV.poly (Qiv p (rv n a d) m)):=by
 have hrr:=hr.rs
 refine Qf Qp Tryz.func133 rfl Qalh (by simp[c133]) fun C hP=> ?_;simp only[c133,Zo,Zg,Zm,Zc,Zf,Zl,Zh,Zs,Zi,Zb,Zk,Zn,Zu,Zq,Zr,Zz]
 simp+decide (disch:=try exact D0) only[go_sem]
 refine Qw (by repeat (first|exact Qn|exact Qi|exact Qj|exact Qk|exact Ql|apply Qh|apply Qm|apply Qs|apply Qx|apply Qy|apply Qg|apply Qr)) [(7,7),(12,26)] [] (fun k J hp=>k<=p.length/\(∀t∈p.drop k,Qau t.2 m<0)/\J 7= .int .i64 (k:Nat)/\hp 4=some ⟨3,51,[PV.rr n a d],false⟩) p.length ?_ ?_
 ·refine⟨by omega,by simp,?_⟩
  simp+decide (disch:=try exact D0) only[go_sem]
 rintro j J h ⟨hj,hd,h7,hh4⟩
 simp+decide (disch:=try exact D1 h7) only[go_sem,h7]
 refine Qay (fun hg=> ?_) (fun hg=> ?_)
 ·obtain⟨i,rfl⟩:∃i,j=i+1:=⟨j-1,by omega⟩
  have e:((i+1:Nat):Int)-1=i:=by omega
  have hi:i<p.length:=by omega
  have htp:=hp.get hi
  have hdr:p.drop i=p[i]::p.drop (i+1):=List.drop_eq_getElem_cons hi
  have htk:p.take (i+1)=p.take i++[p[i]]:=List.take_succ_eq_append_getElem hi
  have hts:=Q0x hs hi
  have hall:p=p.take i++p[i]::p.drop (i+1):=by rw[<-hdr,List.take_append_drop]
  have c1:=htp.c
  generalize hx:p[i]=x at *
  simp+decide (disch:=try exact D3 h7 e hx) only[go_sem,h7,e,hx]
  refine Qa hP (Qq2 htp.m hm (by omega)) rfl rfl rfl ?_
  simp+decide (disch:=try exact D3 h7 e hx) only[go_sem,h7,e,hx]
  refine Qb (fun hc=> ?_) (fun hc=> ?_)
  ·simp+decide (disch:=try exact D3 h7 e hx) only[go_sem,h7,e,hx]
   refine Qo i (by omega) ⟨by omega,?_,?_⟩
   ·rw[hdr]
    intro t ht
    rcases List.mem_cons.1 ht with rfl|ht
    ·exact hc
    ·exact hd t ht
   ·simp+decide (disch:=try exact D1 hh4) only[go_sem,hh4]
  ·simp+decide (disch:=try exact D3 h7 e hx) only[go_sem,h7,e,hx]
   refine Qay (fun _=> ?_) (fun h=>by omega)
   simp+decide (disch:=try exact D3 h7 e hx) only[go_sem,h7,e,hx]
   refine Qa hP (Qq2 htp.m hm (by omega)) rfl rfl rfl ?_
   simp+decide (disch:=try exact D3 h7 e hx) only[go_sem,h7,e,hx]
   refine Qb (fun hc2=> ?_) (fun hc2=> ?_)
   ·have hxm:x.2=m:=(Qwh htp.l hl).1 hc2
    have hx0:=hnz _ (List.getElem_mem hi)
    rw[hx]at hx0
    have hfin:Qiv p (rv n a d) m=p.take i++(if x.1+rv n a d=0 then []else [(x.1+rv n a d,m)])++p.drop (i+1):=by
     have hall':p=p.take i++(x.1,m)::p.drop (i+1):=by rw[<-hxm];exact hall
     rw[Qiv]
     split
     ·rename_i h0
      have e0:x.1+0=x.1:=Rat.add_zero _
      rw[h0,Qdk,e0,if_neg hx0]
      simpa using hall'
     ·conv=>lhs;rw[hall']
      exact Q39 (fun t ht=>by rw[<-hxm];exact hts t ht)
    have htl:(p.take i).length<=p.length:=List.length_take_le' _ _
    have hdl:(p.drop (i+1)).length<=p.length:=by rw[List.length_drop];omega
    have hra:=Qkd x.1 (rv n a d)
    have hxr:=Qbs (q:=x.1) (k:=2^32) (by omega)
    have hadd:=Qso (k:=2^32) hxr (show Raw (2^32) n a d from⟨hr.la,hr.ld,by have:=hr.sa;omega,by have:=hr.sd;omega,by omega⟩) (by omega)
    rw[Qcb]at hadd
    simp+decide (disch:=try exact D4 h7 e hx hh4) only[go_sem,h7,e,hx,hh4]
    refine Qda ?_ ?_
    all_goals
     simp+decide (disch:=try exact D4 h7 e hx hh4) only[go_sem,h7,e,hx,hh4]
     refine Qa hP hadd rfl rfl rfl ?_
     simp+decide (disch:=try exact D4 h7 e hx hh4) only[go_sem,h7,e,hx,hh4]
     refine Qa hP (Qkj (a:=x.1+rv n a d) (by omega)) rfl rfl rfl ?_
     simp+decide (disch:=try exact D4 h7 e hx hh4) only[go_sem,h7,e,hx,hh4]
     refine Qb (fun hz=> ?_) (fun hz=> ?_)
     ·rw[if_neg (fun h=>hz (Qar.2 h))]at hfin
      simp+decide (disch:=try exact D4 h7 e hx hh4) only[go_sem,h7,e,hx,hh4]
      rw[Qae (f:=PV.term) (y:=(x.1+rv n a d,m)) (xs:=p.take i) (ty':=95) (fz:=false) T0 Tr0 (by omega) rfl (by omega) (by omega)]
      simp+decide (disch:=try exact D4 h7 e hx hh4) only[go_sem,h7,e,hx,hh4]
      rw[Qdw (f:=PV.term) (xs:=p.take i++[(x.1+rv n a d,m)]) (ys:=p.drop (i+1)) T0 (by simp<;>omega) (by omega) (by omega) (by omega)]
      simp+decide (disch:=try exact E0) only[go_sem,Qab,List.contains_cons,List.contains_nil,List.flatMap_cons,List.flatMap_nil,List.append_nil]
      refine Qc ?_ rfl
      rw[List.take_of_length_le (by simp<;>omega),hfin]
     ·rw[if_pos (Qar.1 (Decidable.not_not.1 hz)),List.append_nil]at hfin
      simp+decide (disch:=try exact D4 h7 e hx hh4) only[go_sem,h7,e,hx,hh4]
      rw[Qdw (f:=PV.term) (xs:=p.take i) (ys:=p.drop (i+1)) T0 (by simp<;>omega) (by omega) (by omega) (by omega)]
      simp+decide (disch:=try exact E0) only[go_sem,Qab,List.contains_cons,List.contains_nil,List.flatMap_cons,List.flatMap_nil,List.append_nil]
      refine Qc ?_ rfl
      rw[List.take_of_length_le (by simp<;>omega),hfin]
   ·have hgt:Qak p [(rv n a d,m)]=p.take (i+1)++(rv n a d,m)::p.drop (i+1):=by
     have:=Qwt (m:=m) (c:=rv n a d) (u:=p.take (i+1)) (v:=p.drop (i+1)) (fun t ht=>by
      rw[htk]at ht
      rcases List.mem_append.1 ht with ht|ht
      ·exact Qe6 (hts t ht) (by omega)
      ·simp only[List.mem_singleton]at ht;subst ht;omega) hd
     rwa[List.take_append_drop]at this
    have htl:(p.take (i+1)).length<=p.length:=List.length_take_le' _ _
    have hdl:(p.drop (i+1)).length<=p.length:=by rw[List.length_drop];omega
    simp+decide (disch:=try exact D2 h7 hh4) only[go_sem,h7,hh4]
    refine Qa hP (Qg1 hr (by omega)) rfl rfl rfl ?_
    simp+decide (disch:=try exact D2 h7 hh4) only[go_sem,h7,hh4]
    refine Qb (fun hz=> ?_) (fun hz=> ?_)
    ·have hz':¬rv n a d=0:=fun h=>hz (Qar.2 h)
     simp+decide (disch:=try exact D2 h7 hh4) only[go_sem,h7,hh4]
     refine Qa hP (Qdn hr (by omega)) rfl rfl rfl ?_
     simp+decide (disch:=try exact D2 h7 hh4) only[go_sem,h7,hh4]
     rw[Qae (f:=PV.term) (y:=(rv n a d,m)) (xs:=p.take (i+1)) (ty':=95) (fz:=false) T0 Tr0 (by omega) rfl (by omega) (by omega)]
     simp+decide (disch:=try exact D2 h7 hh4) only[go_sem,h7,hh4]
     rw[Qdw (f:=PV.term) (xs:=p.take (i+1)++[(rv n a d,m)]) (ys:=p.drop (i+1)) T0 (by simp<;>omega) (by omega) (by omega) (by omega)]
     simp+decide (disch:=try exact E0) only[go_sem,Qab,List.contains_cons,List.contains_nil,List.flatMap_cons,List.flatMap_nil,List.append_nil]
     refine Qc ?_ rfl
     rw[List.take_of_length_le (by simp<;>omega),Qiv,if_neg hz',hgt]
     simp
    ·have hz':rv n a d=0:=Qar.1 (Decidable.not_not.1 hz)
     simp+decide (disch:=try exact D2 h7 hh4) only[go_sem,h7,hh4]
     rw[Qdw (f:=PV.term) (xs:=p.take (i+1)) (ys:=p.drop (i+1)) T0 (by simp<;>omega) (by omega) (by omega) (by omega)]
     simp+decide (disch:=try exact E0) only[go_sem,Qab,List.contains_cons,List.contains_nil,List.flatMap_cons,List.flatMap_nil,List.append_nil]
     refine Qc ?_ rfl
     rw[List.take_of_length_le (by simp<;>omega),Qiv,if_pos hz',Qdk,List.take_append_drop]
 ·obtain rfl:j=0:=by omega
  have hgt:Qak p [(rv n a d,m)]=[]++(rv n a d,m)::p:=Qwt (m:=m) (c:=rv n a d) (u:=[]) (v:=p) (by simp) (by simpa using hd)
  simp+decide (disch:=try exact D1 h7) only[go_sem,h7]
  rw[Q2q (by omega)]
  simp+decide (disch:=try exact D2 h7 hh4) only[go_sem,h7,hh4]
  refine Qa hP (Qg1 hr (by omega)) rfl rfl rfl ?_
  simp+decide (disch:=try exact D2 h7 hh4) only[go_sem,h7,hh4]
  refine Qb (fun hz=> ?_) (fun hz=> ?_)
  ·have hz':¬rv n a d=0:=fun h=>hz (Qar.2 h)
   simp+decide (disch:=try exact D2 h7 hh4) only[go_sem,h7,hh4]
   refine Qa hP (Qdn hr (by omega)) rfl rfl rfl ?_
   simp+decide (disch:=try exact D2 h7 hh4) only[go_sem,h7,hh4]
   rw[Qae (f:=PV.term) (y:=(rv n a d,m)) (xs:=([]:List Tm)) (ty':=95) (fz:=false) T0 Tr0 (by omega) (n:=0) rfl (by omega) (by omega)]
   simp+decide (disch:=try exact D2 h7 hh4) only[go_sem,h7,hh4]
   rw[Qdw (f:=PV.term) (xs:=([]:List Tm)++[(rv n a d,m)]) (ys:=p) T0 (by simp<;>omega) (by omega) (by omega) (by omega)]
   simp+decide (disch:=try exact E0) only[go_sem,Qab,List.contains_cons,List.contains_nil,List.flatMap_cons,List.flatMap_nil,List.append_nil]
   refine Qc ?_ rfl
   rw[List.take_of_length_le (by simp<;>omega),Qiv,if_neg hz',hgt]
   simp
  ·have hz':rv n a d=0:=Qar.1 (Decidable.not_not.1 hz)
   simp+decide (disch:=try exact D2 h7 hh4) only[go_sem,h7,hh4]
   rw[Qdw (f:=PV.term) (xs:=([]:List Tm)) (ys:=p) T0 (by simp<;>omega) (by omega) (by omega) (by omega)]
   simp+decide (disch:=try exact E0) only[go_sem,Qab,List.contains_cons,List.contains_nil,List.flatMap_cons,List.flatMap_nil,List.append_nil]
   refine Qc ?_ rfl
   rw[List.take_of_length_le (by simp<;>omega),Qiv,if_pos hz',Qdk]
theorem Qyq{n:Bool}{a d:List Nat}{k:Nat}(hr:Raw k n a d)(hk:k<=2^32):Qd Tryz.prog 70 [PV.rr n a d] (· =PV.poly (Qhn (rv n a d))):=by
 have hadd:=(Qsr (p:=[]) (m:=[]) (K:=1) (E:=1) (PB.nil _ _) trivial (by simp[NZ]) hr hk ⟨by simp,by simp,by simp⟩ (by simp) (by omega) (by omega) (by simp)).le (args':=[.nilS,PV.rr n a d,.nilS]) ⟨trivial,Qaa _,trivial,trivial⟩
 have e:Qiv [] (rv n a d) []=Qhn (rv n a d):=by rw[Qiv,Qh1];rfl
 rw[e]at hadd
 refine Qf Qp Tryz.func70 rfl Qapu (by simp[c70]) fun C hP=> ?_;simp only[c70,Zo,Zg,Zm,Zc,Zf,Zl,Zh,Zs,Zi,Zb,Zk,Zn,Zu,Zq,Zr,Zz]
 simp+decide (disch:=try exact D0) only[go_sem]
 refine Qa hP hadd rfl rfl rfl ?_
 simp+decide (disch:=try exact D0) only[go_sem]
 exact Qc rfl rfl
theorem Qyr{p:List Tm}{E:Nat}(hp:∀t∈p,MB E t.2)(hlp:p.length<=2^36):Qd Tryz.prog 112 [PV.poly p] (· = .bool (Qgz p)):=by
 have bad:(∃t∈p,∃x∈t.2,1048576<x)->Qgz p=true:=fun⟨t,ht,x,hx,h⟩=>by
  unfold Qgz
  have:(p.any fun t=>t.2.any fun x=>decide (1048576<x))=true:=by
   rw[List.any_eq_true];exact⟨t,ht,by rw[List.any_eq_true];exact⟨x,hx,decide_eq_true h⟩⟩
  rw[this,Bool.or_true]
 refine Qf Qp Tryz.func112 rfl Qalf (by simp[c112]) fun C hP=> ?_;simp only[c112,Zo,Zg,Zm,Zc,Zf,Zl,Zh,Zs,Zi,Zb,Zk,Zn,Zu,Zq,Zr,Zz]
 simp+decide (disch:=try exact D0) only[go_sem]
 refine Qw (by repeat (first|exact Qn|exact Qi|exact Qj|exact Qk|exact Ql|apply Qh|apply Qm|apply Qs|apply Qx|apply Qy|apply Qg|apply Qr)) [(2,29)] [] (fun n J hp=>∃i,n=p.length-i/\i<=p.length/\(∀t∈p.take i,∀x∈t.2,¬1048576<x)/\J 3= .int .i64 (i:Nat)) p.length ?_ ?_
 ·refine⟨0,rfl,by omega,by simp,?_⟩
  simp+decide (disch:=try exact D0) only[go_sem]
  rfl
 rintro _ J h ⟨i,rfl,hi,h1,h3⟩
 simp+decide (disch:=try exact D1 h3) only[go_sem,h3]
 refine Qb (fun hg=> ?_) (fun hg=> ?_)
 ·have hi':i<p.length:=by omega
  have htp:=hp _ (List.getElem_mem hi')
  have hmem:=List.getElem_mem hi'
  have htk:p.take (i+1)=p.take i++[p[i]]:=List.take_succ_eq_append_getElem hi'
  generalize hx:p[i]=x at *
  have hml:=htp.len
  simp+decide (disch:=try exact D2 h3 hx) only[go_sem,h3,hx]
  refine Qw (by repeat (first|exact Qn|exact Qi|exact Qj|exact Qk|exact Ql|apply Qh|apply Qm|apply Qs|apply Qx|apply Qy|apply Qg|apply Qr)) [(2,2),(4,4),(11,29)] [] (fun n J hp=>∃j,n=x.2.length-j/\j<=x.2.length/\(∀y∈x.2.take j,¬1048576<y)/\J 4= .int .i64 (j:Nat)) x.2.length ?_ ?_
  ·refine⟨0,rfl,by omega,by simp,?_⟩
   simp+decide (disch:=try exact D0) only[go_sem]
   rfl
  rintro _ J2 h2 ⟨j,rfl,hj,h4,h5⟩
  simp+decide (disch:=try exact D3 h3 h5 hx) only[go_sem,h3,h5,hx]
  refine Qb (fun hg2=> ?_) (fun hg2=> ?_)
  ·have hj':j<x.2.length:=by omega
   have hm2:=List.getElem_mem hj'
   have htk2:x.2.take (j+1)=x.2.take j++[x.2[j]]:=List.take_succ_eq_append_getElem hj'
   generalize hy:x.2[j]=y at *
   simp+decide (disch:=try exact D4 h3 h5 hx hy) only[go_sem,h3,h5,hx,hy]
   refine Qb (fun hc=> ?_) (fun hc=> ?_)
   ·simp+decide (disch:=try exact D0) only[go_sem]
    exact Qc (congrArg PV.bool (bad ⟨x,hmem,y,hm2,hc⟩).symm) rfl
   ·simp+decide (disch:=try exact D1 h5) only[go_sem,h5]
    refine Qo (x.2.length-(j+1)) (by omega) ⟨j+1,rfl,by omega,?_,?_⟩
    ·rw[htk2]
     intro z hz
     rcases List.mem_append.1 hz with hz|hz
     ·exact h4 z hz
     ·simp only[List.mem_singleton]at hz;subst hz;exact hc
    ·simp+decide (disch:=try exact D0) only[go_sem]
  ·rw[List.take_of_length_le (by omega)]at h4
   simp+decide (disch:=try exact D2 h3 h5) only[go_sem,h3,h5]
   simp (disch:=decide) only[Qa2,Qbh]
   refine Qo (p.length-(i+1)) (by omega) ⟨i+1,rfl,by omega,?_,?_⟩
   ·rw[htk]
    intro z hz
    rcases List.mem_append.1 hz with hz|hz
    ·exact h1 z hz
    ·simp only[List.mem_singleton]at hz;subst hz;exact h4
   ·simp+decide (disch:=try exact D0) only[go_sem]
 ·obtain rfl:i=p.length:=by omega
  rw[List.take_length]at h1
  simp+decide (disch:=try exact D0) only[go_sem]
  refine Qc (congrArg PV.bool ?_) rfl
  have:(p.any fun t=>t.2.any fun x=>decide (1048576<x))=false:=by
   rw[List.any_eq_false];intro t ht;rw[Bool.not_eq_true,List.any_eq_false];intro x hx;simpa using h1 t ht x hx
  rw[Qgz,this,Bool.or_false]
  exact decide_eq_decide.2 ⟨fun h=>by omega,fun h=>by omega⟩
theorem Q6n{a:Rat}{k:Nat}(h:rs a<=k)(hk:k<=2^32):Qd Tryz.prog 70 [PV.rat a] (· =PV.poly (Qhn a)):=by
 have:=Qyq (Qbs h) hk
 rwa[Qcb]at this
end Go.Proofs.YtkoclfmjlolkhaaGreat
namespace Go.FW
open Go
theorem Qva(x y:Int)(hy:y≠0):mkRat (zv (decide (x<0) !=decide (y<0)) (dig x.natAbs)) y.natAbs=(x:Rat)/(y:Rat):=by
 rw[Rat.mkRat_eq_div,Qir,<-Rat.intCast_natCast]
 have h3:(y:Rat)≠0:=by rw[Ne,Rat.intCast_eq_zero_iff];exact hy
 by_cases hy0:y<0
 ·have e2:(((y.natAbs:Nat):Int):Rat)= -(y:Rat):=by rw[<-Rat.intCast_neg];congr 1;omega
  have e1:(if(decide (x<0) !=decide (y<0))=true then -(x.natAbs:Int)else x.natAbs)= -x:=by
   by_cases hx:x<0<;>simp[hx,hy0]<;>omega
  rw[e1,e2,Rat.intCast_neg]
  grind
 ·have e2:(((y.natAbs:Nat):Int):Rat)=(y:Rat):=by congr 1;omega
  have e1:(if(decide (x<0) !=decide (y<0))=true then -(x.natAbs:Int)else x.natAbs)=x:=by
   by_cases hx:x<0<;>simp[hx,hy0]<;>omega
  rw[e1,e2]
theorem Qaqw{n m:Bool}{a d b c:List Nat}(hd:val d≠0)(hc:val c≠0)(hb:zv m b≠0):((zv n a*(val c:Int):Int):Rat)/((zv m b*(val d:Int):Int):Rat)=rv n a d/rv m b c:=by
 have h1:((val d:Int):Rat)≠0:=by rw[Ne,Rat.intCast_eq_zero_iff];omega
 have h2:((val c:Int):Rat)≠0:=by rw[Ne,Rat.intCast_eq_zero_iff];omega
 have h3:((zv m b:Int):Rat)≠0:=by rw[Ne,Rat.intCast_eq_zero_iff];exact hb
 unfold rv
 rw[Rat.mkRat_eq_div,Rat.mkRat_eq_div,Rat.intCast_mul,Rat.intCast_mul]
 rw[<-Rat.intCast_natCast,<-Rat.intCast_natCast]
 grind
theorem Q95(x y:Int)(hy:y≠0):rs ((x:Rat)/(y:Rat))<=max (nl x.natAbs) (max (nl y.natAbs) 1):=by
 rw[<-Qva x y hy]
 have:=Qow (zv (decide (x<0) !=decide (y<0)) (dig x.natAbs)) y.natAbs
 rwa[Qbq,Qaf]at this
theorem Q1e(q:Rat)(h:q≠0):rs q⁻¹ <=rs q:=by
 have hn:q.num≠0:=fun e=>h (Rat.num_eq_zero.1 e)
 have e:q⁻¹ =(((q.den:Int):Int):Rat)/((q.num:Int):Rat):=by
  have d1:q=(q.num:Rat)/((q.den:Int):Rat):=by
   conv=>lhs;rw[<-Rat.mkRat_self q]
   rw[Rat.mkRat_eq_div,Rat.intCast_natCast]
  have k1:((q.den:Int):Rat)≠0:=by rw[Ne,Rat.intCast_eq_zero_iff];have:=q.den_nz;omega
  have k3:((q.num:Int):Rat)≠0:=by rw[Ne,Rat.intCast_eq_zero_iff];exact hn
  generalize(q.num:Rat)=A at *
  generalize((q.den:Int):Rat)=D at *
  rw[d1]
  grind
 have h2:=Q95 (q.den:Int) q.num hn
 have h3:=Qz6 q
 rw[e]
 unfold rs at h3⊢
 unfold rs at h2
 rw[Int.natAbs_natCast]at h2
 have h4:1<=nl q.den:=by
  have:=q.den_nz
  apply Decidable.byContradiction;intro hc
  exact this (Qik.1 (by omega))
 omega
def hdT(p:List Tm):Tm:=p.headD (0,[])
theorem Qamk{p:List Tm}(h:p≠[]):hdT p∈p:=by cases p with
 |nil=>exact absurd rfl h
 |cons t p=>simp[hdT]
def Qg2(c:Rat):Rat:=if c<0 then -c else c
theorem Qss(c:Rat):0<=Qg2 c:=by unfold Qg2;grind
theorem Qagk(a b:Rat):Qg2 (a*b)=Qg2 a*Qg2 b:=by
 have pos:∀x:Rat,0<=x->Qg2 x=x:=fun x h=>by unfold Qg2;grind
 have neg:∀x:Rat,x<=0->Qg2 x= -x:=fun x h=>by unfold Qg2;grind
 rcases Decidable.em (0<=a)with ha|ha<;>rcases Decidable.em (0<=b)with hb|hb
 ·rw[pos _ (Rat.mul_nonneg ha hb),pos _ ha,pos _ hb]
 ·have h:=Rat.mul_nonneg ha (show 0<= -b by grind)
  rw[neg (a*b) (by grind),pos _ ha,neg b (by grind)];grind
 ·have h:=Rat.mul_nonneg (show 0<= -a by grind) hb
  rw[neg (a*b) (by grind),neg a (by grind),pos _ hb];grind
 ·have h:=Rat.mul_nonneg (show 0<= -a by grind) (show 0<= -b by grind)
  rw[pos (a*b) (by grind),neg a (by grind),neg b (by grind)];grind
theorem Q1f(z:Int):Qg2 (z:Rat)=((z.natAbs:Nat):Rat):=by
 rw[<-Rat.intCast_natCast]
 unfold Qg2
 split
 ·rename_i h
  have h':z<0:=by have:=(Rat.intCast_lt_intCast (a:=z) (b:=0)).1 (by simpa using h);exact this
  rw[<-Rat.intCast_neg];congr 1;omega
 ·rename_i h
  have h':¬z<0:=fun hz=>h (by have:=(Rat.intCast_lt_intCast (a:=z) (b:=0)).2 hz;simpa using this)
  congr 1;omega
def psi(m:List Int):Nat:=(eN m 3).toNat*729+(eN m 2).toNat*81+(eN m 1).toNat*9+(eN m 0).toNat
theorem cmp4{a b:List Int}(ha:a.length<=4)(hb:b.length<=4):Qau a b=Qct a b 4:=(Qjg (by omega)).symm
theorem Qaml{a b:List Int}(ha:a.length<=4)(hb:b.length<=4)(h:Qau a b<0):
  eN a 3<eN b 3∨(eN a 3=eN b 3/\(eN a 2<eN b 2∨(eN a 2=eN b 2/\(eN a 1<eN b 1∨(eN a 1=eN b 1/\eN a 0<eN b 0))))):=by
 rw[cmp4 ha hb]at h
 simp only[Qct]at h
 have z3:=Qlc (x:=eN a 3) (y:=eN b 3)
 have z2:=Qlc (x:=eN a 2) (y:=eN b 2)
 have z1:=Qlc (x:=eN a 1) (y:=eN b 1)
 have z0:=Qlc (x:=eN a 0) (y:=eN b 0)
 by_cases e3:eN a 3=eN b 3
 ·rw[if_pos e3]at h
  refine .inr ⟨e3,?_⟩
  by_cases e2:eN a 2=eN b 2
  ·rw[if_pos e2]at h
   refine .inr ⟨e2,?_⟩
   by_cases e1:eN a 1=eN b 1
   ·rw[if_pos e1]at h
    refine .inr ⟨e1,?_⟩
    by_cases e0:eN a 0=eN b 0
    ·rw[if_pos e0]at h;omega
    ·rw[if_neg e0]at h;exact z0.1 h
   ·rw[if_neg e1]at h;exact .inl (z1.1 h)
  ·rw[if_neg e2]at h;exact .inl (z2.1 h)
 ·rw[if_neg e3]at h;exact .inl (z3.1 h)
def nW(W:Rat):List Tm->Rat
 | []=>0
 |t::p=>Qg2 t.1*W^psi t.2+nW W p
theorem Qvb{W:Rat}(h:0<=W):∀n:Nat,0<=W^n
 |0=>by rw[Rat.pow_zero];decide
 |n+1=>by rw[Rat.pow_succ];exact Rat.mul_nonneg (Qvb h n) h
theorem Qvc{W:Rat}(h:1<=W):∀n:Nat,1<=W^n
 |0=>by rw[Rat.pow_zero];decide
 |n+1=>by
  rw[Rat.pow_succ]
  have h1:=Qvc h n
  have:=Rat.mul_le_mul_of_nonneg_right h1 (show(0:Rat)<=W by grind)
  grind
theorem Qst{W:Rat}(h:0<=W)(c:Rat)(m:List Int):0<=Qg2 c*W^psi m:=Rat.mul_nonneg (Qss c) (Qvb h _)
theorem Qx1{W:Rat}(h:0<=W):∀p,0<=nW W p
 | []=>by simp only[nW];decide
 |t::p=>by
  have h1:=Qst h t.1 t.2
  have h2:=Qx1 h p
  simp only[nW];grind
def Pos(p:List Tm):Prop:=∀t∈p,∀i,0<=eN t.2 i
def IsI(c:Rat):Prop:=∃z:Int,c=(z:Rat)
theorem IsI.add{a b:Rat}:IsI a->IsI b->IsI (a+b):=fun⟨x,hx⟩ ⟨y,hy⟩=>⟨x+y,by rw[hx,hy,Rat.intCast_add]⟩
theorem IsI.neg{a:Rat}:IsI a->IsI (-a):=fun⟨x,hx⟩=>⟨-x,by rw[hx,Rat.intCast_neg]⟩
def IW(D F:Rat)(N:Nat)(p:List Tm):Prop:=∀t∈p,psi t.2<=N/\IsI (t.1*(D*F^(N-psi t.2)))
theorem IW.cons{D F:Rat}{N:Nat}{t:Tm}{p:List Tm}:IW D F N (t::p)↔(psi t.2<=N/\IsI (t.1*(D*F^(N-psi t.2))))/\IW D F N p:=by simp[IW]
def c4(m:List Int):Nat:=(((eN m 3).toNat*81+(eN m 2).toNat)*729+(eN m 1).toNat)*6561+(eN m 0).toNat
theorem Qasf{a b:List Int}(ha:∀i,0<=eN a i)(hb:∀i,0<=eN b i)(la:a.length<=4)(lb:b.length<=4)(pa:psi a<=6560)(pb:psi b<=6560)(h:Qau a b<0):c4 a<c4 b:=by
 have a0:=ha 0;have a1:=ha 1;have a2:=ha 2;have a3:=ha 3
 have b0:=hb 0;have b1:=hb 1;have b2:=hb 2;have b3:=hb 3
 have:=Qaml la lb h
 simp only[psi]at pa pb
 simp only[c4,Zo,Zg,Zm,Zc,Zf,Zl,Zh,Zs,Zi,Zb,Zk,Zn,Zu,Zq,Zr,Zz]
 omega
theorem Qasg{a:List Int}(pa:psi a<=6560):c4 a<2^32:=by
 simp only[psi]at pa
 simp only[c4,Zo,Zg,Zm,Zc,Zf,Zl,Zh,Zs,Zi,Zb,Zk,Zn,Zu,Zq,Zr,Zz]
 omega
structure ExI(D F W N0:Rat)(p:List Tm):Prop where
 i:IW D F 6560 p
 n:nW W p<=N0
 pos:Pos p
 ml:ML 4 p
 nrm:Nrm p
theorem Q6o{p:List Tm}:(∀t∈p,psi t.2<=6560)->Pos p->ML 4 p->Qcr p->p≠[]->p.length<=c4 (hdT p).2+1:=by
 induction p with
 |nil=>intro _ _ _ _ h;exact absurd rfl h
 | cons t p ih=>
  intro hp hP hM hs _
  cases p with
  |nil=>simp
  |cons s p=>
   have h1:=ih (fun x hx=>hp x (by simp[hx])) (fun x hx=>hP x (by simp[hx])) (fun x hx=>hM x (by simp[hx])) hs.2 (by simp)
   have h2:=hs.1 s (by simp)
   have h3:=Qjh t.2 s.2
   have h4:=Qasf (hP s (by simp)) (hP t (by simp)) (hM s (by simp)) (hM t (by simp)) (hp s (by simp)) (hp t (by simp)) (by omega)
   simp only[hdT,List.headD_cons,List.length_cons]at h1⊢
   omega
theorem ExI.len{D F W N0:Rat}{p:List Tm}(h:ExI D F W N0 p):p.length<=2^32:=by
 by_cases h0:p=[]
 ·subst h0;simp
 ·have h1:=Q6o (fun t ht=>(h.i t ht).1) h.pos h.ml h.nrm.s h0
  have:=Qasg (h.i _ (Qamk h0)).1
  omega
theorem Q96{W:Rat}(h:1<=W):∀ {p:List Tm} {t:Tm},t∈p->Qg2 t.1<=nW W p
 | s::p,t,ht=>by
  have h0:(0:Rat)<=W:=by grind
  have h1:=Qx1 h0 p
  have h2:=Qst h0 s.1 s.2
  simp only[nW]
  rcases List.mem_cons.1 ht with rfl|ht
  ·have h3:=Rat.mul_le_mul_of_nonneg_left (Qvc h (psi t.2)) (Qss t.1)
   grind
  ·have:=Q96 h ht
   grind
theorem ExI.PB{d f w n0 L:Nat}{p:List Tm}(h:ExI d f w n0 p)(hd:0<d)(hf:0<f)(hw:0<w)(hn0:0<n0)(hL:nl (n0*(d*f^6560))<L):PB L 6560 p:=by
 intro t ht
 obtain⟨h1,z,hz⟩:=h.i t ht
 have hw1:(1:Rat)<=(w:Rat):=by
  rw[<-Rat.intCast_natCast,show(1:Rat)=((1:Int):Rat)from rfl,Rat.intCast_le_intCast];omega
 have hN:Qg2 t.1<=(n0:Rat):=by have:=Q96 hw1 ht;have:=h.n;grind
 have hX:(d:Rat)*(f:Rat)^(6560-psi t.2)=((d*f^(6560-psi t.2):Nat):Rat):=by
  rw[Rat.natCast_mul,Rat.natCast_pow]
 have hkey:∀N k:Nat,k<=N->d*f^k<=d*f^N:=fun N k h=>Nat.mul_le_mul_left _ (Nat.pow_le_pow_right hf h)
 have hXl:=hkey 6560 (6560-psi t.2) (Nat.sub_le _ _)
 have hX0:0<d*f^(6560-psi t.2):=Nat.mul_pos hd (Nat.pow_pos hf)
 rw[hX]at hz
 generalize d*f^(6560-psi t.2)=X at *
 generalize d*f^6560=Y at *
 have hXr:((X:Int):Rat)≠0:=by rw[Ne,Rat.intCast_eq_zero_iff];omega
 have e:t.1=(z:Rat)/((X:Int):Rat):=by rw[<-hz,Rat.intCast_natCast];rw[Rat.intCast_natCast]at hXr;grind
 have hzl:z.natAbs<=n0*Y:=by
  have h2:Qg2 (z:Rat)=Qg2 t.1*(X:Rat):=by
   rw[<-hz,Qagk];congr 1
   rw[<-Rat.intCast_natCast,Q1f,Int.natAbs_natCast,Rat.intCast_natCast]
  rw[Q1f]at h2
  have h3:(0:Rat)<=(X:Rat):=by rw[<-Rat.intCast_natCast,show(0:Rat)=((0:Int):Rat)from rfl,Rat.intCast_le_intCast];omega
  have h4:=Rat.mul_le_mul_of_nonneg_right hN h3
  rw[<-h2,<-Rat.natCast_mul,<-Rat.intCast_natCast,<-Rat.intCast_natCast,Rat.intCast_le_intCast]at h4
  have h5:=Nat.mul_le_mul_left n0 hXl
  omega
 have hr:=Q95 z (X:Int) (by omega)
 rw[<-e,Int.natAbs_natCast]at hr
 have g1:=Qb4 hzl
 have g2:nl X<=nl (n0*Y):=by
  exact Qb4 (Nat.le_trans hXl (Nat.le_mul_of_pos_left _ hn0))
 have g3:1<=nl X:=by
  apply Decidable.byContradiction;intro hc
  have:=Qik.1 (show nl X=0 by omega)
  omega
 refine⟨by omega,⟨by have:=h.ml t ht;omega,fun x hx=> ?_,fun x hx=> ?_⟩,h.nrm.c t ht⟩
 all_goals
  obtain⟨i,hi,rfl⟩:=List.getElem_of_mem hx
  have hp:=h.pos t ht i
  rw[Qel hi]at hp
 ·exact hp
 ·have hl:=h.ml t ht
  simp only[psi]at h1
  rw[<-Qel hi]
  rw[<-Qel hi]at hp
  have:i=0∨i=1∨i=2∨i=3:=by omega
  rcases this with rfl|rfl|rfl|rfl<;>omega
theorem Nrm.drop{p:List Tm}(h:Nrm p):∀k,Nrm (p.drop k)
 |0=>h
 |k+1=>by
  have:=Nrm.drop h k
  rw[<-List.drop_drop]
  cases hd:p.drop k with
  |nil=>simpa using Nrm.nil
  |cons t l=>rw[hd]at this;simpa using this.tail
structure RSq where
 n:Bool
 a:List Nat
 d:List Nat
 p:List RTm
instance : Inhabited RSq := ⟨⟨false, [], [], []⟩⟩
abbrev PV.rsq(s:RSq):PV:= .agg [.bool s.n,PV.nat s.a,PV.nat s.d,PV.rpoly s.p]
abbrev Sq:=Rat×List Tm
abbrev PV.sq(x:Sq):PV:= .agg [.bool (decide (x.1.num<0)),PV.num x.1.num.natAbs,PV.num x.1.den,PV.poly x.2]
def RSq.sq(s:RSq):Sq:=(rv s.n s.a s.d,s.p.map RTm.tm)
def sqE(s:RSq):Int:=if Qez s.n s.a s.d=true then(if Qcq s.p=true then(if 0<rv s.n s.a s.d then 0 else 2)else 1)else 1
def Qfe:List RSq->Int
 | []=>0
 |s::l=>if sqE s=0 then Qfe l else sqE s
theorem Qsu{l:List RSq}{i:Nat}(h:i<l.length):Qfe (l.drop i)=if sqE l[i]=0 then Qfe (l.drop (i+1))else sqE l[i]:=by
 rw[List.drop_eq_getElem_cons h];rfl
theorem Qvd:∀ {l:List RSq},Qfe l=0->∀s∈l,sqE s=0
 | [],_,_,h=>by cases h
 | s::l,h,x,hx=>by
  unfold Qfe at h
  split at h
  ·rename_i h0
   rcases List.mem_cons.1 hx with rfl|hx
   ·exact h0
   ·exact Qvd h x hx
  ·rename_i h0;exact absurd h h0
def sqT(x:Sq):List Tm:=Qee (Qdl x.2 x.2) x.1
def Qf7(l:List Sq):List Tm:=l.foldl (fun o x=>Qak o (sqT x)) []
def Qff:List Sq->List Tm->Option (List Tm)
 | [],o=>some o
 |x::l,o=>if Qgz (Qak o (sqT x))=true then none else Qff l (Qak o (sqT x))
theorem Qq4{l:List Sq}{i:Nat}(h:i<l.length):Qf7 (l.take (i+1))=Qak (Qf7 (l.take i)) (sqT l[i]):=by
 unfold Qf7;rw[List.take_succ_eq_append_getElem h,List.foldl_append];rfl
theorem Qve{l:List Sq}{i:Nat}(o:List Tm)(h:i<l.length):Qff (l.drop i) o=if Qgz (Qak o (sqT l[i]))=true then none else Qff (l.drop (i+1)) (Qak o (sqT l[i])):=by
 rw[List.drop_eq_getElem_cons h];rfl
theorem Qvf:∀ {l:List Sq} {o r:List Tm},Qff l o=some r->r=l.foldl (fun o x=>Qak o (sqT x)) o
 | [],o,r,h=>(Option.some.inj h).symm
 | x::l,o,r,h=>by
  unfold Qff at h
  split at h
  ·cases h
  ·have:=Qvf h
   exact this
abbrev PV.pe2(r:List Tm×Int):PV:= .tup [PV.poly r.1,.int .i64 r.2]
def Qq5:Option (List Tm)->List Tm×Int
 |some r=>(r,0)
 |none=>([],4)
def Qen(l:List RSq):List Tm×Int:=if Qfe l=0 then Qq5 (Qff (l.map RSq.sq) [])else([],Qfe l)
structure SqS(x:Sq):Prop where
 w:rs x.1<=2
 b:PB 3 1048576 x.2
 l:x.2.length<=6
 n:Nrm x.2
theorem Q1g{x:Sq}(h:SqS x):PB 40 2097152 (sqT x)/\(sqT x).length<=36/\Nrm (sqT x):=by
 have hw:=h.w
 have hl:=h.l
 have h1:=Qo1 h.b h.b
 have h2:=Qtd h.n.s h.n.s
 have h3:=Qxg (a:=x.1) (L:=3) h1.1 (by omega)
 have h4:=Qpz (Qdl x.2 x.2) x.1
 have h5:=Nat.mul_le_mul hl hl
 exact⟨h3.mono (by omega) (by omega),by unfold sqT;omega,Q59 h2.s _⟩
theorem Qlg{l:List Sq}(h:∀x∈l,SqS x):∀i,i<=l.length->PB (40*i) 2097152 (Qf7 (l.take i))/\(Qf7 (l.take i)).length<=36*i/\Nrm (Qf7 (l.take i))
 |0,_=>⟨by simp[Qf7,PB.nil],by simp[Qf7],by simp[Qf7,Nrm.nil]⟩
 |i+1,hi=>by
  obtain⟨h1,h2,h3⟩:=Qlg h i (by omega)
  obtain⟨g1,g2,g3⟩:=Q1g (h _ (List.getElem_mem (show i<l.length by omega)))
  rw[Qq4 (by omega)]
  have:=Qm8 (Qf7 (l.take i)) (sqT l[i])
  exact⟨(Qwj _ _ h1 g1).mono (by omega) (by omega),by omega,Qtc h3 g3⟩
def shQ(a d:List Nat):Bool:=decide (a.length<=2)&&decide (d.length<=2)
def ltT(t:RTm):Bool:=decide (t.m.length<=70)&&shQ t.a t.d
def Qfg(p:List RTm):Bool:=decide (p.length<=20)&&p.all ltT
def Qjm(s:RSq):Bool:=shQ s.a s.d&&(decide (s.p.length<=6)&&Qfg s.p)
def Qh5(l:List RSq):Bool:=decide (l.length<=5)&&l.all Qjm
end Go.FW
