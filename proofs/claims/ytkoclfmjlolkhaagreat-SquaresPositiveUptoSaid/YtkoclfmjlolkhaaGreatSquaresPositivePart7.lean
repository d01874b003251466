/- Part 7 of the proof of SquaresPositive: U3, CL, U4, U7, U8, U10, P9, FwUD, FwUE, FwUF, FwUI, FwUJ, FwUH, FwUK, FwXA. Own lemmas; no conditions. -/
import Derived.Test.YtkoclfmjlolkhaaGreatSquaresPositivePart6
set_option linter.unusedSimpArgs false
set_option linter.unusedVariables false
set_option linter.unnecessarySimpa false
set_option maxRecDepth 100000
namespace Go.Proofs.YtkoclfmjlolkhaaGreat
open Go Go.FW
theorem Q1l{l:List RTm}{k:Nat}(hb:∀t∈l,RB k t)(hk1:1<=k)(hk:k<2^36)(hll:l.length<2^40):Qd Tryz.prog 19 [PV.rpoly l] (· = .bool (Qc2 l)):=by
 have hiff:=Qti l
 have bad:∀ {b:Bool},(b=true->False)->b=false:=fun {b} h=>by cases b<;>simp_all
 refine Qf Qp Tryz.func19 rfl Qaqh (by simp[c19]) fun C hP=> ?_;simp only[c19,Zo,Zg,Zm,Zc,Zf,Zl,Zh,Zs,Zi,Zb,Zk,Zn,Zu,Zq,Zr,Zz]
 simp+decide (disch:=try exact D0) only[go_sem]
 refine Qw (by repeat (first|exact Qo|exact Qi|exact Qj|exact Qk|exact Ql|apply Qh|apply Qn|apply Qr|apply Qx|apply Qy|apply Qg|apply Qs)) [(2,51)] [] (fun n J hp=>∃i,n=l.length-i/\i<=l.length/\(∀j (h:j<l.length),j<i->rOk l[j]=true)/\(∀j (h:j+1<l.length),j+1<i->0<Qau l[j].m l[j+1].m)/\J 3= .int .i64 (i:Nat)) l.length ?_ ?_
 ·refine⟨0,rfl,by omega,by omega,by omega,?_⟩
  simp+decide (disch:=try exact D0) only[go_sem]
  rfl
 rintro _ J h ⟨i,rfl,hi,h1,h2,h7⟩
 simp+decide (disch:=try exact D1 h7) only[go_sem,h7]
 refine Qb (fun hg=> ?_) (fun hg=> ?_)
 ·have hi':i<l.length:=by omega
  have hbt:=hb _ (List.getElem_mem hi')
  have hr:=(RB.raw hbt hk1).rs
  have hml:=hbt.l
  have hbadt:Qc2 l=true->rOk l[i]=true:=fun h=>(hiff.1 h).1 i hi'
  have hbadc:∀(j:Nat)(hj:j+1=i),Qc2 l=true->0<Qau (l[j]'(by omega)).m l[i].m:=fun j hj h=>by subst hj;exact(hiff.1 h).2 j hi'
  have hadd1:rOk l[i]=true->∀j (h:j<l.length),j<i+1->rOk l[j]=true:=fun h j hj hji=>by
   by_cases e:j=i
   ·subst e;exact h
   ·exact h1 j hj (by omega)
  have hprev:∀(j:Nat)(hj:j+1=i),MB 1048576 (l[j]'(by omega)).m:=fun j hj=>by
   have:=h1 j (by omega) (by omega)
   simp only[rOk,Bool.and_eq_true]at this
   exact MB.ofOk this.2.2
  have hadd2:(∀(j:Nat)(hj:j+1=i),0<Qau (l[j]'(by omega)).m l[i].m)->∀j (h:j+1<l.length),j+1<i+1->0<Qau l[j].m l[j+1].m:=fun h j hj hji=>by
   by_cases e:j+1=i
   ·subst e;exact h j rfl
   ·exact h2 j hj (by omega)
  generalize hx:l[i]=x at *
  have hr':rs (rv x.n x.a x.d)<2^36:=by omega
  simp+decide (disch:=try exact D2 h7 hx) only[go_sem,h7,hx]
  refine Qa hP (Qkx (RB.raw hbt hk1) hk) rfl rfl rfl ?_
  simp+decide (disch:=try exact D1 h7) only[go_sem,h7]
  cases hok:Qeq x.n x.a x.d
  ·have hf:Qc2 l=false:=bad fun h=>by have:=hbadt h;simp[rOk,hok]at this
   simp+decide (disch:=first|omega|rfl|(simp+decide only[go_sem,h7,Bool.not_false]<;>rfl)|fail) only[go_sem,h7,Bool.not_false]
   exact Qc (by rw[hf]) rfl
  simp+decide (disch:=first|omega|rfl|(simp+decide only[go_sem,h7,Bool.not_true,hx]<;>rfl)|fail) only[go_sem,h7,Bool.not_true,hx]
  refine Qa hP (Qi2 (RB.raw hbt hk1) hk) rfl rfl rfl ?_
  simp+decide (disch:=try exact D1 h7) only[go_sem,h7]
  refine Qah (fun hz=> ?_) (fun hz=> ?_)
  ·have hf:Qc2 l=false:=bad fun h=>by have:=hbadt h;simp[rOk,RTm.q,Qar.1 hz]at this
   simp+decide (disch:=try exact D1 h7) only[go_sem,h7]
   exact Qc (by rw[hf]) rfl
  simp+decide (disch:=try exact D2 h7 hx) only[go_sem,h7,hx]
  refine Qa hP (Qyt (by omega)) rfl rfl rfl ?_
  simp+decide (disch:=try exact D1 h7) only[go_sem,h7]
  cases hmo:Qbe x.m
  ·have hf:Qc2 l=false:=bad fun h=>by have:=hbadt h;simp[rOk,hmo]at this
   simp+decide (disch:=first|omega|rfl|(simp+decide only[go_sem,h7,Bool.not_false]<;>rfl)|fail) only[go_sem,h7,Bool.not_false]
   exact Qc (by rw[hf]) rfl
  have hrok:rOk x=true:=by
   simp only[rOk,hok,hmo,Bool.true_and,Bool.and_true,decide_eq_true_eq]
   exact fun h=>hz (Qar.2 h)
  simp+decide (disch:=first|omega|rfl|(simp+decide only[go_sem,h7,Bool.not_true]<;>rfl)|fail) only[go_sem,h7,Bool.not_true]
  refine Qay (fun hi0=> ?_) (fun hi0=> ?_)
  ·obtain⟨j,rfl⟩:∃j,i=j+1:=⟨i-1,by omega⟩
   have e:((j+1:Nat):Int)-1=j:=by omega
   have hjl:j<l.length:=by omega
   have hpj:=hprev j rfl
   have hbadj:=hbadc j rfl
   have hadd2':0<Qau (l[j]'(by omega)).m x.m->∀j2 (h:j2+1<l.length),j2+1<j+1+1->0<Qau l[j2].m l[j2+1].m:=fun h=>hadd2 (fun j' hj'=>by
    obtain rfl:j'=j:=by omega
    exact h)
   generalize hy:l[j]'(by omega)=y at *
   simp+decide (disch:=try exact D4 h7 e hx hy) only[go_sem,h7,e,hx,hy]
   refine Qa hP (Qq7 hpj (MB.ofOk hmo) (by omega)) rfl rfl rfl ?_
   simp+decide (disch:=try exact D2 h7 e) only[go_sem,h7,e]
   refine Qb (fun hc=> ?_) (fun hc=> ?_)
   ·have hf:Qc2 l=false:=bad fun h=>by have:=hbadj h;omega
    simp+decide (disch:=try exact D1 h7) only[go_sem,h7]
    exact Qc (by rw[hf]) rfl
   ·simp+decide (disch:=try exact D1 h7) only[go_sem,h7]
    refine Qm (l.length-(j+1+1)) (by omega) ⟨j+1+1,rfl,by omega,hadd1 hrok,hadd2' (by omega),?_⟩
    simp+decide (disch:=try exact D0) only[go_sem]
  ·obtain rfl:i=0:=by omega
   simp+decide (disch:=try exact D1 h7) only[go_sem,h7]
   refine Qm (l.length-1) (by omega) ⟨1,rfl,by omega,hadd1 hrok,hadd2 (fun j hj=>by omega),?_⟩
   simp+decide (disch:=try exact D0) only[go_sem]
 ·obtain rfl:i=l.length:=by omega
  have hf:Qc2 l=true:=hiff.2 ⟨fun j hj=>h1 j hj hj,fun j hj=>h2 j hj hj⟩
  simp+decide (disch:=try exact D0) only[go_sem]
  exact Qc (by rw[hf]) rfl
def smT(v:Nat)(e:Int)(t:RTm):Bool:=decide (t.m.length<=v)&&(decide (t.a.length<=4)&&(decide (t.d.length<=4)&&t.m.all fun x=>decide (x<=e)))
def Qhw(n v:Nat)(e:Int)(l:List RTm):Bool:=decide (l.length<=n)&&(l.all (smT v e)&&Qc2 l)
theorem Qyx{l:List RTm}{k n v:Nat}{e:Int}(hb:∀t∈l,RB k t)(hk1:1<=k)(hk:k<2^36)(hll:l.length<2^40):
  Qd Tryz.prog 35 [PV.rpoly l,.int .i64 n,.int .i64 v,.int .i64 e] (· = .bool (Qhw n v e l)):=by
 have bad:l.length<=n->∀i (h:i<l.length),smT v e l[i]=false->Qhw n v e l=false:=fun _ i hi h=>by
  have:l.all (smT v e)=false:=by
   rw[List.all_eq_false];exact⟨_,List.getElem_mem hi,by simp[h]⟩
  simp[Qhw,this]
 refine Qf Qp Tryz.func35 rfl Qaqi (by simp[c35]) fun C hP=> ?_;simp only[c35,Zo,Zg,Zm,Zc,Zf,Zl,Zh,Zs,Zi,Zb,Zk,Zn,Zu,Zq,Zr,Zz]
 simp+decide (disch:=try exact D0) only[go_sem]
 refine Qb (fun hn=> ?_) (fun hn=> ?_)
 ·simp+decide (disch:=try exact D0) only[go_sem]
  exact Qc (by simp[Qhw,show ¬l.length<=n by omega]) rfl
 have hn':l.length<=n:=by omega
 simp+decide (disch:=try exact D0) only[go_sem]
 refine Qw (by repeat (first|exact Qo|exact Qi|exact Qj|exact Qk|exact Ql|apply Qh|apply Qn|apply Qr|apply Qx|apply Qy|apply Qg|apply Qs)) [(8,10),(15,69)] [] (fun m J hp=>∃i,m=l.length-i/\i<=l.length/\(∀j (h:j<l.length),j<i->smT v e l[j]=true)/\J 9= .int .i64 (i:Nat)) l.length ?_ ?_
 ·refine⟨0,rfl,by omega,by omega,?_⟩
  simp+decide (disch:=try exact D0) only[go_sem]
  rfl
 rintro _ J h ⟨i,rfl,hi,h1,h9⟩
 simp+decide (disch:=try exact D1 h9) only[go_sem,h9]
 refine Qb (fun hg=> ?_) (fun hg=> ?_)
 ·have hi':i<l.length:=by omega
  have hbt:=hb _ (List.getElem_mem hi')
  have hbad:=bad hn' i hi'
  have hml:=hbt.l
  have hadd:smT v e l[i]=true->∀j (h:j<l.length),j<i+1->smT v e l[j]=true:=fun h j hj hji=>by
   by_cases e:j=i
   ·subst e;exact h
   ·exact h1 j hj (by omega)
  generalize hx:l[i]=x at *
  simp+decide (disch:=try exact D2 h9 hx) only[go_sem,h9,hx]
  refine Qah (fun h2=> ?_) (fun h2=> ?_)
  ·simp+decide (disch:=try exact D2 h9 hx) only[go_sem,h9,hx]
   exact Qc (by rw[hbad (by simp[smT,show ¬x.m.length<=v by omega])]) rfl
  simp+decide (disch:=try exact D2 h9 hx) only[go_sem,h9,hx]
  refine Qah (fun h3=> ?_) (fun h3=> ?_)
  ·simp+decide (disch:=try exact D2 h9 hx) only[go_sem,h9,hx]
   exact Qc (by rw[hbad (by simp[smT,show ¬x.a.length<=4 by omega])]) rfl
  simp+decide (disch:=try exact D2 h9 hx) only[go_sem,h9,hx]
  refine Qb (fun h4=> ?_) (fun h4=> ?_)
  ·simp+decide (disch:=try exact D2 h9 hx) only[go_sem,h9,hx]
   exact Qc (by rw[hbad (by simp[smT,show ¬x.d.length<=4 by omega])]) rfl
  simp+decide (disch:=try exact D2 h9 hx) only[go_sem,h9,hx]
  refine Qw (by repeat (first|exact Qo|exact Qi|exact Qj|exact Qk|exact Ql|apply Qh|apply Qn|apply Qr|apply Qx|apply Qy|apply Qg|apply Qs)) [(8,8),(10,10),(50,69)] [] (fun m J hp=>∃j,m=x.m.length-j/\j<=x.m.length/\(∀y∈x.m.take j,y<=e)/\J 10= .int .i64 (j:Nat)) x.m.length ?_ ?_
  ·refine⟨0,rfl,by omega,by simp,?_⟩
   simp+decide (disch:=try exact D0) only[go_sem]
   rfl
  rintro _ J2 h2' ⟨j,rfl,hj,h5,h10⟩
  simp+decide (disch:=try exact D3 h9 h10 hx) only[go_sem,h9,h10,hx]
  refine Qb (fun hg2=> ?_) (fun hg2=> ?_)
  ·have hj':j<x.m.length:=by omega
   have hmem:=List.getElem_mem hj'
   have htk:x.m.take (j+1)=x.m.take j++[x.m[j]]:=List.take_succ_eq_append_getElem hj'
   generalize hy:x.m[j]=y at *
   simp+decide (disch:=try exact D4 h9 h10 hx hy) only[go_sem,h9,h10,hx,hy]
   refine Qb (fun h6=> ?_) (fun h6=> ?_)
   ·simp+decide (disch:=try exact D3 h9 h10 hx) only[go_sem,h9,h10,hx]
    refine Qc ?_ rfl
    rw[hbad]
    have:(x.m.all fun x=>decide (x<=e))=false:=by
     rw[List.all_eq_false];exact⟨y,hmem,by simp;omega⟩
    simp[smT,this]
   ·simp+decide (disch:=try exact D3 h9 h10 hx) only[go_sem,h9,h10,hx]
    refine Qm (x.m.length-(j+1)) (by omega) ⟨j+1,rfl,by omega,?_,?_⟩
    ·rw[htk]
     intro z hz
     rcases List.mem_append.1 hz with hz|hz
     ·exact h5 z hz
     ·simp at hz;omega
    ·simp+decide (disch:=try exact D0) only[go_sem]
  ·rw[List.take_of_length_le (by omega)]at h5
   have hsm:smT v e x=true:=by
    simp only[smT,Bool.and_eq_true,decide_eq_true_eq,List.all_eq_true]
    exact⟨by omega,by omega,by omega,h5⟩
   simp+decide (disch:=try exact D2 h9 h10) only[go_sem,h9,h10]
   simp (disch:=decide) only[Qa1,Qbh]
   refine Qm (l.length-(i+1)) (by omega) ⟨i+1,rfl,by omega,hadd hsm,?_⟩
   simp+decide (disch:=try exact D0) only[go_sem]
 ·obtain rfl:i=l.length:=by omega
  have hall:l.all (smT v e)=true:=by
   rw[List.all_eq_true]
   intro t ht
   obtain⟨j,hj,rfl⟩:=List.getElem_of_mem ht
   exact h1 j hj hj
  simp+decide (disch:=try exact D0) only[go_sem]
  refine Qa hP (Q1l hb hk1 hk hll) rfl rfl rfl ?_
  simp+decide (disch:=try exact D0) only[go_sem]
  exact Qc (by simp[Qhw,hn',hall]) rfl
theorem Qvj{a b:Rat}{k:Nat}(ha:rs a<=k)(hb:rs b<=k)(hk:k<2^34):Qd Tryz.prog 49 [PV.rat a,PV.rat b] (· = .bool (decide (a=b))):=by
 have:=Qys (Qb8 ha) (Qb8 hb) hk
 rwa[Qcl,Qcl]at this
theorem Qsx{p:List Tm}{n:Bool}{a d:List Nat}{m:List Int}{K E k:Nat}(hp:PB K E p)(hs:Qcu p)(hnz:NZ p)(hr:Raw k n a d)(hk:k<=2^32)(hm:MB E m)(hl:m.getLast? ≠some 0)(hK:K<=2^32)(hE:E<=2^38)(hlp:p.length<=2^36):
  Qd Tryz.prog 133 [PV.poly p,PV.rr n a d,PV.mono m] (· =PV.poly (Qiw p (rv n a d) m)):=by
 have hrr:=hr.rs
 refine Qf Qp Tryz.func133 rfl Qal0 (by simp[c133]) fun C hP=> ?_;simp only[c133,Zo,Zg,Zm,Zc,Zf,Zl,Zh,Zs,Zi,Zb,Zk,Zn,Zu,Zq,Zr,Zz]
 simp+decide (disch:=try exact D0) only[go_sem]
 refine Qw (by repeat (first|exact Qo|exact Qi|exact Qj|exact Qk|exact Ql|apply Qh|apply Qn|apply Qr|apply Qx|apply Qy|apply Qg|apply Qs)) [(7,7),(12,26)] [] (fun k J hp=>k<=p.length/\(∀t∈p.drop k,Qau t.2 m<0)/\J 7= .int .i64 (k:Nat)/\hp 4=some ⟨3,51,[PV.rr n a d],false⟩) p.length ?_ ?_
 ·refine⟨by omega,by simp,?_⟩
  simp+decide (disch:=try exact D0) only[go_sem]
 rintro j J h ⟨hj,hd,h7,hh4⟩
 simp+decide (disch:=try exact D1 h7) only[go_sem,h7]
 refine Qay (fun hg=> ?_) (fun hg=> ?_)
 ·obtain⟨i,rfl⟩:∃i,j=i+1:=⟨j-1,by omega⟩
  have e:((i+1:Nat):Int)-1=i:=by omega
  have hi:i<p.length:=by omega
  have htp:=hp.get hi
  have hdr:p.drop i=p[i]::p.drop (i+1):=List.drop_eq_getElem_cons hi
  have htk:p.take (i+1)=p.take i++[p[i]]:=List.take_succ_eq_append_getElem hi
  have hts:=Q02 hs hi
  have hall:p=p.take i++p[i]::p.drop (i+1):=by rw[<-hdr,List.take_append_drop]
  have c1:=htp.c
  generalize hx:p[i]=x at *
  simp+decide (disch:=try exact D3 h7 e hx) only[go_sem,h7,e,hx]
  refine Qa hP (Qq7 htp.m hm (by omega)) rfl rfl rfl ?_
  simp+decide (disch:=try exact D3 h7 e hx) only[go_sem,h7,e,hx]
  refine Qb (fun hc=> ?_) (fun hc=> ?_)
  ·simp+decide (disch:=try exact D3 h7 e hx) only[go_sem,h7,e,hx]
   refine Qm i (by omega) ⟨by omega,?_,?_⟩
   ·rw[hdr]
    intro t ht
    rcases List.mem_cons.1 ht with rfl|ht
    ·exact hc
    ·exact hd t ht
   ·simp+decide (disch:=try exact D1 hh4) only[go_sem,hh4]
  ·simp+decide (disch:=try exact D3 h7 e hx) only[go_sem,h7,e,hx]
   refine Qay (fun _=> ?_) (fun h=>by omega)
   simp+decide (disch:=try exact D3 h7 e hx) only[go_sem,h7,e,hx]
   refine Qa hP (Qq7 htp.m hm (by omega)) rfl rfl rfl ?_
   simp+decide (disch:=try exact D3 h7 e hx) only[go_sem,h7,e,hx]
   refine Qb (fun hc2=> ?_) (fun hc2=> ?_)
   ·have hxm:x.2=m:=(Qwp htp.l hl).1 hc2
    have hx0:=hnz _ (List.getElem_mem hi)
    rw[hx]at hx0
    have hfin:Qiw p (rv n a d) m=p.take i++(if x.1+rv n a d=0 then []else [(x.1+rv n a d,m)])++p.drop (i+1):=by
     have hall':p=p.take i++(x.1,m)::p.drop (i+1):=by rw[<-hxm];exact hall
     rw[Qiw]
     split
     ·rename_i h0
      have e0:x.1+0=x.1:=Rat.add_zero _
      rw[h0,Qdn,e0,if_neg hx0]
      simpa using hall'
     ·conv=>lhs;rw[hall']
      exact Q4o (fun t ht=>by rw[<-hxm];exact hts t ht)
    have htl:(p.take i).length<=p.length:=List.length_take_le' _ _
    have hdl:(p.drop (i+1)).length<=p.length:=by rw[List.length_drop];omega
    have hra:=Qho x.1 (rv n a d)
    have hxr:=Qb8 (q:=x.1) (k:=2^32) (by omega)
    have hadd:=Qss (k:=2^32) hxr (show Raw (2^32) n a d from⟨hr.la,hr.ld,by have:=hr.sa;omega,by have:=hr.sd;omega,by omega⟩) (by omega)
    rw[Qcl]at hadd
    simp+decide (disch:=try exact D4 h7 e hx hh4) only[go_sem,h7,e,hx,hh4]
    refine Qdd ?_ ?_
    all_goals
     simp+decide (disch:=try exact D4 h7 e hx hh4) only[go_sem,h7,e,hx,hh4]
     refine Qa hP hadd rfl rfl rfl ?_
     simp+decide (disch:=try exact D4 h7 e hx hh4) only[go_sem,h7,e,hx,hh4]
     refine Qa hP (Qkm (a:=x.1+rv n a d) (by omega)) rfl rfl rfl ?_
     simp+decide (disch:=try exact D4 h7 e hx hh4) only[go_sem,h7,e,hx,hh4]
     refine Qb (fun hz=> ?_) (fun hz=> ?_)
     ·rw[if_neg (fun h=>hz (Qar.2 h))]at hfin
      simp+decide (disch:=try exact D4 h7 e hx hh4) only[go_sem,h7,e,hx,hh4]
      rw[Qae (f:=PV.term) (y:=(x.1+rv n a d,m)) (xs:=p.take i) (ty':=95) (fz:=false) T0 Tr0 (by omega) rfl (by omega) (by omega)]
      simp+decide (disch:=try exact D4 h7 e hx hh4) only[go_sem,h7,e,hx,hh4]
      rw[Qdz (f:=PV.term) (xs:=p.take i++[(x.1+rv n a d,m)]) (ys:=p.drop (i+1)) T0 (by simp<;>omega) (by omega) (by omega) (by omega)]
      simp+decide (disch:=try exact E0) only[go_sem,Qab,List.contains_cons,List.contains_nil,List.flatMap_cons,List.flatMap_nil,List.append_nil]
      refine Qc ?_ rfl
      rw[List.take_of_length_le (by simp<;>omega),hfin]
     ·rw[if_pos (Qar.1 (Decidable.not_not.1 hz)),List.append_nil]at hfin
      simp+decide (disch:=try exact D4 h7 e hx hh4) only[go_sem,h7,e,hx,hh4]
      rw[Qdz (f:=PV.term) (xs:=p.take i) (ys:=p.drop (i+1)) T0 (by simp<;>omega) (by omega) (by omega) (by omega)]
      simp+decide (disch:=try exact E0) only[go_sem,Qab,List.contains_cons,List.contains_nil,List.flatMap_cons,List.flatMap_nil,List.append_nil]
      refine Qc ?_ rfl
      rw[List.take_of_length_le (by simp<;>omega),hfin]
   ·have hgt:Qak p [(rv n a d,m)]=p.take (i+1)++(rv n a d,m)::p.drop (i+1):=by
     have:=Qwz (m:=m) (c:=rv n a d) (u:=p.take (i+1)) (v:=p.drop (i+1)) (fun t ht=>by
      rw[htk]at ht
      rcases List.mem_append.1 ht with ht|ht
      ·exact Qfb (hts t ht) (by omega)
      ·simp only[List.mem_singleton]at ht;subst ht;omega) hd
     rwa[List.take_append_drop]at this
    have htl:(p.take (i+1)).length<=p.length:=List.length_take_le' _ _
    have hdl:(p.drop (i+1)).length<=p.length:=by rw[List.length_drop];omega
    simp+decide (disch:=try exact D2 h7 hh4) only[go_sem,h7,hh4]
    refine Qa hP (Qi2 hr (by omega)) rfl rfl rfl ?_
    simp+decide (disch:=try exact D2 h7 hh4) only[go_sem,h7,hh4]
    refine Qb (fun hz=> ?_) (fun hz=> ?_)
    ·have hz':¬rv n a d=0:=fun h=>hz (Qar.2 h)
     simp+decide (disch:=try exact D2 h7 hh4) only[go_sem,h7,hh4]
     refine Qa hP (Qdp hr (by omega)) rfl rfl rfl ?_
     simp+decide (disch:=try exact D2 h7 hh4) only[go_sem,h7,hh4]
     rw[Qae (f:=PV.term) (y:=(rv n a d,m)) (xs:=p.take (i+1)) (ty':=95) (fz:=false) T0 Tr0 (by omega) rfl (by omega) (by omega)]
     simp+decide (disch:=try exact D2 h7 hh4) only[go_sem,h7,hh4]
     rw[Qdz (f:=PV.term) (xs:=p.take (i+1)++[(rv n a d,m)]) (ys:=p.drop (i+1)) T0 (by simp<;>omega) (by omega) (by omega) (by omega)]
     simp+decide (disch:=try exact E0) only[go_sem,Qab,List.contains_cons,List.contains_nil,List.flatMap_cons,List.flatMap_nil,List.append_nil]
     refine Qc ?_ rfl
     rw[List.take_of_length_le (by simp<;>omega),Qiw,if_neg hz',hgt]
     simp
    ·have hz':rv n a d=0:=Qar.1 (Decidable.not_not.1 hz)
     simp+decide (disch:=try exact D2 h7 hh4) only[go_sem,h7,hh4]
     rw[Qdz (f:=PV.term) (xs:=p.take (i+1)) (ys:=p.drop (i+1)) T0 (by simp<;>omega) (by omega) (by omega) (by omega)]
     simp+decide (disch:=try exact E0) only[go_sem,Qab,List.contains_cons,List.contains_nil,List.flatMap_cons,List.flatMap_nil,List.append_nil]
     refine Qc ?_ rfl
     rw[List.take_of_length_le (by simp<;>omega),Qiw,if_pos hz',Qdn,List.take_append_drop]
 ·obtain rfl:j=0:=by omega
  have hgt:Qak p [(rv n a d,m)]=[]++(rv n a d,m)::p:=Qwz (m:=m) (c:=rv n a d) (u:=[]) (v:=p) (by simp) (by simpa using hd)
  simp+decide (disch:=try exact D1 h7) only[go_sem,h7]
  rw[Q21 (by omega)]
  simp+decide (disch:=try exact D2 h7 hh4) only[go_sem,h7,hh4]
  refine Qa hP (Qi2 hr (by omega)) rfl rfl rfl ?_
  simp+decide (disch:=try exact D2 h7 hh4) only[go_sem,h7,hh4]
  refine Qb (fun hz=> ?_) (fun hz=> ?_)
  ·have hz':¬rv n a d=0:=fun h=>hz (Qar.2 h)
   simp+decide (disch:=try exact D2 h7 hh4) only[go_sem,h7,hh4]
   refine Qa hP (Qdp hr (by omega)) rfl rfl rfl ?_
   simp+decide (disch:=try exact D2 h7 hh4) only[go_sem,h7,hh4]
   rw[Qae (f:=PV.term) (y:=(rv n a d,m)) (xs:=([]:List Tm)) (ty':=95) (fz:=false) T0 Tr0 (by omega) (n:=0) rfl (by omega) (by omega)]
   simp+decide (disch:=try exact D2 h7 hh4) only[go_sem,h7,hh4]
   rw[Qdz (f:=PV.term) (xs:=([]:List Tm)++[(rv n a d,m)]) (ys:=p) T0 (by simp<;>omega) (by omega) (by omega) (by omega)]
   simp+decide (disch:=try exact E0) only[go_sem,Qab,List.contains_cons,List.contains_nil,List.flatMap_cons,List.flatMap_nil,List.append_nil]
   refine Qc ?_ rfl
   rw[List.take_of_length_le (by simp<;>omega),Qiw,if_neg hz',hgt]
   simp
  ·have hz':rv n a d=0:=Qar.1 (Decidable.not_not.1 hz)
   simp+decide (disch:=try exact D2 h7 hh4) only[go_sem,h7,hh4]
   rw[Qdz (f:=PV.term) (xs:=([]:List Tm)) (ys:=p) T0 (by simp<;>omega) (by omega) (by omega) (by omega)]
   simp+decide (disch:=try exact E0) only[go_sem,Qab,List.contains_cons,List.contains_nil,List.flatMap_cons,List.flatMap_nil,List.append_nil]
   refine Qc ?_ rfl
   rw[List.take_of_length_le (by simp<;>omega),Qiw,if_pos hz',Qdn]
theorem Qyy{n:Bool}{a d:List Nat}{k:Nat}(hr:Raw k n a d)(hk:k<=2^32):Qd Tryz.prog 70 [PV.rr n a d] (· =PV.poly (Qhp (rv n a d))):=by
 have hadd:=(Qsx (p:=[]) (m:=[]) (K:=1) (E:=1) (PB.nil _ _) trivial (by simp[NZ]) hr hk ⟨by simp,by simp,by simp⟩ (by simp) (by omega) (by omega) (by simp)).le (args':=[.nilS,PV.rr n a d,.nilS]) ⟨trivial,Qaa _,trivial,trivial⟩
 have e:Qiw [] (rv n a d) []=Qhp (rv n a d):=by rw[Qiw,Qh6];rfl
 rw[e]at hadd
 refine Qf Qp Tryz.func70 rfl Qaqd (by simp[c70]) fun C hP=> ?_;simp only[c70,Zo,Zg,Zm,Zc,Zf,Zl,Zh,Zs,Zi,Zb,Zk,Zn,Zu,Zq,Zr,Zz]
 simp+decide (disch:=try exact D0) only[go_sem]
 refine Qa hP hadd rfl rfl rfl ?_
 simp+decide (disch:=try exact D0) only[go_sem]
 exact Qc rfl rfl
theorem Q65{a:Rat}{k:Nat}(h:rs a<=k)(hk:k<=2^32):Qd Tryz.prog 70 [PV.rat a] (· =PV.poly (Qhp a)):=by
 have:=Qyy (Qb8 h) hk
 rwa[Qcl]at this
theorem Q1m{a:Rat}{n:Nat}(hB:1+rs a*n<=2^33)(hn:n<=2^40)(ha:rs a<=2^33):Qd Tryz.prog 106 [PV.rat a,.int .i64 n] (· =PV.rat (Qb2 a n)):=by
 have h1:=Qne
 have h1':((1:Int):Rat)=1:=rfl
 refine Qf Qp Tryz.func106 rfl Qalq (by simp[c106]) fun C hP=> ?_;simp only[c106,Zo,Zg,Zm,Zc,Zf,Zl,Zh,Zs,Zi,Zb,Zk,Zn,Zu,Zq,Zr,Zz]
 simp+decide (disch:=try exact D0) only[go_sem]
 refine Qa hP (Qkl (x:=1) (by omega) (by omega)) rfl rfl rfl ?_
 simp+decide (disch:=try exact D0) only[go_sem]
 refine Qw (by repeat (first|exact Qo|exact Qi|exact Qj|exact Qk|exact Ql|apply Qh|apply Qn|apply Qr|apply Qx|apply Qy|apply Qg)) [(1,1),(7,21)] [] (fun m J hp=>∃x o:Rat,m<=n/\rs o+rs x*m<=2^33/\o*Qb2 x m=Qb2 a n/\J 1= .int .i64 (m:Nat)/\hp 2=some ⟨3,51,[PV.rat x],false⟩/\hp 4=some ⟨3,51,[.agg [.bool false,.nilS,.nilS]],false⟩/\hp 5=some ⟨3,51,[PV.rat o],false⟩) n ?_ ?_
 ·refine⟨a,((1:Int):Rat),by omega,by rw[h1'];omega,by rw[h1'];grind,?_⟩
  simp+decide (disch:=try exact D0) only[go_sem]
  rfl
 rintro m J h ⟨x,o,hm,hrs,hq,hJ,hh2,hh4,hh5⟩
 simp+decide (disch:=try exact D1 hJ) only[go_sem,hJ]
 refine Qb (fun hg=> ?_) (fun hg=> ?_)
 ·have hx:rs x<=rs x*m:=Nat.le_mul_of_pos_right _ (by omega)
  have e2:(2:Int)=((2:Nat):Int):=rfl
  have hrem:∀d fr hp K,Qbc .rem false (.int .i64 (m:Int)) (.int .i64 2) d fr hp K=K (upd fr d (.int .i64 ((m%2:Nat):Int))) hp:=fun d fr hp K=>by
   rw[e2,Qea (by omega)]
  have hquo:∀d fr hp K,Qbc .quo false (.int .i64 (m:Int)) (.int .i64 2) d fr hp K=K (upd fr d (.int .i64 ((m/2:Nat):Int))) hp:=fun d fr hp K=>by
   rw[e2,Qrr (by omega) (by omega)]
  have hmm:=Qck x x
  have hom:=Qck o x
  have hd2:rs (x*x)*(m/2)<=rs x*(2*(m/2)):=by
   rw[<-Nat.mul_assoc];exact Nat.mul_le_mul_right _ (by omega)
  simp+decide (disch:=try exact D5 hJ hh2 hh5 hrem hquo) only[go_sem,hJ,hh2,hh5,hrem,hquo]
  refine Qb (fun h2=> ?_) (fun h2=> ?_)
  ·have hodd:m%2=1:=by omega
   have hqa:o*x*Qb2 (x*x) (m/2)=Qb2 a n:=by rw[<-hq,<-Qyp hodd];grind
   have hqb:m=1->o*x*Qb2 x (1/2)=Qb2 a n:=fun h=>by
    rw[<-hq,h]
    show o*x*1=o*Qb2 x 1
    rw[Qaez];grind
   have hm2:rs x*m=rs x*(2*(m/2))+rs x:=by
    rw[show m=2*(m/2)+1 by omega,Nat.mul_add,Nat.mul_one];congr 2;omega
   simp+decide (disch:=try exact D5 hJ hh2 hh5 hrem hquo) only[go_sem,hJ,hh2,hh5,hrem,hquo]
   refine Qa hP (Qiz (a:=o) (b:=x) (k:=2^33) (by omega) (by omega) (by omega)) rfl rfl rfl ?_
   simp+decide (disch:=try exact D5 hJ hh2 hh5 hrem hquo) only[go_sem,hJ,hh2,hh5,hrem,hquo]
   refine Qb (fun h3=> ?_) (fun h3=> ?_)
   ·simp+decide (disch:=try exact D5 hJ hh2 hh5 hrem hquo) only[go_sem,hJ,hh2,hh5,hrem,hquo]
    refine Qa hP (Qiz (a:=x) (b:=x) (k:=2^33) (by omega) (by omega) (by omega)) rfl rfl rfl ?_
    simp+decide (disch:=try exact D5 hJ hh2 hh5 hrem hquo) only[go_sem,hJ,hh2,hh5,hrem,hquo]
    refine Qm (m/2) (by omega) ⟨x*x,o*x,by omega,by omega,hqa,?_⟩
    simp+decide (disch:=try exact D3 hh2 hh4 hh5) only[go_sem,hh2,hh4,hh5]
   ·obtain rfl:m=1:=by omega
    simp+decide (disch:=try exact D5 hJ hh2 hh5 hrem hquo) only[go_sem,hJ,hh2,hh5,hrem,hquo]
    refine Qm (1/2) (by omega) ⟨x,o*x,by omega,by omega,(hqb rfl),?_⟩
    simp+decide (disch:=try exact D3 hh2 hh4 hh5) only[go_sem,hh2,hh4,hh5]
  ·have heven:m%2=0:=by omega
   have hqa:o*Qb2 (x*x) (m/2)=Qb2 a n:=by rw[<-hq,<-Qw1 heven]
   have hqb:m=1->o*Qb2 x (1/2)=Qb2 a n:=fun h=>by omega
   have hm2:rs x*m=rs x*(2*(m/2)):=by
    congr 1;omega
   simp+decide (disch:=try exact D5 hJ hh2 hh5 hrem hquo) only[go_sem,hJ,hh2,hh5,hrem,hquo]
   refine Qb (fun h3=> ?_) (fun h3=> ?_)
   ·simp+decide (disch:=try exact D5 hJ hh2 hh5 hrem hquo) only[go_sem,hJ,hh2,hh5,hrem,hquo]
    refine Qa hP (Qiz (a:=x) (b:=x) (k:=2^33) (by omega) (by omega) (by omega)) rfl rfl rfl ?_
    simp+decide (disch:=try exact D5 hJ hh2 hh5 hrem hquo) only[go_sem,hJ,hh2,hh5,hrem,hquo]
    refine Qm (m/2) (by omega) ⟨x*x,o,by omega,by omega,hqa,?_⟩
    simp+decide (disch:=try exact D3 hh2 hh4 hh5) only[go_sem,hh2,hh4,hh5]
   ·obtain rfl:m=1:=by omega
    simp+decide (disch:=try exact D5 hJ hh2 hh5 hrem hquo) only[go_sem,hJ,hh2,hh5,hrem,hquo]
    refine Qm (1/2) (by omega) ⟨x,o,by omega,by omega,(hqb rfl),?_⟩
    simp+decide (disch:=try exact D3 hh2 hh4 hh5) only[go_sem,hh2,hh4,hh5]
 ·obtain rfl:m=0:=by omega
  have hq':o=Qb2 a n:=by rw[<-hq,Qq2];grind
  simp+decide (disch:=try exact D3 hh2 hh4 hh5) only[go_sem,hh2,hh4,hh5]
  refine Qa5 ?_
  simp+decide (disch:=try exact D0) only[go_sem]
  exact Qc (by rw[hq']) rfl
theorem Q3h{p:List Tm}{vs:List Rat}{K E W:Nat}(hp:PB K E p)(hv:∀v∈vs,rs v<=W)(hW:1<=W)(hB:1+p.length*(K+64*(1+W*E))+(K+64*(1+W*E))<=2^33)(hE:E<=2^38)(hlp:p.length<=2^36)(hlv:vs.length<=2^36):
  Qd Tryz.prog 37 [PV.poly p,PV.rats vs] (· =evR vs p):=by
 have h0:((0:Int):Rat)=0:=rfl
 refine Qf Qp Tryz.func37 rfl Qap8 (by simp[c37]) fun C hP=> ?_;simp only[c37,Zo,Zg,Zm,Zc,Zf,Zl,Zh,Zs,Zi,Zb,Zk,Zn,Zu,Zq,Zr,Zz]
 simp+decide (disch:=try exact D0) only[go_sem]
 refine Qw (by repeat (first|exact Qo|exact Qi|exact Qj|exact Qk|exact Ql|apply Qh|apply Qn|apply Qr|apply Qx|apply Qy|apply Qg)) [(5,5),(7,7),(16,27)] [7] (fun n J hp=>∃i,n=p.length-i/\i<=p.length/\(∀t∈p.take i,¬vs.length<t.2.length)/\J 16= .int .i64 (i:Nat)/\hp 4=some ⟨3,51,[.agg [.bool false,.nilS,.nilS]],false⟩) p.length ?_ ?_
 ·refine⟨0,rfl,by omega,by simp,?_⟩
  simp+decide (disch:=try exact D0) only[go_sem]
  rfl
 rintro _ J h ⟨i,rfl,hi,h1,h16,hh4⟩
 simp+decide (disch:=try exact D1 h16) only[go_sem,h16]
 refine Qb (fun hg=> ?_) (fun hg=> ?_)
 ·have hi':i<p.length:=by omega
  have htp:=hp.get hi'
  have hmem:=List.getElem_mem hi'
  have htk:p.take (i+1)=p.take i++[p[i]]:=List.take_succ_eq_append_getElem hi'
  generalize hx:p[i]=x at *
  have hml:=htp.m.len
  have htr:=Q0g htp.l
  simp+decide (disch:=try exact D2 h16 hx) only[go_sem,h16,hx]
  refine Qa hP (Q28 (a:=x.2) (by omega)) rfl rfl rfl ?_
  rw[htr]
  simp+decide (disch:=try exact D2 h16 hx) only[go_sem,h16,hx]
  refine Qb (fun hc=> ?_) (fun hc=> ?_)
  ·have ho:Qtn vs p=true:=by
    unfold Qtn;rw[List.any_eq_true];exact⟨x,hmem,decide_eq_true (by omega)⟩
   simp+decide (disch:=try exact D1 hh4) only[go_sem,hh4]
   refine Qhc ?_
   simp+decide (disch:=try exact D0) only[go_sem]
   exact Qep (p':=PV.rr false [] []) (q':= .int .i64 2) (by rw[evR,if_pos ho]) rfl rfl ⟨rfl,trivial,trivial,trivial⟩ (Qaa _)
  ·simp+decide (disch:=try exact D1 h16) only[go_sem,h16]
   refine Qm (p.length-(i+1)) (by omega) ⟨i+1,rfl,by omega,?_,?_⟩
   ·rw[htk]
    intro z hz
    rcases List.mem_append.1 hz with hz|hz
    ·exact h1 z hz
    ·simp only[List.mem_singleton]at hz;subst hz;omega
   ·simp+decide (disch:=try exact D1 hh4) only[go_sem,hh4]
 ·obtain rfl:i=p.length:=by omega
  rw[List.take_length]at h1
  have ho:Qtn vs p=false:=by
   unfold Qtn;rw[List.any_eq_false];intro t ht;simpa using h1 t ht
  simp+decide (disch:=try exact D1 hh4) only[go_sem,hh4]
  refine Qa hP (Qkl (x:=0) (by omega) (by omega)) rfl rfl rfl ?_
  simp+decide (disch:=try exact D1 hh4) only[go_sem,hh4]
  refine Qw (by repeat (first|exact Qo|exact Qi|exact Qj|exact Qk|exact Ql|apply Qh|apply Qn|apply Qr|apply Qx|apply Qy|apply Qg)) [(10,13),(31,59)] [10,11] (fun n J hp=>∃i,n=p.length-i/\i<=p.length/\J 31= .int .i64 (i:Nat)/\hp 4=some ⟨3,51,[.agg [.bool false,.nilS,.nilS]],false⟩/\hp 8=some ⟨3,51,[PV.rat (Qbv vs (p.take i))],false⟩) p.length ?_ ?_
  ·refine⟨0,rfl,by omega,?_⟩
   simp+decide (disch:=try exact D1 hh4) only[go_sem,hh4]
   exact⟨rfl,rfl⟩
  rintro _ J1 h1' ⟨i,rfl,hi1,h31,hk4,hk8⟩
  simp+decide (disch:=try exact D1 h31) only[go_sem,h31]
  refine Qb (fun hg1=> ?_) (fun hg1=> ?_)
  ·have hi':i<p.length:=by omega
   have htp:=hp.get hi'
   have hxl:=h1 _ (List.getElem_mem hi')
   have htk:=Qu7 (vs:=vs) hi'
   have hrp:=Qto hp hv hW i (by omega)
   generalize hx:p[i]=x at *
   have hml:=htp.m.len
   have hxc:=htp.c
   have hmono:i*(K+64*(1+W*E))<=p.length*(K+64*(1+W*E)):=Nat.mul_le_mul_right _ hi1
   have hme:=fun j=>Qw4 (vs:=vs) htp.m hv hW x.1 j
   have hjm:∀j,j<=x.2.length->j*(1+W*E)<=64*(1+W*E):=fun j hj=>Nat.mul_le_mul_right _ (by omega)
   simp+decide (disch:=try exact D2 h31 hx) only[go_sem,h31,hx]
   refine Qw (by repeat (first|exact Qo|exact Qi|exact Qj|exact Qk|exact Ql|apply Qh|apply Qn|apply Qr|apply Qx|apply Qy|apply Qg)) [(12,13),(40,55)] [] (fun n J hp=>∃j,n=x.2.length-j/\j<=x.2.length/\J 40= .int .i64 (j:Nat)/\hp 4=some ⟨3,51,[.agg [.bool false,.nilS,.nilS]],false⟩/\hp 8=some ⟨3,51,[PV.rat (Qbv vs (p.take i))],false⟩/\hp 11=some ⟨3,51,[PV.rat (x.1*Qes vs x.2 j)],false⟩) x.2.length ?_ ?_
   ·refine⟨0,rfl,by omega,?_⟩
    have e0:x.1*Qes vs x.2 0=x.1:=by show x.1*1=x.1;grind
    rw[e0]
    simp+decide (disch:=try exact D2 hk4 hk8) only[go_sem,hk4,hk8]
    rfl
   rintro _ J2 h2 ⟨j,rfl,hj,h40,hl4,hl8,hl11⟩
   simp+decide (disch:=try exact D1 h40) only[go_sem,h40]
   refine Qb (fun hg2=> ?_) (fun hg2=> ?_)
   ·have hj':j<x.2.length:=by omega
    have hje:=Qeb hj'
    have hjb:=htp.m.eN j
    have hms:Qes vs x.2 (j+1)=Qes vs x.2 j*Qb2 (vs.getD j 0) (eN x.2 j).toNat:=rfl
    generalize hy:x.2[j]=y at *
    obtain⟨m,rfl⟩:∃m:Nat,y=m:=⟨y.toNat,by omega⟩
    rw[hje,Int.toNat_natCast]at hms
    rw[hje]at hjb
    simp+decide (disch:=try exact D2 h40 hy) only[go_sem,h40,hy]
    refine Qb (fun hz=> ?_) (fun hz=> ?_)
    ·have hjv:j<vs.length:=by omega
     have hvg:vs.getD j 0=vs[j]:=by simp[List.getD_eq_getElem?_getD,hjv]
     have hvw:=hv _ (List.getElem_mem hjv)
     rw[hvg]at hms
     generalize hvj:vs[j]=v at *
     have hwe:rs v*m<=W*E:=Nat.mul_le_mul hvw (by omega)
     have hv1:rs v<=rs v*m:=Nat.le_mul_of_pos_right _ (by omega)
     have hqp:=Qw2 v m
     have hm1:=hme j
     have hm2:=hjm j hj
     simp+decide (disch:=try exact D4 h40 hy hl11 hvj) only[go_sem,h40,hy,hl11,hvj]
     refine Qa hP (Q1m (a:=v) (n:=m) (by omega) (by omega) (by omega)) rfl rfl rfl ?_
     simp+decide (disch:=try exact D4 h40 hy hl11 hvj) only[go_sem,h40,hy,hl11,hvj]
     refine Qa hP (Qiz (a:=x.1*Qes vs x.2 j) (b:=Qb2 v m) (k:=2^33) (by omega) (by omega) (by omega)) rfl rfl rfl ?_
     simp+decide (disch:=try exact D4 h40 hy hl11 hvj) only[go_sem,h40,hy,hl11,hvj]
     refine Qm (x.2.length-(j+1)) (by omega) ⟨j+1,rfl,by omega,?_⟩
     have e1:x.1*Qes vs x.2 (j+1)=x.1*Qes vs x.2 j*Qb2 v m:=by rw[hms];grind
     rw[e1]
     simp+decide (disch:=try exact D2 hl4 hl8) only[go_sem,hl4,hl8]
    ·obtain rfl:m=0:=by omega
     simp+decide (disch:=try exact D2 h40 hy) only[go_sem,h40,hy]
     refine Qm (x.2.length-(j+1)) (by omega) ⟨j+1,rfl,by omega,?_⟩
     have e1:x.1*Qes vs x.2 (j+1)=x.1*Qes vs x.2 j:=by rw[hms,Qq2];grind
     rw[e1]
     simp+decide (disch:=try exact D3 hl4 hl8 hl11) only[go_sem,hl4,hl8,hl11]
   ·obtain rfl:j=x.2.length:=by omega
    have hm1:=hme x.2.length
    have hm2:=hjm x.2.length (Nat.le_refl _)
    have hra:=Qho (Qbv vs (p.take i)) (x.1*mev vs x.2)
    rw[show Qes vs x.2 x.2.length=mev vs x.2 from rfl]at hl11 hm1
    simp+decide (disch:=try exact D4 h31 h40 hl8 hl11) only[go_sem,h31,h40,hl8,hl11]
    refine Qa hP (Qvc (a:=Qbv vs (p.take i)) (b:=x.1*mev vs x.2) (k:=2^33) (by omega) (by omega) (by omega)) rfl rfl rfl ?_
    simp+decide (disch:=try exact D4 h31 h40 hl8 hl11) only[go_sem,h31,h40,hl8,hl11]
    simp (disch:=decide) only[Qa1,Qbh]
    refine Qm (p.length-(i+1)) (by omega) ⟨i+1,rfl,by omega,?_⟩
    rw[htk]
    simp+decide (disch:=try exact D1 hl4) only[go_sem,hl4]
  ·obtain rfl:i=p.length:=by omega
   rw[List.take_length]at hk8
   simp+decide (disch:=try exact D2 hk4 hk8) only[go_sem,hk4,hk8]
   refine Qhc ?_
   simp+decide (disch:=try exact D0) only[go_sem]
   exact Qep (by rw[evR,if_neg (by simp[ho])]) rfl rfl (Qaa _) (Qaa _)
end Go.Proofs.YtkoclfmjlolkhaaGreat
namespace Go.FW
open Go
theorem Qvk(x y:Int)(hy:y≠0):mkRat (zv (decide (x<0) !=decide (y<0)) (dig x.natAbs)) y.natAbs=(x:Rat)/(y:Rat):=by
 rw[Rat.mkRat_eq_div,Qit,<-Rat.intCast_natCast]
 have h3:(y:Rat)≠0:=by rw[Ne,Rat.intCast_eq_zero_iff];exact hy
 by_cases hy0:y<0
 ·have e2:(((y.natAbs:Nat):Int):Rat)= -(y:Rat):=by rw[<-Rat.intCast_neg];congr 1;omega
  have e1:(if(decide (x<0) !=decide (y<0))=true then -(x.natAbs:Int)else x.natAbs)= -x:=by
   by_cases hx:x<0<;>simp[hx,hy0]<;>omega
  rw[e1,e2,Rat.intCast_neg]
  grind
 ·have e2:(((y.natAbs:Nat):Int):Rat)=(y:Rat):=by congr 1;omega
  have e1:(if(decide (x<0) !=decide (y<0))=true then -(x.natAbs:Int)else x.natAbs)=x:=by
   by_cases hx:x<0<;>simp[hx,hy0]<;>omega
  rw[e1,e2]
theorem Qard{n m:Bool}{a d b c:List Nat}(hd:val d≠0)(hc:val c≠0)(hb:zv m b≠0):((zv n a*(val c:Int):Int):Rat)/((zv m b*(val d:Int):Int):Rat)=rv n a d/rv m b c:=by
 have h1:((val d:Int):Rat)≠0:=by rw[Ne,Rat.intCast_eq_zero_iff];omega
 have h2:((val c:Int):Rat)≠0:=by rw[Ne,Rat.intCast_eq_zero_iff];omega
 have h3:((zv m b:Int):Rat)≠0:=by rw[Ne,Rat.intCast_eq_zero_iff];exact hb
 unfold rv
 rw[Rat.mkRat_eq_div,Rat.mkRat_eq_div,Rat.intCast_mul,Rat.intCast_mul]
 rw[<-Rat.intCast_natCast,<-Rat.intCast_natCast]
 grind
theorem Qaaq(x y:Int)(hy:y≠0):rs ((x:Rat)/(y:Rat))<=max (nl x.natAbs) (max (nl y.natAbs) 1):=by
 rw[<-Qvk x y hy]
 have:=Qo1 (zv (decide (x<0) !=decide (y<0)) (dig x.natAbs)) y.natAbs
 rwa[Qbq,Qaf]at this
theorem Q1n(q:Rat)(h:q≠0):rs q⁻¹ <=rs q:=by
 have hn:q.num≠0:=fun e=>h (Rat.num_eq_zero.1 e)
 have e:q⁻¹ =(((q.den:Int):Int):Rat)/((q.num:Int):Rat):=by
  have d1:q=(q.num:Rat)/((q.den:Int):Rat):=by
   conv=>lhs;rw[<-Rat.mkRat_self q]
   rw[Rat.mkRat_eq_div,Rat.intCast_natCast]
  have k1:((q.den:Int):Rat)≠0:=by rw[Ne,Rat.intCast_eq_zero_iff];have:=q.den_nz;omega
  have k3:((q.num:Int):Rat)≠0:=by rw[Ne,Rat.intCast_eq_zero_iff];exact hn
  generalize(q.num:Rat)=A at *
  generalize((q.den:Int):Rat)=D at *
  rw[d1]
  grind
 have h2:=Qaaq (q.den:Int) q.num hn
 have h3:=Q0b q
 rw[e]
 unfold rs at h3⊢
 unfold rs at h2
 rw[Int.natAbs_natCast]at h2
 have h4:1<=nl q.den:=by
  have:=q.den_nz
  apply Decidable.byContradiction;intro hc
  exact this (Qin.1 (by omega))
 omega
def hdT(p:List Tm):Tm:=p.headD (0,[])
theorem Qam3{p:List Tm}(h:p≠[]):hdT p∈p:=by cases p with
 |nil=>exact absurd rfl h
 |cons t p=>simp[hdT]
def Qg1(c:Rat):Rat:=if c<0 then -c else c
theorem Qsy(c:Rat):0<=Qg1 c:=by unfold Qg1;grind
theorem Qag0(a b:Rat):Qg1 (a*b)=Qg1 a*Qg1 b:=by
 have pos:∀x:Rat,0<=x->Qg1 x=x:=fun x h=>by unfold Qg1;grind
 have neg:∀x:Rat,x<=0->Qg1 x= -x:=fun x h=>by unfold Qg1;grind
 rcases Decidable.em (0<=a)with ha|ha<;>rcases Decidable.em (0<=b)with hb|hb
 ·rw[pos _ (Rat.mul_nonneg ha hb),pos _ ha,pos _ hb]
 ·have h:=Rat.mul_nonneg ha (show 0<= -b by grind)
  rw[neg (a*b) (by grind),pos _ ha,neg b (by grind)];grind
 ·have h:=Rat.mul_nonneg (show 0<= -a by grind) hb
  rw[neg (a*b) (by grind),neg a (by grind),pos _ hb];grind
 ·have h:=Rat.mul_nonneg (show 0<= -a by grind) (show 0<= -b by grind)
  rw[pos (a*b) (by grind),neg a (by grind),neg b (by grind)];grind
theorem Q1o(z:Int):Qg1 (z:Rat)=((z.natAbs:Nat):Rat):=by
 rw[<-Rat.intCast_natCast]
 unfold Qg1
 split
 ·rename_i h
  have h':z<0:=by have:=(Rat.intCast_lt_intCast (a:=z) (b:=0)).1 (by simpa using h);exact this
  rw[<-Rat.intCast_neg];congr 1;omega
 ·rename_i h
  have h':¬z<0:=fun hz=>h (by have:=(Rat.intCast_lt_intCast (a:=z) (b:=0)).2 hz;simpa using this)
  congr 1;omega
def psi(m:List Int):Nat:=(eN m 3).toNat*729+(eN m 2).toNat*81+(eN m 1).toNat*9+(eN m 0).toNat
theorem cmp4{a b:List Int}(ha:a.length<=4)(hb:b.length<=4):Qau a b=Qcw a b 4:=(Qjj (by omega)).symm
theorem Qam4{a b:List Int}(ha:a.length<=4)(hb:b.length<=4)(h:Qau a b<0):
  eN a 3<eN b 3∨(eN a 3=eN b 3/\(eN a 2<eN b 2∨(eN a 2=eN b 2/\(eN a 1<eN b 1∨(eN a 1=eN b 1/\eN a 0<eN b 0))))):=by
 rw[cmp4 ha hb]at h
 simp only[Qcw]at h
 have z3:=Qlh (x:=eN a 3) (y:=eN b 3)
 have z2:=Qlh (x:=eN a 2) (y:=eN b 2)
 have z1:=Qlh (x:=eN a 1) (y:=eN b 1)
 have z0:=Qlh (x:=eN a 0) (y:=eN b 0)
 by_cases e3:eN a 3=eN b 3
 ·rw[if_pos e3]at h
  refine .inr ⟨e3,?_⟩
  by_cases e2:eN a 2=eN b 2
  ·rw[if_pos e2]at h
   refine .inr ⟨e2,?_⟩
   by_cases e1:eN a 1=eN b 1
   ·rw[if_pos e1]at h
    refine .inr ⟨e1,?_⟩
    by_cases e0:eN a 0=eN b 0
    ·rw[if_pos e0]at h;omega
    ·rw[if_neg e0]at h;exact z0.1 h
   ·rw[if_neg e1]at h;exact .inl (z1.1 h)
  ·rw[if_neg e2]at h;exact .inl (z2.1 h)
 ·rw[if_neg e3]at h;exact .inl (z3.1 h)
def nW(W:Rat):List Tm->Rat
 | []=>0
 |t::p=>Qg1 t.1*W^psi t.2+nW W p
theorem Qvl{W:Rat}(h:0<=W):∀n:Nat,0<=W^n
 |0=>by rw[Rat.pow_zero];decide
 |n+1=>by rw[Rat.pow_succ];exact Rat.mul_nonneg (Qvl h n) h
theorem Qvm{W:Rat}(h:1<=W):∀n:Nat,1<=W^n
 |0=>by rw[Rat.pow_zero];decide
 |n+1=>by
  rw[Rat.pow_succ]
  have h1:=Qvm h n
  have:=Rat.mul_le_mul_of_nonneg_right h1 (show(0:Rat)<=W by grind)
  grind
theorem Qsz{W:Rat}(h:0<=W)(c:Rat)(m:List Int):0<=Qg1 c*W^psi m:=Rat.mul_nonneg (Qsy c) (Qvl h _)
theorem Qx7{W:Rat}(h:0<=W):∀p,0<=nW W p
 | []=>by simp only[nW];decide
 |t::p=>by
  have h1:=Qsz h t.1 t.2
  have h2:=Qx7 h p
  simp only[nW];grind
def Pos(p:List Tm):Prop:=∀t∈p,∀i,0<=eN t.2 i
def IsI(c:Rat):Prop:=∃z:Int,c=(z:Rat)
theorem IsI.add{a b:Rat}:IsI a->IsI b->IsI (a+b):=fun⟨x,hx⟩ ⟨y,hy⟩=>⟨x+y,by rw[hx,hy,Rat.intCast_add]⟩
theorem IsI.neg{a:Rat}:IsI a->IsI (-a):=fun⟨x,hx⟩=>⟨-x,by rw[hx,Rat.intCast_neg]⟩
def IW(D F:Rat)(N:Nat)(p:List Tm):Prop:=∀t∈p,psi t.2<=N/\IsI (t.1*(D*F^(N-psi t.2)))
theorem IW.cons{D F:Rat}{N:Nat}{t:Tm}{p:List Tm}:IW D F N (t::p)↔(psi t.2<=N/\IsI (t.1*(D*F^(N-psi t.2))))/\IW D F N p:=by simp[IW]
def c4(m:List Int):Nat:=(((eN m 3).toNat*81+(eN m 2).toNat)*729+(eN m 1).toNat)*6561+(eN m 0).toNat
theorem Qasw{a b:List Int}(ha:∀i,0<=eN a i)(hb:∀i,0<=eN b i)(la:a.length<=4)(lb:b.length<=4)(pa:psi a<=6560)(pb:psi b<=6560)(h:Qau a b<0):c4 a<c4 b:=by
 have a0:=ha 0;have a1:=ha 1;have a2:=ha 2;have a3:=ha 3
 have b0:=hb 0;have b1:=hb 1;have b2:=hb 2;have b3:=hb 3
 have:=Qam4 la lb h
 simp only[psi]at pa pb
 simp only[c4,Zo,Zg,Zm,Zc,Zf,Zl,Zh,Zs,Zi,Zb,Zk,Zn,Zu,Zq,Zr,Zz]
 omega
theorem Qasx{a:List Int}(pa:psi a<=6560):c4 a<2^32:=by
 simp only[psi]at pa
 simp only[c4,Zo,Zg,Zm,Zc,Zf,Zl,Zh,Zs,Zi,Zb,Zk,Zn,Zu,Zq,Zr,Zz]
 omega
structure ExI(D F W N0:Rat)(p:List Tm):Prop where
 i:IW D F 6560 p
 n:nW W p<=N0
 pos:Pos p
 ml:ML 4 p
 nrm:Nrm p
theorem Q66{p:List Tm}:(∀t∈p,psi t.2<=6560)->Pos p->ML 4 p->Qcu p->p≠[]->p.length<=c4 (hdT p).2+1:=by
 induction p with
 |nil=>intro _ _ _ _ h;exact absurd rfl h
 | cons t p ih=>
  intro hp hP hM hs _
  cases p with
  |nil=>simp
  |cons s p=>
   have h1:=ih (fun x hx=>hp x (by simp[hx])) (fun x hx=>hP x (by simp[hx])) (fun x hx=>hM x (by simp[hx])) hs.2 (by simp)
   have h2:=hs.1 s (by simp)
   have h3:=Qjk t.2 s.2
   have h4:=Qasw (hP s (by simp)) (hP t (by simp)) (hM s (by simp)) (hM t (by simp)) (hp s (by simp)) (hp t (by simp)) (by omega)
   simp only[hdT,List.headD_cons,List.length_cons]at h1⊢
   omega
theorem ExI.len{D F W N0:Rat}{p:List Tm}(h:ExI D F W N0 p):p.length<=2^32:=by
 by_cases h0:p=[]
 ·subst h0;simp
 ·have h1:=Q66 (fun t ht=>(h.i t ht).1) h.pos h.ml h.nrm.s h0
  have:=Qasx (h.i _ (Qam3 h0)).1
  omega
theorem Qaar{W:Rat}(h:1<=W):∀ {p:List Tm} {t:Tm},t∈p->Qg1 t.1<=nW W p
 | s::p,t,ht=>by
  have h0:(0:Rat)<=W:=by grind
  have h1:=Qx7 h0 p
  have h2:=Qsz h0 s.1 s.2
  simp only[nW]
  rcases List.mem_cons.1 ht with rfl|ht
  ·have h3:=Rat.mul_le_mul_of_nonneg_left (Qvm h (psi t.2)) (Qsy t.1)
   grind
  ·have:=Qaar h ht
   grind
theorem ExI.PB{d f w n0 L:Nat}{p:List Tm}(h:ExI d f w n0 p)(hd:0<d)(hf:0<f)(hw:0<w)(hn0:0<n0)(hL:nl (n0*(d*f^6560))<L):PB L 6560 p:=by
 intro t ht
 obtain⟨h1,z,hz⟩:=h.i t ht
 have hw1:(1:Rat)<=(w:Rat):=by
  rw[<-Rat.intCast_natCast,show(1:Rat)=((1:Int):Rat)from rfl,Rat.intCast_le_intCast];omega
 have hN:Qg1 t.1<=(n0:Rat):=by have:=Qaar hw1 ht;have:=h.n;grind
 have hX:(d:Rat)*(f:Rat)^(6560-psi t.2)=((d*f^(6560-psi t.2):Nat):Rat):=by
  rw[Rat.natCast_mul,Rat.natCast_pow]
 have hkey:∀N k:Nat,k<=N->d*f^k<=d*f^N:=fun N k h=>Nat.mul_le_mul_left _ (Nat.pow_le_pow_right hf h)
 have hXl:=hkey 6560 (6560-psi t.2) (Nat.sub_le _ _)
 have hX0:0<d*f^(6560-psi t.2):=Nat.mul_pos hd (Nat.pow_pos hf)
 rw[hX]at hz
 generalize d*f^(6560-psi t.2)=X at *
 generalize d*f^6560=Y at *
 have hXr:((X:Int):Rat)≠0:=by rw[Ne,Rat.intCast_eq_zero_iff];omega
 have e:t.1=(z:Rat)/((X:Int):Rat):=by rw[<-hz,Rat.intCast_natCast];rw[Rat.intCast_natCast]at hXr;grind
 have hzl:z.natAbs<=n0*Y:=by
  have h2:Qg1 (z:Rat)=Qg1 t.1*(X:Rat):=by
   rw[<-hz,Qag0];congr 1
   rw[<-Rat.intCast_natCast,Q1o,Int.natAbs_natCast,Rat.intCast_natCast]
  rw[Q1o]at h2
  have h3:(0:Rat)<=(X:Rat):=by rw[<-Rat.intCast_natCast,show(0:Rat)=((0:Int):Rat)from rfl,Rat.intCast_le_intCast];omega
  have h4:=Rat.mul_le_mul_of_nonneg_right hN h3
  rw[<-h2,<-Rat.natCast_mul,<-Rat.intCast_natCast,<-Rat.intCast_natCast,Rat.intCast_le_intCast]at h4
  have h5:=Nat.mul_le_mul_left n0 hXl
  omega
 have hr:=Qaaq z (X:Int) (by omega)
 rw[<-e,Int.natAbs_natCast]at hr
 have g1:=Qb6 hzl
 have g2:nl X<=nl (n0*Y):=by
  exact Qb6 (Nat.le_trans hXl (Nat.le_mul_of_pos_left _ hn0))
 have g3:1<=nl X:=by
  apply Decidable.byContradiction;intro hc
  have:=Qin.1 (show nl X=0 by omega)
  omega
 refine⟨by omega,⟨by have:=h.ml t ht;omega,fun x hx=> ?_,fun x hx=> ?_⟩,h.nrm.c t ht⟩
 all_goals
  obtain⟨i,hi,rfl⟩:=List.getElem_of_mem hx
  have hp:=h.pos t ht i
  rw[Qeb hi]at hp
 ·exact hp
 ·have hl:=h.ml t ht
  simp only[psi]at h1
  rw[<-Qeb hi]
  rw[<-Qeb hi]at hp
  have:i=0∨i=1∨i=2∨i=3:=by omega
  rcases this with rfl|rfl|rfl|rfl<;>omega
theorem Nrm.drop{p:List Tm}(h:Nrm p):∀k,Nrm (p.drop k)
 |0=>h
 |k+1=>by
  have:=Nrm.drop h k
  rw[<-List.drop_drop]
  cases hd:p.drop k with
  |nil=>simpa using Nrm.nil
  |cons t l=>rw[hd]at this;simpa using this.tail
theorem Q67{p:List Tm}(np:Nrm p){c:Rat}(hc:c≠0):Qc6 p c=p.map fun t=>(t.1*c,t.2):=by
 rw[Qc6,if_neg hc,Qao]
 induction p with
 |nil=>rfl
 | cons t p ih=>
  have hz:t.1*c≠0:=fun h=>by
   rcases Rat.mul_eq_zero.1 h with h|h
   ·exact np.z t (by simp) h
   ·exact hc h
  have ih':=ih np.tail
  rw[List.filterMap_cons,List.map_cons]
  simp only[if_neg hz]
  rw[ih',Qtd (np.c t (by simp))]
structure RSq where
 n:Bool
 a:List Nat
 d:List Nat
 p:List RTm
instance : Inhabited RSq := ⟨⟨false, [], [], []⟩⟩
abbrev PV.rsq(s:RSq):PV:= .agg [.bool s.n,PV.nat s.a,PV.nat s.d,PV.rpoly s.p]
abbrev Sq:=Rat×List Tm
abbrev PV.sq(x:Sq):PV:= .agg [.bool (decide (x.1.num<0)),PV.num x.1.num.natAbs,PV.num x.1.den,PV.poly x.2]
def RSq.sq(s:RSq):Sq:=(rv s.n s.a s.d,s.p.map RTm.tm)
def sqE(s:RSq):Int:=if Qeq s.n s.a s.d=true then(if Qc2 s.p=true then(if 0<rv s.n s.a s.d then 0 else 2)else 1)else 1
def Qgd:List RSq->Int
 | []=>0
 |s::l=>if sqE s=0 then Qgd l else sqE s
theorem Q3i{l:List RSq}{i:Nat}(h:i<l.length):Qgd (l.drop i)=if sqE l[i]=0 then Qgd (l.drop (i+1))else sqE l[i]:=by
 rw[List.drop_eq_getElem_cons h];rfl
theorem Qvn:∀ {l:List RSq},Qgd l=0->∀s∈l,sqE s=0
 | [],_,_,h=>by cases h
 | s::l,h,x,hx=>by
  unfold Qgd at h
  split at h
  ·rename_i h0
   rcases List.mem_cons.1 hx with rfl|hx
   ·exact h0
   ·exact Qvn h x hx
  ·rename_i h0;exact absurd h h0
def sqT(x:Sq):List Tm:=Qc6 (Qdu x.2 x.2) x.1
def Qfr(l:List Sq):List Tm:=l.foldl (fun o x=>Qak o (sqT x)) []
def Qhx:List Sq->List Tm->Option (List Tm)
 | [],o=>some o
 |x::l,o=>if Qoc (Qak o (sqT x))=true then none else Qhx l (Qak o (sqT x))
theorem Qkn{l:List Sq}{i:Nat}(h:i<l.length):Qfr (l.take (i+1))=Qak (Qfr (l.take i)) (sqT l[i]):=by
 unfold Qfr;rw[List.take_succ_eq_append_getElem h,List.foldl_append];rfl
theorem Q68{l:List Sq}{i:Nat}(o:List Tm)(h:i<l.length):Qhx (l.drop i) o=if Qoc (Qak o (sqT l[i]))=true then none else Qhx (l.drop (i+1)) (Qak o (sqT l[i])):=by
 rw[List.drop_eq_getElem_cons h];rfl
theorem Qvo:∀ {l:List Sq} {o r:List Tm},Qhx l o=some r->r=l.foldl (fun o x=>Qak o (sqT x)) o
 | [],o,r,h=>(Option.some.inj h).symm
 | x::l,o,r,h=>by
  unfold Qhx at h
  split at h
  ·cases h
  ·have:=Qvo h
   exact this
abbrev PV.pe2(r:List Tm×Int):PV:= .tup [PV.poly r.1,.int .i64 r.2]
def Q69:Option (List Tm)->List Tm×Int
 |some r=>(r,0)
 |none=>([],4)
def Qps(l:List RSq):List Tm×Int:=if Qgd l=0 then Q69 (Qhx (l.map RSq.sq) [])else([],Qgd l)
structure SqS(x:Sq):Prop where
 w:rs x.1<=2
 b:PB 3 1048576 x.2
 l:x.2.length<=6
 n:Nrm x.2
theorem Q1p{x:Sq}(h:SqS x):PB 40 2097152 (sqT x)/\(sqT x).length<=36/\Nrm (sqT x):=by
 have hw:=h.w
 have hl:=h.l
 have h1:=Qo4 h.b h.b
 have h2:=Qpl h.n.s h.n.s
 have h3:=Qqv (a:=x.1) (L:=3) h1.1 (by omega)
 have h4:=Qp4 (Qdu x.2 x.2) x.1
 have h5:=Nat.mul_le_mul hl hl
 exact⟨h3.mono (by omega) (by omega),by unfold sqT;omega,Q6p h2.s _⟩
theorem Qoe{l:List Sq}(h:∀x∈l,SqS x):∀i,i<=l.length->PB (40*i) 2097152 (Qfr (l.take i))/\(Qfr (l.take i)).length<=36*i/\Nrm (Qfr (l.take i))
 |0,_=>⟨by simp[Qfr,PB.nil],by simp[Qfr],by simp[Qfr,Nrm.nil]⟩
 |i+1,hi=>by
  obtain⟨h1,h2,h3⟩:=Qoe h i (by omega)
  obtain⟨g1,g2,g3⟩:=Q1p (h _ (List.getElem_mem (show i<l.length by omega)))
  rw[Qkn (by omega)]
  have:=Qnd (Qfr (l.take i)) (sqT l[i])
  exact⟨(Qrv _ _ h1 g1).mono (by omega) (by omega),by omega,Qtm h3 g3⟩
def shQ(a d:List Nat):Bool:=decide (a.length<=2)&&decide (d.length<=2)
def ltT(t:RTm):Bool:=decide (t.m.length<=70)&&shQ t.a t.d
def Qi3(p:List RTm):Bool:=decide (p.length<=20)&&p.all ltT
def Qjp(s:RSq):Bool:=shQ s.a s.d&&(decide (s.p.length<=6)&&Qi3 s.p)
def Qmd(l:List RSq):Bool:=decide (l.length<=5)&&l.all Qjp
end Go.FW
