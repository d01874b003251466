/- Part 7 of the proof of CertcheckPowers: G1, P8, U7, G2, U8, U10, G3, G4, G5, W1, W2, W3, W4, W5, W6, W7, W8, FwWF, FwNH, FwNI, FwNJ, FwWG. Own lemmas; no conditions. -/
import Derived.Test.YtdacdnoebgcjhaaGreatCertcheckPowersPart6
set_option linter.unusedSimpArgs false
set_option linter.unnecessarySimpa false
set_option linter.unusedVariables false
namespace Go.Proofs.YtdacdnoebgcjhaaGreat
open Go Go.FW
set_option linter.unusedSimpArgs false
set_option linter.unusedVariables false
set_option maxRecDepth 100000
def smK(t:RTm):Bool:=decide (t.m.length<=4)&&(decide (t.a.length<=2)&&(decide (t.d.length<=2)&&t.m.all fun x=>decide (x<=4)))
def Qgg(l:List RTm):Bool:=decide (l.length<=6)&&(l.all smK&&Qbc l)
theorem Qln{l:List RTm}{k:Nat}(hb:∀t∈l,RB k t)(hk1:1<=k)(hk:k<2^36)(hll:l.length<2^40):
  Qd Tryz.prog 13 [PV.rpoly l] (· = .bool (Qgg l)):=by
 have bad:∀i (h:i<l.length),smK l[i]=false->Qgg l=false:=fun i hi h=>by
  have:l.all smK=false:=by
   rw[List.all_eq_false];exact⟨_,List.getElem_mem hi,by simp[h]⟩
  simp[Qgg,this]
 refine Qf Ql Tryz.func13 rfl Qagm (by simp[c13]) fun C hP=> ?_;simp only[c13,Zo,Zg,Zm,Zc,Zf,Zl,Zh,Zs,Zi,Zb,Zk,Zn,Zu,Zq,Zr,Zz]
 simp+decide (disch:=first|exact D0|fail) only[go_sem,↓reduceIte]
 refine Qb (fun hn=> ?_) (fun hn=> ?_)
 ·simp+decide (disch:=first|exact D0|fail) only[go_sem,↓reduceIte]
  exact Qc (by simp[Qgg,show ¬l.length<=6 by omega]) rfl
 have hn':l.length<=6:=by omega
 simp+decide (disch:=first|exact D0|fail) only[go_sem,↓reduceIte]
 refine Qw (by repeat (first|exact Qu|exact Qn|exact Qo|exact Qp|exact Qq|apply Qm|apply Qt|apply Qy|apply Q5|apply Q6|apply Qk|apply Q2)) [(2,4),(8,60)] [] (fun m J hp=>∃i,m=l.length-i/\i<=l.length/\(∀j (h:j<l.length),j<i->smK l[j]=true)/\J 3= .int .i64 (i:Nat)) l.length ?_ ?_
 ·refine⟨0,rfl,by omega,by omega,?_⟩
  simp+decide (disch:=first|exact D0|fail) only[go_sem,↓reduceIte]
  rfl
 rintro _ J h ⟨i,rfl,hi,h1,h9⟩
 simp+decide (disch:=first|exact D1 h9|fail) only[go_sem,↓reduceIte,h9]
 refine Qb (fun hg=> ?_) (fun hg=> ?_)
 ·have hi':i<l.length:=by omega
  have hbt:=hb _ (List.getElem_mem hi')
  have hbad:=bad i hi'
  have hml:=hbt.l
  have hadd:smK l[i]=true->∀j (h:j<l.length),j<i+1->smK l[j]=true:=fun h j hj hji=>by
   by_cases e:j=i
   ·subst e;exact h
   ·exact h1 j hj (by omega)
  generalize hx:l[i]=x at *
  simp+decide (disch:=first|exact D2 h9 hx|fail) only[go_sem,↓reduceIte,h9,hx]
  refine Qv (fun h2=> ?_) (fun h2=> ?_)
  ·simp+decide (disch:=first|exact D2 h9 hx|fail) only[go_sem,↓reduceIte,h9,hx]
   exact Qc (by rw[hbad (by simp[smK,show ¬x.m.length<=4 by omega])]) rfl
  simp+decide (disch:=first|exact D2 h9 hx|fail) only[go_sem,↓reduceIte,h9,hx]
  refine Qv (fun h3=> ?_) (fun h3=> ?_)
  ·simp+decide (disch:=first|exact D2 h9 hx|fail) only[go_sem,↓reduceIte,h9,hx]
   exact Qc (by rw[hbad (by simp[smK,show ¬x.a.length<=2 by omega])]) rfl
  simp+decide (disch:=first|exact D2 h9 hx|fail) only[go_sem,↓reduceIte,h9,hx]
  refine Qb (fun h4=> ?_) (fun h4=> ?_)
  ·simp+decide (disch:=first|exact D2 h9 hx|fail) only[go_sem,↓reduceIte,h9,hx]
   exact Qc (by rw[hbad (by simp[smK,show ¬x.d.length<=2 by omega])]) rfl
  simp+decide (disch:=first|exact D2 h9 hx|fail) only[go_sem,↓reduceIte,h9,hx]
  refine Qw (by repeat (first|exact Qu|exact Qn|exact Qo|exact Qp|exact Qq|apply Qm|apply Qt|apply Qy|apply Q5|apply Q6|apply Qk|apply Q2)) [(2,2),(4,4),(42,60)] [] (fun m J hp=>∃j,m=x.m.length-j/\j<=x.m.length/\(∀y∈x.m.take j,y<=4)/\J 4= .int .i64 (j:Nat)) x.m.length ?_ ?_
  ·refine⟨0,rfl,by omega,by simp,?_⟩
   simp+decide (disch:=first|exact D0|fail) only[go_sem,↓reduceIte]
   rfl
  rintro _ J2 h2' ⟨j,rfl,hj,h5,h10⟩
  simp+decide (disch:=first|exact D3 h9 h10 hx|fail) only[go_sem,↓reduceIte,h9,h10,hx]
  refine Qb (fun hg2=> ?_) (fun hg2=> ?_)
  ·have hj':j<x.m.length:=by omega
   have hmem:=List.getElem_mem hj'
   have htk:x.m.take (j+1)=x.m.take j++[x.m[j]]:=List.take_succ_eq_append_getElem hj'
   generalize hy:x.m[j]=y at *
   simp+decide (disch:=first|exact D4 h9 h10 hx hy|fail) only[go_sem,↓reduceIte,h9,h10,hx,hy]
   refine Qb (fun h6=> ?_) (fun h6=> ?_)
   ·simp+decide (disch:=first|exact D3 h9 h10 hx|fail) only[go_sem,↓reduceIte,h9,h10,hx]
    refine Qc ?_ rfl
    rw[hbad]
    have:(x.m.all fun x=>decide (x<=4))=false:=by
     rw[List.all_eq_false];exact⟨y,hmem,by simp;omega⟩
    simp[smK,this]
   ·simp+decide (disch:=first|exact D3 h9 h10 hx|fail) only[go_sem,↓reduceIte,h9,h10,hx]
    refine Qh (x.m.length-(j+1)) (by omega) ⟨j+1,rfl,by omega,?_,?_⟩
    ·rw[htk]
     intro z hz
     rcases List.mem_append.1 hz with hz|hz
     ·exact h5 z hz
     ·simp at hz;omega
    ·simp+decide (disch:=first|exact D0|fail) only[go_sem,↓reduceIte]
  ·rw[List.take_of_length_le (by omega)]at h5
   have hsm:smK x=true:=by
    simp only[smK,Bool.and_eq_true,decide_eq_true_eq,List.all_eq_true]
    exact⟨by omega,by omega,by omega,h5⟩
   simp+decide (disch:=first|exact D2 h9 h10|fail) only[go_sem,↓reduceIte,h9,h10]
   simp (disch:=decide) only[Qbi,Qfy]
   refine Qh (l.length-(i+1)) (by omega) ⟨i+1,rfl,by omega,hadd hsm,?_⟩
   simp+decide (disch:=first|exact D0|fail) only[go_sem,↓reduceIte]
 ·obtain rfl:i=l.length:=by omega
  have hall:l.all smK=true:=by
   rw[List.all_eq_true]
   intro t ht
   obtain⟨j,hj,rfl⟩:=List.getElem_of_mem ht
   exact h1 j hj hj
  simp+decide (disch:=first|exact D0|fail) only[go_sem,↓reduceIte]
  refine Qa hP (Qju hb hk1 hk hll) rfl rfl rfl ?_
  simp+decide (disch:=first|exact D0|fail) only[go_sem,↓reduceIte]
  exact Qc (by simp[Qgg,hn',hall]) rfl
def Qk2(ls:List (List RTm)):Bool:=decide (ls.length<=4)&&ls.all Qgg
theorem Qlo{ls:List (List RTm)}{k:Nat}(hb:∀l∈ls,(∀t∈l,RB k t)/\l.length<2^40)(hk1:1<=k)(hk:k<2^36)(hll:ls.length<2^40):
  Qd Tryz.prog 33 [.sl 1 (ls.map PV.rpoly)] (· = .bool (Qk2 ls)):=by
 refine Qf Ql Tryz.func33 rfl Qagn (by simp[c33]) fun C hP=> ?_;simp only[c33,Zo,Zg,Zm,Zc,Zf,Zl,Zh,Zs,Zi,Zb,Zk,Zn,Zu,Zq,Zr,Zz]
 simp+decide (disch:=first|exact D0|fail) only[go_sem,↓reduceIte]
 refine Qb (fun hn=> ?_) (fun hn=> ?_)
 ·simp+decide (disch:=first|exact D0|fail) only[go_sem,↓reduceIte]
  exact Qc (by simp[Qk2,show ¬ls.length<=4 by omega]) rfl
 have hn':ls.length<=4:=by omega
 simp+decide (disch:=first|exact D0|fail) only[go_sem,↓reduceIte]
 refine Qw (by repeat (first|exact Qu|exact Qn|exact Qo|exact Qp|exact Qq|apply Qm|apply Qt|apply Qy|apply Q5|apply Q6|apply Qk|apply Q2)) [(2,3),(7,18)] [] (fun m J hp=>∃i,m=ls.length-i/\i<=ls.length/\(∀j (h:j<ls.length),j<i->Qgg ls[j]=true)/\J 3= .int .i64 (i:Nat)) ls.length ?_ ?_
 ·refine⟨0,rfl,by omega,by omega,?_⟩
  simp+decide (disch:=first|exact D0|fail) only[go_sem,↓reduceIte]
  rfl
 rintro _ J h ⟨i,rfl,hi,h1,h3⟩
 simp+decide (disch:=first|exact D1 h3|fail) only[go_sem,↓reduceIte,h3]
 refine Qb (fun hg=> ?_) (fun hg=> ?_)
 ·have hi':i<ls.length:=by omega
  have hbt:=hb _ (List.getElem_mem hi')
  have hmem:=List.getElem_mem hi'
  have hadd:Qgg ls[i]=true->∀j (h:j<ls.length),j<i+1->Qgg ls[j]=true:=fun h j hj hji=>by
   by_cases e:j=i
   ·subst e;exact h
   ·exact h1 j hj (by omega)
  generalize hx:ls[i]=x at *
  simp+decide (disch:=first|exact D2 h3 hx|fail) only[go_sem,↓reduceIte,h3,hx]
  refine Qa hP (Qln hbt.1 hk1 hk hbt.2) rfl rfl rfl ?_
  simp+decide (disch:=first|exact D1 h3|fail) only[go_sem,↓reduceIte,h3]
  cases hs:Qgg x
  ·simp+decide (disch:=first|exact D2 h3 hs|fail) only[go_sem,↓reduceIte,h3,hs]
   refine Qc ?_ rfl
   have:ls.all Qgg=false:=by
    rw[List.all_eq_false];exact⟨x,hmem,by simp[hs]⟩
   simp[Qk2,this]
  ·simp+decide (disch:=first|exact D2 h3 hs|fail) only[go_sem,↓reduceIte,h3,hs]
   refine Qh (ls.length-(i+1)) (by omega) ⟨i+1,rfl,by omega,hadd hs,?_⟩
   simp+decide (disch:=first|exact D0|fail) only[go_sem,↓reduceIte]
 ·obtain rfl:i=ls.length:=by omega
  simp+decide (disch:=first|exact D0|fail) only[go_sem,↓reduceIte]
  refine Qc ?_ rfl
  have:ls.all Qgg=true:=by
   rw[List.all_eq_true]
   intro t ht
   obtain⟨j,hj,rfl⟩:=List.getElem_of_mem ht
   exact h1 j hj hj
  simp[Qk2,this,hn']
structure Qb9 where
 fs:List (List RTm)
 ps:List Int
 n:Int
 cs:List (List RTm)
abbrev PV.rcert(c:Qb9):PV:= .agg [.sl 1 (c.fs.map PV.rpoly),PV.mono c.ps,.int .i64 c.n,.sl 1 (c.cs.map PV.rpoly)]
structure RC(k:Nat)(c:Qb9):Prop where
 f:∀l∈c.fs,(∀t∈l,RB k t)/\l.length<2^40
 g:∀l∈c.cs,(∀t∈l,RB k t)/\l.length<2^40
 fl:c.fs.length<2^40
 cl:c.cs.length<2^40
 pl:c.ps.length<2^40
def Qnz(c:Qb9):Bool:=Qk2 c.fs&&(Qk2 c.cs&&decide (c.ps.length<=6))
theorem Q1n{c:Qb9}{k:Nat}(hb:RC k c)(hk1:1<=k)(hk:k<2^36):Qd Tryz.prog 14 [PV.rcert c] (· = .bool (Qnz c)):=by
 have h1:=Qlo hb.f hk1 hk hb.fl
 have h2:=Qlo hb.g hk1 hk hb.cl
 have h3:=hb.pl
 refine Qf Ql Tryz.func14 rfl Qago (by simp[c14]) fun C hP=> ?_;simp only[c14,Zo,Zg,Zm,Zc,Zf,Zl,Zh,Zs,Zi,Zb,Zk,Zn,Zu,Zq,Zr,Zz]
 simp+decide (disch:=first|exact D0|fail) only[go_sem,↓reduceIte]
 refine Qa hP h1 rfl rfl rfl ?_
 cases e1:Qk2 c.fs
 ·simp+decide (disch:=first|exact D0|fail) only[go_sem,↓reduceIte]
  exact Qc (by simp[Qnz,e1]) rfl
 simp+decide (disch:=first|exact D0|fail) only[go_sem,↓reduceIte]
 refine Qa hP h2 rfl rfl rfl ?_
 cases e2:Qk2 c.cs
 ·simp+decide (disch:=first|exact D0|fail) only[go_sem,↓reduceIte]
  exact Qc (by simp[Qnz,e2]) rfl
 simp+decide (disch:=first|exact D0|fail) only[go_sem,↓reduceIte]
 exact Qc (by simp only[Qnz,e1,e2,Bool.true_and];exact congrArg PV.bool (decide_eq_decide.2 ⟨fun h=>by omega,fun h=>by omega⟩)) rfl
end Go.Proofs.YtdacdnoebgcjhaaGreat
namespace Go.Proofs.YtdacdnoebgcjhaaGreat
open Go Go.FW
set_option linter.unusedSimpArgs false
set_option linter.unusedVariables false
set_option maxRecDepth 100000
theorem Q4o{a:Rat}{k:Nat}(h:rs a<=k)(hk:k<2^36):Qd Tryz.prog 123 [PV.rat a] (· =PV.poly (Qbm a)):=by
 have:=Qxa (Qb5 h) hk
 rwa[Qct]at this
end Go.Proofs.YtdacdnoebgcjhaaGreat
namespace Go.Proofs.YtdacdnoebgcjhaaGreat
open Go Go.FW
set_option linter.unusedSimpArgs false
set_option linter.unusedVariables false
set_option maxRecDepth 100000
theorem Qpc{p:List Tm}{n:Bool}{a d:List Nat}{m:List Int}{K E k:Nat}(hp:PB K E p)(hs:Qb1 p)(hnz:NZ p)(hr:Raw k n a d)(hk:k<=2^32)(hm:MB E m)(hl:m.getLast? ≠some 0)(hK:K<=2^32)(hE:E<=2^38)(hlp:p.length<=2^36):
  Qd Tryz.prog 35 [PV.poly p,PV.rr n a d,PV.mono m] (· =PV.poly (Qg1 p (rv n a d) m)):=by
 have hrr:=hr.rs
 refine Qf Ql Tryz.func35 rfl Qae9 (by simp[c35]) fun C hP=> ?_;simp only[c35,Zo,Zg,Zm,Zc,Zf,Zl,Zh,Zs,Zi,Zb,Zk,Zn,Zu,Zq,Zr,Zz]
 simp+decide (disch:=first|exact D0|fail) only[go_sem,↓reduceIte]
 refine Qw (by repeat (first|exact Qu|exact Qn|exact Qo|exact Qp|exact Qq|apply Qm|apply Qt|apply Qy|apply Q5|apply Q6|apply Qk|apply Q2)) [(7,7),(12,26)] [] (fun k J hp=>k<=p.length/\(∀t∈p.drop k,Qah t.2 m<0)/\J 7= .int .i64 (k:Nat)/\hp 4=some ⟨3,50,[PV.rr n a d],false⟩) p.length ?_ ?_
 ·refine⟨by omega,by simp,?_⟩
  simp+decide (disch:=first|exact D0|fail) only[go_sem,↓reduceIte]
 rintro j J h ⟨hj,hd,h7,hh4⟩
 simp+decide (disch:=first|exact D1 h7|fail) only[go_sem,↓reduceIte,h7]
 refine Qan (fun hg=> ?_) (fun hg=> ?_)
 ·obtain⟨i,rfl⟩:∃i,j=i+1:=⟨j-1,by omega⟩
  have e:((i+1:Nat):Int)-1=i:=by omega
  have hi:i<p.length:=by omega
  have htp:=hp.get hi
  have hdr:p.drop i=p[i]::p.drop (i+1):=List.drop_eq_getElem_cons hi
  have htk:p.take (i+1)=p.take i++[p[i]]:=List.take_succ_eq_append_getElem hi
  have hts:=Qww hs hi
  have hall:p=p.take i++p[i]::p.drop (i+1):=by rw[<-hdr,List.take_append_drop]
  have c1:=htp.c
  generalize hx:p[i]=x at *
  simp+decide (disch:=first|exact D3 h7 e hx|fail) only[go_sem,↓reduceIte,h7,e,hx]
  refine Qa hP (Qnv htp.m hm (by omega)) rfl rfl rfl ?_
  simp+decide (disch:=first|exact D3 h7 e hx|fail) only[go_sem,↓reduceIte,h7,e,hx]
  refine Qb (fun hc=> ?_) (fun hc=> ?_)
  ·simp+decide (disch:=first|exact D3 h7 e hx|fail) only[go_sem,↓reduceIte,h7,e,hx]
   refine Qh i (by omega) ⟨by omega,?_,?_⟩
   ·rw[hdr]
    intro t ht
    rcases List.mem_cons.1 ht with rfl|ht
    ·exact hc
    ·exact hd t ht
   ·simp+decide (disch:=first|exact D1 hh4|fail) only[go_sem,↓reduceIte,hh4]
  ·simp+decide (disch:=first|exact D3 h7 e hx|fail) only[go_sem,↓reduceIte,h7,e,hx]
   refine Qan (fun _=> ?_) (fun h=>by omega)
   simp+decide (disch:=first|exact D3 h7 e hx|fail) only[go_sem,↓reduceIte,h7,e,hx]
   refine Qa hP (Qnv htp.m hm (by omega)) rfl rfl rfl ?_
   simp+decide (disch:=first|exact D3 h7 e hx|fail) only[go_sem,↓reduceIte,h7,e,hx]
   refine Qb (fun hc2=> ?_) (fun hc2=> ?_)
   ·have hxm:x.2=m:=(Qsi htp.l hl).1 hc2
    have hx0:=hnz _ (List.getElem_mem hi)
    rw[hx]at hx0
    have hfin:Qg1 p (rv n a d) m=p.take i++(if x.1+rv n a d=0 then []else [(x.1+rv n a d,m)])++p.drop (i+1):=by
     have hall':p=p.take i++(x.1,m)::p.drop (i+1):=by rw[<-hxm];exact hall
     rw[Qg1]
     split
     ·rename_i h0
      have e0:x.1+0=x.1:=Rat.add_zero _
      rw[h0,Qb3,e0,if_neg hx0]
      simpa using hall'
     ·conv=>lhs;rw[hall']
      exact Qzl (fun t ht=>by rw[<-hxm];exact hts t ht)
    have htl:(p.take i).length<=p.length:=List.length_take_le' _ _
    have hdl:(p.drop (i+1)).length<=p.length:=by rw[List.length_drop];omega
    have hra:=Qli x.1 (rv n a d)
    have hxr:=Qb5 (q:=x.1) (k:=2^32) (by omega)
    have hadd:=Qo5 (k:=2^32) hxr (show Raw (2^32) n a d from⟨hr.la,hr.ld,by have:=hr.sa;omega,by have:=hr.sd;omega,by omega⟩) (by omega)
    rw[Qct]at hadd
    simp+decide (disch:=first|exact D4 h7 e hx hh4|fail) only[go_sem,↓reduceIte,h7,e,hx,hh4]
    refine Qgf ?_ ?_
    all_goals
     simp+decide (disch:=first|exact D4 h7 e hx hh4|fail) only[go_sem,↓reduceIte,h7,e,hx,hh4]
     refine Qa hP hadd rfl rfl rfl ?_
     simp+decide (disch:=first|exact D4 h7 e hx hh4|fail) only[go_sem,↓reduceIte,h7,e,hx,hh4]
     refine Qa hP (Qnu (a:=x.1+rv n a d) (by omega)) rfl rfl rfl ?_
     simp+decide (disch:=first|exact D4 h7 e hx hh4|fail) only[go_sem,↓reduceIte,h7,e,hx,hh4]
     refine Qb (fun hz=> ?_) (fun hz=> ?_)
     ·rw[if_neg (fun h=>hz (Qaw.2 h))]at hfin
      simp+decide (disch:=first|exact D4 h7 e hx hh4|fail) only[go_sem,↓reduceIte,h7,e,hx,hh4]
      rw[Qai (f:=PV.term) (y:=(x.1+rv n a d,m)) (xs:=p.take i) (ty':=74) (fz:=false) T0 Tr0 (by omega) rfl (by omega) (by omega)]
      simp+decide (disch:=first|exact D4 h7 e hx hh4|fail) only[go_sem,↓reduceIte,h7,e,hx,hh4]
      rw[Qcd (f:=PV.term) (xs:=p.take i++[(x.1+rv n a d,m)]) (ys:=p.drop (i+1)) T0 (by simp<;>omega) (by omega) (by omega) (by omega)]
      simp+decide (disch:=first|exact E0|fail) only[go_sem,↓reduceIte,Qz,List.contains_cons,List.contains_nil,List.flatMap_cons,List.flatMap_nil,List.append_nil]
      refine Qc ?_ rfl
      rw[List.take_of_length_le (by simp<;>omega),hfin]
     ·rw[if_pos (Qaw.1 (Decidable.not_not.1 hz)),List.append_nil]at hfin
      simp+decide (disch:=first|exact D4 h7 e hx hh4|fail) only[go_sem,↓reduceIte,h7,e,hx,hh4]
      rw[Qcd (f:=PV.term) (xs:=p.take i) (ys:=p.drop (i+1)) T0 (by simp<;>omega) (by omega) (by omega) (by omega)]
      simp+decide (disch:=first|exact E0|fail) only[go_sem,↓reduceIte,Qz,List.contains_cons,List.contains_nil,List.flatMap_cons,List.flatMap_nil,List.append_nil]
      refine Qc ?_ rfl
      rw[List.take_of_length_le (by simp<;>omega),hfin]
   ·have hgt:Q7 p [(rv n a d,m)]=p.take (i+1)++(rv n a d,m)::p.drop (i+1):=by
     have:=Qsr (m:=m) (c:=rv n a d) (u:=p.take (i+1)) (v:=p.drop (i+1)) (fun t ht=>by
      rw[htk]at ht
      rcases List.mem_append.1 ht with ht|ht
      ·exact Qdw (hts t ht) (by omega)
      ·simp only[List.mem_singleton]at ht;subst ht;omega) hd
     rwa[List.take_append_drop]at this
    have htl:(p.take (i+1)).length<=p.length:=List.length_take_le' _ _
    have hdl:(p.drop (i+1)).length<=p.length:=by rw[List.length_drop];omega
    simp+decide (disch:=first|exact D2 h7 hh4|fail) only[go_sem,↓reduceIte,h7,hh4]
    refine Qa hP (Qg5 hr (by omega)) rfl rfl rfl ?_
    simp+decide (disch:=first|exact D2 h7 hh4|fail) only[go_sem,↓reduceIte,h7,hh4]
    refine Qb (fun hz=> ?_) (fun hz=> ?_)
    ·have hz':¬rv n a d=0:=fun h=>hz (Qaw.2 h)
     simp+decide (disch:=first|exact D2 h7 hh4|fail) only[go_sem,↓reduceIte,h7,hh4]
     refine Qa hP (Qdq hr (by omega)) rfl rfl rfl ?_
     simp+decide (disch:=first|exact D2 h7 hh4|fail) only[go_sem,↓reduceIte,h7,hh4]
     rw[Qai (f:=PV.term) (y:=(rv n a d,m)) (xs:=p.take (i+1)) (ty':=74) (fz:=false) T0 Tr0 (by omega) rfl (by omega) (by omega)]
     simp+decide (disch:=first|exact D2 h7 hh4|fail) only[go_sem,↓reduceIte,h7,hh4]
     rw[Qcd (f:=PV.term) (xs:=p.take (i+1)++[(rv n a d,m)]) (ys:=p.drop (i+1)) T0 (by simp<;>omega) (by omega) (by omega) (by omega)]
     simp+decide (disch:=first|exact E0|fail) only[go_sem,↓reduceIte,Qz,List.contains_cons,List.contains_nil,List.flatMap_cons,List.flatMap_nil,List.append_nil]
     refine Qc ?_ rfl
     rw[List.take_of_length_le (by simp<;>omega),Qg1,if_neg hz',hgt]
     simp
    ·have hz':rv n a d=0:=Qaw.1 (Decidable.not_not.1 hz)
     simp+decide (disch:=first|exact D2 h7 hh4|fail) only[go_sem,↓reduceIte,h7,hh4]
     rw[Qcd (f:=PV.term) (xs:=p.take (i+1)) (ys:=p.drop (i+1)) T0 (by simp<;>omega) (by omega) (by omega) (by omega)]
     simp+decide (disch:=first|exact E0|fail) only[go_sem,↓reduceIte,Qz,List.contains_cons,List.contains_nil,List.flatMap_cons,List.flatMap_nil,List.append_nil]
     refine Qc ?_ rfl
     rw[List.take_of_length_le (by simp<;>omega),Qg1,if_pos hz',Qb3,List.take_append_drop]
 ·obtain rfl:j=0:=by omega
  have hgt:Q7 p [(rv n a d,m)]=[]++(rv n a d,m)::p:=Qsr (m:=m) (c:=rv n a d) (u:=[]) (v:=p) (by simp) (by simpa using hd)
  simp+decide (disch:=first|exact D1 h7|fail) only[go_sem,↓reduceIte,h7]
  rw[Qx7 (by omega)]
  simp+decide (disch:=first|exact D2 h7 hh4|fail) only[go_sem,↓reduceIte,h7,hh4]
  refine Qa hP (Qg5 hr (by omega)) rfl rfl rfl ?_
  simp+decide (disch:=first|exact D2 h7 hh4|fail) only[go_sem,↓reduceIte,h7,hh4]
  refine Qb (fun hz=> ?_) (fun hz=> ?_)
  ·have hz':¬rv n a d=0:=fun h=>hz (Qaw.2 h)
   simp+decide (disch:=first|exact D2 h7 hh4|fail) only[go_sem,↓reduceIte,h7,hh4]
   refine Qa hP (Qdq hr (by omega)) rfl rfl rfl ?_
   simp+decide (disch:=first|exact D2 h7 hh4|fail) only[go_sem,↓reduceIte,h7,hh4]
   rw[Qai (f:=PV.term) (y:=(rv n a d,m)) (xs:=([]:List Tm)) (ty':=74) (fz:=false) T0 Tr0 (by omega) (n:=0) rfl (by omega) (by omega)]
   simp+decide (disch:=first|exact D2 h7 hh4|fail) only[go_sem,↓reduceIte,h7,hh4]
   rw[Qcd (f:=PV.term) (xs:=([]:List Tm)++[(rv n a d,m)]) (ys:=p) T0 (by simp<;>omega) (by omega) (by omega) (by omega)]
   simp+decide (disch:=first|exact E0|fail) only[go_sem,↓reduceIte,Qz,List.contains_cons,List.contains_nil,List.flatMap_cons,List.flatMap_nil,List.append_nil]
   refine Qc ?_ rfl
   rw[List.take_of_length_le (by simp<;>omega),Qg1,if_neg hz',hgt]
   simp
  ·have hz':rv n a d=0:=Qaw.1 (Decidable.not_not.1 hz)
   simp+decide (disch:=first|exact D2 h7 hh4|fail) only[go_sem,↓reduceIte,h7,hh4]
   rw[Qcd (f:=PV.term) (xs:=([]:List Tm)) (ys:=p) T0 (by simp<;>omega) (by omega) (by omega) (by omega)]
   simp+decide (disch:=first|exact E0|fail) only[go_sem,↓reduceIte,Qz,List.contains_cons,List.contains_nil,List.flatMap_cons,List.flatMap_nil,List.append_nil]
   refine Qc ?_ rfl
   rw[List.take_of_length_le (by simp<;>omega),Qg1,if_pos hz',Qb3]
end Go.Proofs.YtdacdnoebgcjhaaGreat
namespace Go.Proofs.YtdacdnoebgcjhaaGreat
open Go Go.FW
set_option linter.unusedSimpArgs false
set_option linter.unusedVariables false
set_option maxRecDepth 100000
theorem Qsy{a b c d:Nat}(h:a<=c)(h2:b<=d):a*b<=c*d:=Nat.mul_le_mul h h2
theorem Qn0{p q:List Tm}{n m:Nat}(hp:Prd m p)(hq:Sml q)(hn:n<=64)(hm:m<=512):Qd Tryz.prog 105 [PV.poly p,PV.poly q,.int .i64 n] (· =PV.pe (Qjv q p n)):=by
 have hql:=hq.l
 have bq:=hq.PB.mono (K':=2^18) (E':=2^17) (by omega) (by omega)
 refine Qf Ql Tryz.func105 rfl Qab7 (by simp[Q8q]) fun C hP=> ?_;simp only[Q8q,Zo,Zg,Zm,Zc,Zf,Zl,Zh,Zs,Zi,Zb,Zk,Zn,Zu,Zq,Zr,Zz]
 simp+decide (disch:=first|exact D0|fail) only[go_sem,↓reduceIte]
 refine Qw (by repeat (first|exact Qu|exact Qn|exact Qo|exact Qp|exact Qq|apply Qm|apply Qt|apply Qy|apply Q5|apply Q6|apply Qk|apply Q2)) [(0,0),(6,7),(9,17)] [] (fun r J hp=>∃k P,r=n-k/\k<=n/\Prd (m+k) P/\Qcw q (n-k) P=Qcw q n p/\J 0=PV.poly P/\J 9= .int .i64 (k:Nat)) n ?_ ?_
 ·refine⟨0,p,rfl,by omega,hp,rfl,?_⟩
  simp+decide (disch:=first|exact D0|fail) only[go_sem,↓reduceIte]
  rfl
 rintro _ J h ⟨k,P,rfl,hk,hP2,hgo,h0,h9⟩
 simp+decide (disch:=first|exact D1 h9|fail) only[go_sem,↓reduceIte,h9]
 refine Qb (fun hg=> ?_) (fun hg=> ?_)
 ·have hk':k<n:=by omega
  have bP:=hP2.PB (by omega)
  have lP:=hP2.l
  have hst:=Qxf (q:=q) (P:=P) hk'
  have m1:=Qsy lP hql
  have m2:min P.length q.length*(2^18+2^18)<=64*(2^18+2^18):=Nat.mul_le_mul_right _ (by omega)
  have hnx:=hP2.mul hq
  simp+decide (disch:=first|exact D2 h0 h9|fail) only[go_sem,↓reduceIte,h0,h9]
  refine Qa hP (Qrk bP bq (by omega) (by omega) (by omega) (by omega) (by omega) (by omega)) rfl rfl rfl ?_
  generalize Qbb P q=P' at *
  simp+decide (disch:=first|exact D2 h0 h9|fail) only[go_sem,↓reduceIte,h0,h9]
  refine Qb (fun hc=> ?_) (fun hc=> ?_)
  ·simp+decide (disch:=first|exact D0|fail) only[go_sem,↓reduceIte]
   refine Qdd (r:=PV.pe (Qjv q p n)) ?_ rfl rfl Qfm (Q8 _)
   unfold Qjv
   rw[<-hgo,hst,if_pos (by omega)];rfl
  ·simp+decide (disch:=first|exact D2 h0 h9|fail) only[go_sem,↓reduceIte,h0,h9]
   rw[if_neg (by omega)]at hst
   refine Qh (n-(k+1)) (by omega) ⟨k+1,P',rfl,by omega,hnx (by omega),by rw[<-hgo,hst],?_⟩
   simp+decide (disch:=first|exact D0|fail) only[go_sem,↓reduceIte]
 ·obtain rfl:k=n:=by omega
  simp+decide (disch:=first|exact D1 h0|fail) only[go_sem,↓reduceIte,h0]
  refine Qdd (r:=PV.pe (Qjv q p k)) ?_ rfl rfl (Q8 _) (Q8 _)
  unfold Qjv
  rw[<-hgo,Nat.sub_self];rfl
theorem Qsz{cs ls:List (List Tm)}(h1:∀c∈cs,Big c)(h2:∀c∈ls,Sml c)(hl:cs.length<=8)(hll:ls.length<2^40):Qd Tryz.prog 106 [PV.polys cs,PV.polys ls] (· =PV.pe (Qb8 cs ls)):=by
 refine Qf Ql Tryz.func106 rfl Qab8 (by simp[Q8r]) fun C hP=> ?_;simp only[Q8r,Zo,Zg,Zm,Zc,Zf,Zl,Zh,Zs,Zi,Zb,Zk,Zn,Zu,Zq,Zr,Zz]
 simp+decide (disch:=first|exact D0|fail) only[go_sem,↓reduceIte]
 refine Qb (fun hne=> ?_) (fun hne=> ?_)
 ·simp+decide (disch:=first|exact D0|fail) only[go_sem,↓reduceIte]
  refine Qdd (r:=PV.pe (Qb8 cs ls)) ?_ rfl rfl Qfm (Q8 _)
  unfold Qb8
  rw[if_neg (by omega)]
 have he:cs.length=ls.length:=by omega
 have hzl:(cs.zip ls).length=ls.length:=by rw[List.length_zip];omega
 have hcr:Qb8 cs ls=Qho (Qfp (cs.zip ls) []):=by unfold Qb8;rw[if_pos he]
 simp+decide (disch:=first|exact D0|fail) only[go_sem,↓reduceIte]
 refine Qi7 6 4 T0 ?_
 refine Qw (by repeat (first|exact Qu|exact Qn|exact Qo|exact Qp|exact Qq|apply Qm|apply Qt|apply Qy|apply Q5|apply Q6|apply Qk|apply Q2)) [(4,7),(15,32)] [] (fun r J hp=>∃i,r=ls.length-i/\i<=ls.length/\(Qcf (cs.zip ls) i).length<=4000/\Qfp ((cs.zip ls).drop i) (Qcf (cs.zip ls) i)=Qfp (cs.zip ls) []/\J 6=PV.poly (Qcf (cs.zip ls) i)/\J 15= .int .i64 (i:Nat)) ls.length ?_ ?_
 ·refine⟨0,rfl,by omega,by simp[Qcf],rfl,?_⟩
  simp+decide (disch:=first|exact D0|fail) only[go_sem,↓reduceIte]
  exact⟨rfl,rfl⟩
 rintro _ J h ⟨i,rfl,hi,hlen,hgo,h6,h15⟩
 simp+decide (disch:=first|exact D1 h15|fail) only[go_sem,↓reduceIte,h15]
 refine Qb (fun hg=> ?_) (fun hg=> ?_)
 ·have hi':i<ls.length:=by omega
  have hic:i<cs.length:=by omega
  have hst:=Qpa (l:=cs.zip ls) (i:=i) (by omega)
  have hs:=Qix (l:=cs.zip ls) (i:=i) (by omega)
  rw[Qacf he hic]at hs
  obtain⟨b1,n1⟩:=Qzv h1 h2 hl (i:=i) (by omega)
  have c1:=h1 _ (List.getElem_mem hic)
  have c2:=h2 _ (List.getElem_mem hi')
  have b2:=c1.PB
  have b3:=c2.PB.mono (K':=2^23) (E':=2^14) (by omega) (by omega)
  have l2:=c1.l
  have l3:=c2.l
  simp only at hs
  rw[<-hgo]
  have m1:=Qsy l2 l3
  have m2:min (cs[i]).length (ls[i]).length*(2^23+2^23)<=64*(2^23+2^23):=Nat.mul_le_mul_right _ (by omega)
  generalize hx:cs[i]=x at *
  generalize hy:ls[i]=y at *
  have bm:=Q0x b2 b3
  have bmin:min x.length y.length*(2^23+2^23)<=2^31:=by omega
  have b4:=bm.1.mono (K':=2^31) (E':=2^15) bmin (by omega)
  have l4:=bm.2
  have hmm:=Qrk b2 b3 (by omega) (by omega) (by omega) (by omega) (by omega) (by omega)
  generalize Qbb x y=z at *
  have b5:=b1.mono (K':=2^31) (E':=2^15) (by omega) (by omega)
  generalize hS:Qcf (cs.zip ls) i=s at *
  generalize hS':Qcf (cs.zip ls) (i+1)=s' at *
  simp+decide (disch:=first|exact D4 h6 h15 hx hy|fail) only[go_sem,↓reduceIte,h6,h15,hx,hy]
  refine Qa hP hmm rfl rfl rfl ?_
  simp+decide (disch:=first|exact D2 h6 h15|fail) only[go_sem,↓reduceIte,h6,h15]
  refine Qa hP (Qri b5 b4 (by omega) (by omega) (by omega) (by omega)) rfl rfl rfl ?_
  rw[<-hs]
  simp+decide (disch:=first|exact D2 h6 h15|fail) only[go_sem,↓reduceIte,h6,h15]
  refine Qb (fun hc=> ?_) (fun hc=> ?_)
  ·simp+decide (disch:=first|exact D0|fail) only[go_sem,↓reduceIte]
   refine Qdd (r:=PV.pe (Qb8 cs ls)) ?_ rfl rfl Qfm (Q8 _)
   rw[hcr,<-hgo,hst,if_pos (by omega)];rfl
  ·simp+decide (disch:=first|exact D2 h6 h15|fail) only[go_sem,↓reduceIte,h6,h15]
   rw[if_neg (by omega)]at hst
   refine Qh (ls.length-(i+1)) (by omega) ⟨i+1,rfl,by omega,?_⟩
   rw[hS']
   refine⟨by omega,by rw[<-hst,hgo],?_⟩
   simp+decide (disch:=first|exact D0|fail) only[go_sem,↓reduceIte]
 ·obtain rfl:i=ls.length:=by omega
  simp+decide (disch:=first|exact D1 h6|fail) only[go_sem,↓reduceIte,h6]
  refine Qdd (r:=PV.pe (Qb8 cs ls)) ?_ rfl rfl (Q8 _) (Q8 _)
  rw[hcr,<-hgo,List.drop_of_length_le (by omega)];rfl
theorem Qah4:Qd Tryz.prog 46 [.int .i64 1] (· =PV.rat 1):=Qkj (by omega) (by omega)
theorem Qs0{fs:List (List Tm)}{ps:List Int}(h1:∀c∈fs,Sml c)(hl:fs.length<=8)(hpl:ps.length<2^40):Qd Tryz.prog 104 [PV.polys fs,PV.mono ps] (· =PV.pe (Qdh fs ps)):=by
 have hone:=Qwh
 refine Qf Ql Tryz.func104 rfl Qab9 (by simp[Q8s]) fun C hP=> ?_;simp only[Q8s,Zo,Zg,Zm,Zc,Zf,Zl,Zh,Zs,Zi,Zb,Zk,Zn,Zu,Zq,Zr,Zz]
 simp+decide (disch:=first|exact D0|fail) only[go_sem,↓reduceIte]
 refine Qb (fun hne=> ?_) (fun hne=> ?_)
 ·simp+decide (disch:=first|exact D0|fail) only[go_sem,↓reduceIte]
  refine Qdd (r:=PV.pe (Qdh fs ps)) ?_ rfl rfl Qfm (Q8 _)
  unfold Qdh
  rw[if_neg (by omega)]
 have he:fs.length=ps.length:=by omega
 simp+decide (disch:=first|exact D0|fail) only[go_sem,↓reduceIte]
 refine Qw (by repeat (first|exact Qu|exact Qn|exact Qo|exact Qp|exact Qq|apply Qm|apply Qt|apply Qy|apply Q5|apply Q6|apply Qk|apply Q2)) [(4,5),(7,7),(19,29)] [] (fun r J hp=>∃i,r=ps.length-i/\i<=ps.length/\(∀j (hj:j<ps.length),j<i->0<=ps[j]/\ps[j]<=64)/\J 19= .int .i64 (i:Nat)) ps.length ?_ ?_
 ·refine⟨0,rfl,by omega,by omega,?_⟩
  simp+decide (disch:=first|exact D0|fail) only[go_sem,↓reduceIte]
  rfl
 rintro _ J h ⟨i,rfl,hi,hall,h19⟩
 simp+decide (disch:=first|exact D1 h19|fail) only[go_sem,↓reduceIte,h19]
 refine Qb (fun hg=> ?_) (fun hg=> ?_)
 ·have hi':i<ps.length:=by omega
  have hbad:=Q4k hi'
  have hadd:(0<=ps[i]/\ps[i]<=64)->∀j (hj:j<ps.length),j<i+1->0<=ps[j]/\ps[j]<=64:=fun h j hj hji=>by
   by_cases e:j=i
   ·subst e;exact h
   ·exact hall j hj (by omega)
  generalize hx:ps[i]=x at *
  simp+decide (disch:=first|exact D2 h19 hx|fail) only[go_sem,↓reduceIte,h19,hx]
  refine Qv (fun h6=> ?_) (fun h6=> ?_)
  ·simp+decide (disch:=first|exact D2 h19 hx|fail) only[go_sem,↓reduceIte,h19,hx]
   refine Qdd (r:=PV.pe (Qdh fs ps)) ?_ rfl rfl Qfm (Q8 _)
   rw[Qt5 he (hbad (by omega))]
  simp+decide (disch:=first|exact D2 h19 hx|fail) only[go_sem,↓reduceIte,h19,hx]
  refine Qb (fun h7=> ?_) (fun h7=> ?_)
  ·simp+decide (disch:=first|exact D2 h19 hx|fail) only[go_sem,↓reduceIte,h19,hx]
   refine Qdd (r:=PV.pe (Qdh fs ps)) ?_ rfl rfl Qfm (Q8 _)
   rw[Qt5 he (hbad (by omega))]
  simp+decide (disch:=first|exact D1 h19|fail) only[go_sem,↓reduceIte,h19]
  refine Qh (ps.length-(i+1)) (by omega) ⟨i+1,rfl,by omega,hadd (by omega),?_⟩
  simp+decide (disch:=first|exact D0|fail) only[go_sem,↓reduceIte]
 obtain rfl:i=ps.length:=by omega
 have hok:=Q4l fun j hj=>hall j hj hj
 have hpr:=Q8v he hok
 simp+decide (disch:=first|exact D0|fail) only[go_sem,↓reduceIte]
 refine Qa hP Qah4 rfl rfl rfl ?_
 simp+decide (disch:=first|exact D0|fail) only[go_sem,↓reduceIte]
 refine Qa hP (Q4o (k:=4) (by omega) (by omega)) rfl rfl rfl ?_
 simp+decide (disch:=first|exact D0|fail) only[go_sem,↓reduceIte]
 refine Qw (by repeat (first|exact Qu|exact Qn|exact Qo|exact Qp|exact Qq|apply Qm|apply Qt|apply Qy|apply Q5|apply Q6|apply Qk|apply Q2)) [(4,5),(8,11),(34,54)] [] (fun r J hp=>∃i m P,r=fs.length-i/\i<=fs.length/\m<=64*i/\Prd m P/\Qf1 ((Qim fs ps).drop i) P=Qf1 (Qim fs ps) (Qbm 1)/\J 8=PV.poly P/\J 34= .int .i64 (i:Nat)) fs.length ?_ ?_
 ·refine⟨0,0,_,rfl,by omega,by omega,Prd.one,rfl,?_⟩
  simp+decide (disch:=first|exact D0|fail) only[go_sem,↓reduceIte]
  rfl
 rintro _ J2 h2 ⟨i,m,P,rfl,hi,hm,hPr,hgo,h8,h34⟩
 simp+decide (disch:=first|exact D1 h34|fail) only[go_sem,↓reduceIte,h34]
 refine Qb (fun hg=> ?_) (fun hg=> ?_)
 ·have hi':i<fs.length:=by omega
  have hip:i<ps.length:=by omega
  have hpw:=Qt4 hok hip
  have hst:=Qyq (l:=Qim fs ps) (i:=i) (p:=P) (by rw[Qjw he];exact hi')
  rw[Qxg he hi']at hst
  have hsm:=h1 _ (List.getElem_mem hi')
  have hrk:=Qiy hsm (ps[i]).toNat m P
  simp only at hst
  obtain⟨n,hn⟩:∃n:Nat,ps[i]=n:=⟨(ps[i]).toNat,by omega⟩
  rw[hn,Int.toNat_natCast]at hst hrk
  have hn64:n<=64:=by omega
  have hcall:=Qn0 hPr hsm hn64 (by omega)
  generalize hx:fs[i]=x at *
  simp+decide (disch:=first|exact D4 h34 h8 hx hn|fail) only[go_sem,↓reduceIte,h34,h8,hx,hn]
  refine Qa hP hcall rfl rfl rfl ?_
  unfold Qjv
  cases hr:Qcw x n P with
  |none=>
   rw[hr]at hst
   simp+decide (disch:=first|omega|rfl|(simp+decide only[go_sem,↓reduceIte,h34,Qho]<;>rfl)|fail) only[go_sem,↓reduceIte,h34,Qho]
   refine Qdd (r:=PV.pe (Qdh fs ps)) ?_ rfl rfl Qfm (Q8 _)
   rw[hpr,<-hgo,hst];rfl
  |some P'=>
   rw[hr]at hst
   simp+decide (disch:=first|omega|rfl|(simp+decide only[go_sem,↓reduceIte,h34,Qho]<;>rfl)|fail) only[go_sem,↓reduceIte,h34,Qho]
   refine Qh (fs.length-(i+1)) (by omega) ⟨i+1,m+n,P',rfl,by omega,by omega,hrk P' hPr hr,by rw[<-hgo,hst];rfl,?_⟩
   simp+decide (disch:=first|exact D0|fail) only[go_sem,↓reduceIte]
 ·obtain rfl:i=fs.length:=by omega
  simp+decide (disch:=first|exact D1 h8|fail) only[go_sem,↓reduceIte,h8]
  refine Qdd (r:=PV.pe (Qdh fs ps)) ?_ rfl rfl (Q8 _) (Q8 _)
  rw[hpr,<-hgo,List.drop_of_length_le (by rw[Qjw he];omega)];rfl
end Go.Proofs.YtdacdnoebgcjhaaGreat
namespace Go.Proofs.YtdacdnoebgcjhaaGreat
open Go Go.FW
set_option linter.unusedSimpArgs false
set_option linter.unusedVariables false
set_option maxRecDepth 100000
theorem Quq{n:Bool}{a d:List Nat}{k:Nat}(hr:Raw k n a d)(hk:k<=2^32):Qd Tryz.prog 21 [PV.rr n a d] (· =PV.poly (Qbm (rv n a d))):=by
 have hadd:=(Qpc (p:=[]) (m:=[]) (K:=1) (E:=1) (PB.nil _ _) trivial (by simp[NZ]) hr hk ⟨by simp,by simp,by simp⟩ (by simp) (by omega) (by omega) (by simp)).le (args':=[.nilS,PV.rr n a d,.nilS]) ⟨trivial,Q8 _,trivial,trivial⟩
 have e:Qg1 [] (rv n a d) []=Qbm (rv n a d):=by rw[Qg1,Qep];rfl
 rw[e]at hadd
 refine Qf Ql Tryz.func21 rfl Qae4 (by simp[c21]) fun C hP=> ?_;simp only[c21,Zo,Zg,Zm,Zc,Zf,Zl,Zh,Zs,Zi,Zb,Zk,Zn,Zu,Zq,Zr,Zz]
 simp+decide (disch:=first|exact D0|fail) only[go_sem,↓reduceIte]
 refine Qa hP hadd rfl rfl rfl ?_
 simp+decide (disch:=first|exact D0|fail) only[go_sem,↓reduceIte]
 exact Qc rfl rfl
end Go.Proofs.YtdacdnoebgcjhaaGreat
namespace Go.Proofs.YtdacdnoebgcjhaaGreat
open Go Go.FW
set_option linter.unusedSimpArgs false
set_option linter.unusedVariables false
set_option maxRecDepth 100000
theorem Q1o{a:Rat}{k:Nat}(h:rs a<=k)(hk:k<=2^32):Qd Tryz.prog 21 [PV.rat a] (· =PV.poly (Qbm a)):=by
 have:=Quq (Qb5 h) hk
 rwa[Qct]at this
end Go.Proofs.YtdacdnoebgcjhaaGreat
namespace Go.Proofs.YtdacdnoebgcjhaaGreat
open Go Go.FW
set_option linter.unusedSimpArgs false
set_option linter.unusedVariables false
set_option maxRecDepth 100000
theorem Qah5{m:Nat}{P q:List Tm}(hPr:Prd m P)(hq:Sml q)(hm:m<=1024):Qd Tryz.prog 18 [PV.poly P,PV.poly q] (· =PV.poly (Qbb P q)):=by
 have hql:=hq.l
 have bq:=hq.PB.mono (K':=2^18) (E':=2^17) (by omega) (by omega)
 have bP:=hPr.PB hm
 have lP:=hPr.l
 have m1:=Qsy hql lP
 have:=Qym bP bq hPr.n.z hq.n.z (by omega) (by omega) (by omega) (by omega) (by omega)
 rwa[Q7w hPr.n hq.n]at this
end Go.Proofs.YtdacdnoebgcjhaaGreat
namespace Go.Proofs.YtdacdnoebgcjhaaGreat
open Go Go.FW
set_option linter.unusedSimpArgs false
set_option linter.unusedVariables false
set_option maxRecDepth 100000
theorem Q8y{fs:List (List Tm)}{ps:List Int}{n:Int}{cs hs:List (List Tm)}{g P:List Tm}{e:Int}(h:Qdh fs ps=(P,e)):Qrq fs ps n cs hs g=if e=0 then
  if fs.any List.isEmpty then 3
  else if n<1∨64<n then 2
  else if cs.length=hs.length then
   match Qcw g n.toNat P with
   |none=>4
   |some l=>if(Qb8 cs hs).2=0 then(if l=(Qb8 cs hs).1 then 0 else 17)else(Qb8 cs hs).2
  else 16
 else e:=by unfold Qrq;rw[h];rfl
theorem Qach{fs:List (List Tm)}{i:Nat}(h:i<fs.length)(h0:fs[i].length=0):fs.any List.isEmpty=true:=by
 rw[List.any_eq_true]
 exact⟨_,List.getElem_mem h,by rw[List.length_eq_zero_iff.1 h0];rfl⟩
theorem Qagt{fs:List (List Tm)}(h:∀j (hj:j<fs.length),fs[j].length≠0):fs.any List.isEmpty=false:=by
 rw[List.any_eq_false]
 intro x hx
 obtain⟨j,hj,rfl⟩:=List.getElem_of_mem hx
 intro e
 exact h j hj (by rw[List.isEmpty_iff.1 e];rfl)
theorem Qxh{fs:List (List Tm)}{ps:List Int}{n:Int}{cs hs:List (List Tm)}{g:List Tm}(hf:∀c∈fs,Sml c)(hfl:fs.length<=8)(hpl:ps.length<2^40)(hc:∀c∈cs,Big c)(hcl:cs.length<=8)(hh:∀c∈hs,Sml c)(hhl:hs.length<2^40)(hg:Sml g):
  Qd Tryz.prog 78 [PV.cert fs ps n cs,PV.polys hs,PV.poly g] (· = .int .i64 (Qrq fs ps n cs hs g)):=by
 have c1:=Qs0 hf hfl hpl
 have c2:=Qsz hc hh hcl hhl
 obtain⟨b1,_,l1⟩:=Q8x hc hh hcl
 obtain⟨⟨P,e⟩,hR⟩:∃r,r=Qdh fs ps:=⟨_,rfl⟩
 have hck:=Q8y (n:=n) (cs:=cs) (hs:=hs) (g:=g) hR.symm
 have hPr:=Q4n (ps:=ps) hf hfl
 rw[<-hR]at hPr
 rw[<-hR]at c1
 obtain⟨⟨s,e2⟩,hC⟩:∃r,r=Qb8 cs hs:=⟨_,rfl⟩
 rw[<-hC]at c2 hck b1 l1
 simp only at c1 c2 hck hPr b1 l1
 refine Qf Ql Tryz.func78 rfl Qagp (by simp[c78]) fun C hP=> ?_;simp only[c78,Zo,Zg,Zm,Zc,Zf,Zl,Zh,Zs,Zi,Zb,Zk,Zn,Zu,Zq,Zr,Zz]
 simp+decide (disch:=first|exact D0|fail) only[go_sem,↓reduceIte]
 refine Qa hP c1 rfl rfl rfl ?_
 simp+decide (disch:=first|exact D0|fail) only[go_sem,↓reduceIte]
 refine Qb (fun h1=> ?_) (fun h1=> ?_)
 ·simp+decide (disch:=first|exact D0|fail) only[go_sem,↓reduceIte]
  exact Qc (congrArg (PV.int .i64) (by rw[hck,if_neg (by omega)])) rfl
 obtain rfl:e=0:=by omega
 obtain⟨m,hm,hPm⟩:=hPr rfl
 rw[if_pos rfl]at hck
 simp+decide (disch:=first|exact D0|fail) only[go_sem,↓reduceIte]
 refine Qw (by repeat (first|exact Qu|exact Qn|exact Qo|exact Qp|exact Qq|apply Qm|apply Qt|apply Qy|apply Q5|apply Q6|apply Qk|apply Q2)) [(6,6),(10,10),(26,33)] [] (fun r J hp=>∃i,r=fs.length-i/\i<=fs.length/\(∀j (hj:j<fs.length),j<i->fs[j].length≠0)/\J 26= .int .i64 (i:Nat)/\hp 3=some ⟨4,39,[PV.cert fs ps n cs],false⟩) fs.length ?_ ?_
 ·refine⟨0,rfl,by omega,by omega,?_⟩
  simp+decide (disch:=first|exact D0|fail) only[go_sem,↓reduceIte]
  rfl
 rintro _ J h ⟨i,rfl,hi,hall,h26,hb⟩
 simp+decide (disch:=first|exact D1 h26|fail) only[go_sem,↓reduceIte,h26]
 refine Qb (fun hg2=> ?_) (fun hg2=> ?_)
 ·have hi':i<fs.length:=by omega
  have hany:=Qach hi'
  have hadd:fs[i].length≠0->∀j (hj:j<fs.length),j<i+1->fs[j].length≠0:=fun h j hj hji=>by
   by_cases e:j=i
   ·subst e;exact h
   ·exact hall j hj (by omega)
  generalize hx:fs[i]=x at *
  simp+decide (disch:=first|exact D2 h26 hx|fail) only[go_sem,↓reduceIte,h26,hx]
  refine Qb (fun h0=> ?_) (fun h0=> ?_)
  ·simp+decide (disch:=first|exact D0|fail) only[go_sem,↓reduceIte]
   exact Qc (congrArg (PV.int .i64) (by rw[hck,hany (by omega)];rfl)) rfl
  simp+decide (disch:=first|exact D1 h26|fail) only[go_sem,↓reduceIte,h26]
  refine Qh (fs.length-(i+1)) (by omega) ⟨i+1,rfl,by omega,hadd (by omega),?_⟩
  simp+decide (disch:=first|exact D1 hb|fail) only[go_sem,↓reduceIte,hb]
 obtain rfl:i=fs.length:=by omega
 rw[Qagt fun j hj=>hall j hj hj]at hck
 simp only[Bool.false_eq_true,if_false]at hck
 simp+decide (disch:=first|exact D1 hb|fail) only[go_sem,↓reduceIte,hb]
 refine Qv (fun h2=> ?_) (fun h2=> ?_)
 ·simp+decide (disch:=first|exact D1 hb|fail) only[go_sem,↓reduceIte,hb]
  exact Qc (congrArg (PV.int .i64) (by rw[hck,if_pos (by omega)])) rfl
 simp+decide (disch:=first|exact D1 hb|fail) only[go_sem,↓reduceIte,hb]
 refine Qb (fun h3=> ?_) (fun h3=> ?_)
 ·simp+decide (disch:=first|exact D1 hb|fail) only[go_sem,↓reduceIte,hb]
  exact Qc (congrArg (PV.int .i64) (by rw[hck,if_pos (by omega)])) rfl
 rw[if_neg (by omega)]at hck
 obtain⟨k,rfl⟩:∃k:Nat,n=k:=⟨n.toNat,by omega⟩
 rw[Int.toNat_natCast]at hck
 simp+decide (disch:=first|exact D1 hb|fail) only[go_sem,↓reduceIte,hb]
 refine Qb (fun h4=> ?_) (fun h4=> ?_)
 ·simp+decide (disch:=first|exact D1 hb|fail) only[go_sem,↓reduceIte,hb]
  exact Qc (congrArg (PV.int .i64) (by rw[hck,if_neg (by omega)])) rfl
 rw[if_pos (by omega)]at hck
 have c3:=Qn0 hPm hg (n:=k) (by omega) hm
 have hrk:=Qiy hg k m P
 simp+decide (disch:=first|exact D1 hb|fail) only[go_sem,↓reduceIte,hb]
 refine Qa hP c3 rfl rfl rfl ?_
 unfold Qjv
 cases hr:Qcw g k P with
 |none=>
  rw[hr]at hck
  simp+decide (disch:=first|omega|rfl|(simp+decide only[go_sem,↓reduceIte,hb,Qho]<;>rfl)|fail) only[go_sem,↓reduceIte,hb,Qho]
  exact Qc (congrArg (PV.int .i64) hck.symm) rfl
 | some L=>
  have hL:=hrk L hPm hr
  rw[hr]at hck
  simp only at hck
  have bL:=(hL.PB (by omega)).mono (K':=268435456) (E':=131072) (by omega) (by omega)
  have lL:=hL.l
  have b2:=b1.mono (K':=268435456) (E':=131072) (by omega) (by omega)
  simp+decide (disch:=first|omega|rfl|(simp+decide only[go_sem,↓reduceIte,hb,Qho]<;>rfl)|fail) only[go_sem,↓reduceIte,hb,Qho]
  refine Qa hP c2 rfl rfl rfl ?_
  simp+decide (disch:=first|exact D1 hb|fail) only[go_sem,↓reduceIte,hb]
  refine Qb (fun h5=> ?_) (fun h5=> ?_)
  ·simp+decide (disch:=first|exact D1 hb|fail) only[go_sem,↓reduceIte,hb]
   exact Qc (congrArg (PV.int .i64) (by rw[hck,if_neg (by omega)])) rfl
  rw[if_pos (by omega)]at hck
  simp+decide (disch:=first|exact D1 hb|fail) only[go_sem,↓reduceIte,hb]
  refine Qa hP (Qjt bL b2 (by omega) (by omega) (by omega) (by omega)) rfl rfl rfl ?_
  by_cases hq:L=s
  ·rw[if_pos hq]at hck
   simp+decide (disch:=first|exact D1 hq|fail) only[go_sem,↓reduceIte,hq]
   exact Qc (congrArg (PV.int .i64) hck.symm) rfl
  ·rw[if_neg hq]at hck
   simp+decide (disch:=first|exact D1 hq|fail) only[go_sem,↓reduceIte,hq]
   exact Qc (congrArg (PV.int .i64) hck.symm) rfl
end Go.Proofs.YtdacdnoebgcjhaaGreat
namespace Go.Proofs.YtdacdnoebgcjhaaGreat
open Go Go.FW
set_option linter.unusedSimpArgs false
set_option linter.unusedVariables false
set_option maxRecDepth 100000
def Q8z(l:List (List Tm)):Prop:=(∀p∈l,PB 1073741824 1048576 p/\p.length<=8589934592)/\l.length<2^40
theorem Qxi{α:Type}{a b:List α}(h:a.length=b.length)(h2:∀j (h1:j<a.length) (h2:j<b.length),a[j]=b[j]):a=b:=List.ext_getElem h h2
theorem Qaci{α:Type}{a b:List α}{j:Nat}(h1:j<a.length)(h2:j<b.length)(h:a[j]≠b[j]):a≠b:=fun e=>h (by subst e;rfl)
theorem Qzw{α:Type}{a b:List α}(h:¬a.length=b.length):a≠b:=fun e=>h (by rw[e])
theorem Q1p{a b:List (List Tm)}(ha:Q8z a)(hb:Q8z b):Qd Tryz.prog 10 [PV.polys a,PV.polys b] (· = .bool (decide (a=b))):=by
 have la:=ha.2
 have lb:=hb.2
 refine Qf Ql Tryz.func10 rfl Qagq (by simp[c10]) fun C hP=> ?_;simp only[c10,Zo,Zg,Zm,Zc,Zf,Zl,Zh,Zs,Zi,Zb,Zk,Zn,Zu,Zq,Zr,Zz]
 simp+decide (disch:=first|exact D0|fail) only[go_sem,↓reduceIte]
 refine Qw (by repeat (first|exact Qu|exact Qn|exact Qo|exact Qp|exact Qq|apply Qm|apply Qt|apply Qy|apply Q5|apply Q6|apply Qk|apply Q2)) [(4,27)] [] (fun m J hp=>∃i,m=a.length-i/\i<=a.length/\i<=b.length/\(∀j (h1:j<a.length) (h2:j<b.length),j<i->a[j]=b[j])/\J 5= .int .i64 (i:Nat)) a.length ?_ ?_
 ·refine⟨0,rfl,by omega,by omega,by omega,?_⟩
  simp+decide (disch:=first|exact D0|fail) only[go_sem,↓reduceIte]
  rfl
 rintro _ J h ⟨i,rfl,hi,hib0,h1,h5⟩
 simp+decide (disch:=first|exact D1 h5|fail) only[go_sem,↓reduceIte,h5]
 refine Qan (fun hg=> ?_) (fun hg=> ?_)
 ·have hi':i<a.length:=by omega
  simp+decide (disch:=first|exact D1 h5|fail) only[go_sem,↓reduceIte,h5]
  refine Qb (fun hg2=> ?_) (fun hg2=> ?_)
  ·have hib1:i<b.length:=by omega
   have hib:i<b.length:=by omega
   obtain⟨g1,g2⟩:=ha.1 _ (List.getElem_mem hi')
   obtain⟨g3,g4⟩:=hb.1 _ (List.getElem_mem hib)
   have hne:=Qaci hi' hib
   have hadd:a[i]=b[i]->∀j (h1:j<a.length) (h2:j<b.length),j<i+1->a[j]=b[j]:=fun h j hj hj2 hji=>by
    by_cases e:j=i
    ·subst e;exact h
    ·exact h1 j hj hj2 (by omega)
   generalize hx:a[i]=x at *
   generalize hy:b[i]=y at *
   simp+decide (disch:=first|exact D3 h5 hx hy|fail) only[go_sem,↓reduceIte,h5,hx,hy]
   refine Qa hP (Qum g1 g3 (by omega) (by omega) (by omega) (by omega)) rfl rfl rfl ?_
   by_cases e:x=y
   ·simp+decide (disch:=first|exact D2 h5 e|fail) only[go_sem,↓reduceIte,h5,e]
    refine Qh (a.length-(i+1)) (by omega) ⟨i+1,rfl,by omega,by omega,hadd e,?_⟩
    simp+decide (disch:=first|exact D0|fail) only[go_sem,↓reduceIte]
   ·simp+decide (disch:=first|exact D2 h5 e|fail) only[go_sem,↓reduceIte,h5,e]
    exact Qc (by rw[decide_eq_false (hne e)]) rfl
  ·
   simp+decide (disch:=first|exact D1 h5|fail) only[go_sem,↓reduceIte,h5]
   refine Qc ?_ rfl
   by_cases e:a.length=b.length
   ·rw[decide_eq_true (Qxi e fun j g1 g2=>h1 j g1 g2 (by omega)),decide_eq_true (by omega)]
   ·rw[decide_eq_false (Qzw e),decide_eq_false (by omega)]
 ·
  simp+decide (disch:=first|exact D1 h5|fail) only[go_sem,↓reduceIte,h5]
  refine Qc ?_ rfl
  by_cases e:a.length=b.length
  ·rw[decide_eq_true (Qxi e fun j g1 g2=>h1 j g1 g2 (by omega)),decide_eq_true (by omega)]
  ·rw[decide_eq_false (Qzw e),decide_eq_false (by omega)]
end Go.Proofs.YtdacdnoebgcjhaaGreat
namespace Go.Proofs.YtdacdnoebgcjhaaGreat
open Go Go.FW
set_option linter.unusedSimpArgs false
set_option linter.unusedVariables false
set_option maxRecDepth 100000
end Go.Proofs.YtdacdnoebgcjhaaGreat
namespace Go.Proofs.YtdacdnoebgcjhaaGreat
open Go Go.FW
set_option linter.unusedSimpArgs false
set_option linter.unusedVariables false
set_option maxRecDepth 100000
theorem Q80(v:Nat)(n:Int)(h:n=((n.toNat:Nat):Int)):(List.replicate (v+1) (0:Int)).set v n=Qg2 v n.toNat:=by
 unfold Qg2
 rw[<-h]
 induction v with
 |zero=>rfl
 |succ v ih=>rw[List.replicate_succ,List.set_cons_succ,ih];rfl
end Go.Proofs.YtdacdnoebgcjhaaGreat
namespace Go.Proofs.YtdacdnoebgcjhaaGreat
open Go Go.FW
set_option linter.unusedSimpArgs false
set_option linter.unusedVariables false
set_option maxRecDepth 100000
end Go.Proofs.YtdacdnoebgcjhaaGreat
namespace Go.Proofs.YtdacdnoebgcjhaaGreat
open Go Go.FW
set_option linter.unusedSimpArgs false
set_option linter.unusedVariables false
set_option maxRecDepth 100000
end Go.Proofs.YtdacdnoebgcjhaaGreat
namespace Go.Proofs.YtdacdnoebgcjhaaGreat
open Go Go.FW
set_option linter.unusedSimpArgs false
set_option linter.unusedVariables false
set_option maxRecDepth 100000
end Go.Proofs.YtdacdnoebgcjhaaGreat
namespace Go.Proofs.YtdacdnoebgcjhaaGreat
open Go Go.FW
set_option linter.unusedSimpArgs false
set_option linter.unusedVariables false
set_option maxRecDepth 100000
theorem Q4p{x y:Int}(hx:nl x.natAbs<2^38)(hy:nl y.natAbs<2^38)(h0:y≠0):Qd Tryz.prog 73 [PV.zz x,PV.zz y] (· = .tup [PV.rat ((x:Rat)/(y:Rat)),.int .i64 0]):=by
 have hv:=Qrl x y h0
 have hr:=Qno (n:=decide (x<0) !=decide (y<0)) (a:=dig x.natAbs) (d:=dig y.natAbs) (Qj _) (Qj _) hx hy
 rw[rv,Q3,hv]at hr
 have hs:=Qhy (n:=decide (y<0)) (a:=dig y.natAbs) (Qj _) (by show nl _<_;omega)
 rw[Qeo]at hs
 generalize(x:Rat)/(y:Rat)=Q at *
 refine Qf Ql Tryz.func73 rfl Qael (by simp[c73]) fun C hP=> ?_;simp only[c73,Zo,Zg,Zm,Zc,Zf,Zl,Zh,Zs,Zi,Zb,Zk,Zn,Zu,Zq,Zr,Zz]
 simp+decide (disch:=first|exact D0|fail) only[go_sem,↓reduceIte]
 refine Qa hP hs rfl rfl rfl ?_
 simp+decide (disch:=first|exact D0|fail) only[go_sem,↓reduceIte]
 refine Qb (fun h=>absurd (Qv9.1 h) h0) (fun _=> ?_)
 simp+decide (disch:=first|exact D0|fail) only[go_sem,↓reduceIte]
 refine Qa hP hr rfl rfl rfl ?_
 simp+decide (disch:=first|exact D0|fail) only[go_sem,↓reduceIte]
 refine Ql6 ?_
 simp+decide (disch:=first|exact D0|fail) only[go_sem,↓reduceIte]
 exact Qdd rfl rfl rfl (Q8 _) (Q8 _)
theorem Q4q{n m:Bool}{a d b c:List Nat}{k:Nat}(hp:Raw k n a d)(hq:Raw k m b c)(hk:k<2^34)(h0:rv m b c≠0):Qd Tryz.prog 42 [PV.rr n a d,PV.rr m b c] (· = .tup [PV.rat (rv n a d/rv m b c),.int .i64 0]):=by
 refine Qf Ql Tryz.func42 rfl Qaem (by simp[c42]) fun C hP=> ?_;simp only[c42,Zo,Zg,Zm,Zc,Zf,Zl,Zh,Zs,Zi,Zb,Zk,Zn,Zu,Zq,Zr,Zz]
 simp+decide (disch:=first|exact D0|fail) only[go_sem,↓reduceIte]
 refine Qcn hP (Qdg hp.la hp.ld hp.k1 hp.sa hp.sd (by omega)) rfl rfl rfl ?_
 rintro _ ⟨n',a',d',rfl,g1,g2,g3,g4,g5,g6⟩
 simp+decide (disch:=first|exact D0|fail) only[go_sem,↓reduceIte]
 refine Qcn hP (Qdg hq.la hq.ld hq.k1 hq.sa hq.sd (by omega)) rfl rfl rfl ?_
 rintro _ ⟨m',b',c',rfl,e1,e2,e3,e4,e5,e6⟩
 simp+decide (disch:=first|exact D0|fail) only[go_sem,↓reduceIte]
 have hza:nl (zv n' a').natAbs<=k:=by rw[Qa8];exact Nat.le_trans (Qal g1) g3
 have hzb:nl (zv m' b').natAbs<=k:=by rw[Qa8];exact Nat.le_trans (Qal e1) e3
 have hvd:nl (val d')<=k:=Nat.le_trans (Qal g2) g4
 have hvc:nl (val c')<=k:=Nat.le_trans (Qal e2) e4
 have h3:=Qat (zv n' a') (val c')
 have h6:=Qat (zv m' b') (val d')
 rw[Int.natAbs_natCast]at h3 h6
 have hzb0:zv m' b'≠0:=fun h=>h0 (by rw[<-e6,rv,h,Rat.zero_mkRat])
 have hne:zv m' b'*(val d':Int)≠0:=Int.mul_ne_zero hzb0 (by omega)
 have hfin:=Qagr (n:=n') (a:=a') (m:=m') (b:=b') g5 e5 hzb0
 rw[g6,e6]at hfin
 have hm1:=Qdf (n:=n') (m:=false) g1 e2 (by omega) (by omega)
 have hm2:=Qdf (n:=m') (m:=false) e1 g2 (by omega) (by omega)
 rw[Qfi]at hm1 hm2
 refine Qa hP (Qd0 c') rfl rfl rfl ?_
 simp+decide (disch:=first|exact D0|fail) only[go_sem,↓reduceIte]
 refine Qa hP hm1 rfl rfl rfl ?_
 simp+decide (disch:=first|exact D0|fail) only[go_sem,↓reduceIte]
 refine Qa hP (Qd0 d') rfl rfl rfl ?_
 simp+decide (disch:=first|exact D0|fail) only[go_sem,↓reduceIte]
 refine Qa hP hm2 rfl rfl rfl ?_
 generalize zv n' a'*(val c':Int)=X at *
 generalize zv m' b'*(val d':Int)=Y at *
 simp+decide (disch:=first|exact D0|fail) only[go_sem,↓reduceIte]
 refine Qa hP (Q4p (x:=X) (y:=Y) (by omega) (by omega) hne) rfl rfl rfl ?_
 rw[hfin]
 generalize rv n a d/rv m b c=Q at *
 simp+decide (disch:=first|exact D0|fail) only[go_sem,↓reduceIte]
 refine Ql6 ?_
 simp+decide (disch:=first|exact D0|fail) only[go_sem,↓reduceIte]
 exact Qdd rfl rfl rfl (Q8 _) (Q8 _)
theorem Qah6{a b:Rat}{k:Nat}(ha:rs a<=k)(hb:rs b<=k)(hk:k<2^34)(h0:b≠0):Qd Tryz.prog 42 [PV.rat a,PV.rat b] (· = .tup [PV.rat (a/b),.int .i64 0]):=by
 have:=Q4q (Qb5 ha) (Qb5 hb) hk (by rw[Qct];exact h0)
 rwa[Qct,Qct]at this
end Go.Proofs.YtdacdnoebgcjhaaGreat
namespace Go.Proofs.YtdacdnoebgcjhaaGreat
open Go Go.FW
set_option linter.unusedSimpArgs false
set_option linter.unusedVariables false
set_option maxRecDepth 100000
end Go.Proofs.YtdacdnoebgcjhaaGreat
namespace Go.Proofs.YtdacdnoebgcjhaaGreat
open Go Go.FW
set_option linter.unusedSimpArgs false
set_option linter.unusedVariables false
set_option maxRecDepth 100000
theorem Qqx(a b:List Int):Qe5 0 a b=Qah a b:=by unfold Qe5;rw[if_neg (by simp)]
end Go.Proofs.YtdacdnoebgcjhaaGreat
namespace Go.FW
open Go
set_option maxRecDepth 100000
structure Sm4(q:List Tm):Prop where
 n:Nrm q
 b:PB 3 4 q
 m:ML 4 q
 l:q.length<=6
structure Cf(j:Nat)(p:List Tm):Prop where
 d:∃D N:Nat,0<D/\0<N/\nl D<=31+120000*j/\nl N<=13+75000*j/\Dn D p/\n1 p<=(N:Rat)
 w:∀t∈p,psi t.2<=6560
 pos:Pos p
 ml:ML 4 p
 n:Nrm p
theorem Sm4.sz{q:List Tm}(h:Sm4 q):SZ 19 11 4 q:=(SZ.of h.b h.l).mono (by omega) (by omega) (by omega)
theorem Sm4.sml{q:List Tm}(h:Sm4 q):Sml q:=⟨h.sz.mono (by omega) (by omega) (by omega),by have:=h.l;omega,h.n⟩
theorem Cf.mono{i j:Nat}{p:List Tm}(h:Cf i p)(hij:i<=j):Cf j p:=by
 obtain⟨⟨D,N,h1,h2,h3,h4,h5,h6⟩,h7,h8,h9,h10⟩:=h
 exact⟨⟨D,N,h1,h2,by omega,by omega,h5,h6⟩,h7,h8,h9,h10⟩
end Go.FW
namespace Go.FW
open Go
variable {C : Ctx} {ρ : Nat -> Option Nat} {fr fr' : Fr} {hp : HP} {w : World} {K R : Qg}
theorem Q1q {P : Program} {f : FuncId} {fn : Func} {sf : SFn} {args : List PV} {Rr : PV -> Prop} (hm : P.follows .mixedOrders = true) (hf : P.funcs[f]? = some fn) (hname : (fn.name != "runtime.NumGoroutine") = true) (hc : Qe P fn = some sf.strip) (hn : args.length <= sf.n /\ sf.n <= 1000000)
  (hv:∀C:Ctx,C.P=P->C.N=sf.n->vc C (Qnp (Qc5 sf.rs Rr)) [.c sf.body] (Qe2 args) hp0):Qd P f args Rr:=by
 simp only[Qe,Option.bind_eq_some_iff,Option.map_eq_some_iff]at hc
 obtain⟨c,hb,sb,hcb,rs,hrs,hsf⟩:=hc
 obtain⟨n,rs',body⟩:=sf
 simp only[SFn.strip,SFn.mk.injEq]at hsf
 obtain⟨rfl,rfl,rfl⟩:=hsf
 refine⟨by simp[Qlw,hf,hb];simpa using hname,fun w X vals hX hsz hrep=> ?_⟩
 let C:Ctx:=Ctx.plain P fn.ntmps w X hX hn.2
 refine calls_of_wp hf hb ?_
 have hsz':(vals++Array.replicate (fn.ntmps-vals.size) undef).size=fn.ntmps:=by simp at hn ⊢;omega
 have hsim:Sim C (Qe2 args) hp0 (vals++Array.replicate (fn.ntmps-vals.size) undef) w:=by
  refine⟨fun _=>none,hsz',Ext.refl _ _,(fun _ _ h=>by cases h),by simp[hp0],by simp[hp0],fun i=> ?_⟩
  unfold Qe2
  cases hi:args[i]? with
  |none=>trivial
  | some p=>
   simp only[Option.getD_some]
   have hil:i<vals.size:=by rw[hsz];exact(List.getElem?_eq_some_iff.1 hi).1
   have hr:=hrep i p hi
   have e:(vals++Array.replicate (fn.ntmps-vals.size) undef).getD i undef=vals.getD i undef:=by
    rw[Qbs,if_pos hil]
   rw[e]
   refine Qr.ofData (hr.mono (fun _ _ _=>rfl) (fun b _ hn hx=> ?_) (Nat.le_refl _))
   rcases hx with hx|⟨_,_,h1,_⟩
   ·exact hn hx
   ·simp[hp0]at h1
 have fin:∀(fr:Fr)(hp:HP)(a:Act)(w':World),a.defers=[]->Sim C fr hp a.tmps w'->Qnp (Qc5 rs Rr) fr hp->
   a.defers=[]/\∃v,(results fn a.tmps).run P w'= .ok v w'/\∃v' r,Ending.returned v= .returned v'/\Ext Qa6 w w'/\Qci w' X r v'/\Rr r:=by
  rintro fr hp a w' hd hs0 ⟨fr1,hp1,hw,hr⟩
  obtain⟨ρ,hs⟩:=hw C _ _ hs0
  obtain⟨v,r,h1,h2,h3⟩:=Qs8 (C:=C) rfl hrs hs hr
  exact⟨hd,v,h1,v,r,rfl,Ctx.plain_ext hs.ext,h2,h3⟩
 exact Qon (C:=C) (R:=Qnp (Qc5 rs Rr)) hm c body [] _ (Qe2 args) hp0 _ w hcb ⟨fun fr hp a w' hd hs hv=>(by rw[Qjj]at hv;exact fin fr hp a w' hd hs hv),fun id sk' he=>(by simp[FW.Qaf]at he),fin⟩ rfl hsim (hv C rfl rfl)
theorem Qt6 {P : Program} {f : FuncId} {fn : Func} {sf : SFn} {args : List PV} {Rr : PV -> Prop} (hm : P.follows .mixedOrders = true) (hf : P.funcs[f]? = some fn) (hname : (fn.name != "runtime.NumGoroutine") = true) (hc : Qe P fn = some sf.strip) (hn : args.length <= sf.n /\ sf.n <= 1000000)
  (hv:∀C:Ctx,C.P=P->vc C (Qnp (Qc5 sf.rs Rr)) [.c sf.body] (Qe2 args) hp0):Qd P f args Rr:=
 Q1q hm hf hname hc hn fun C h _=>hv C h
theorem Qacj{ty w i d:Nat}{fz:Bool}{f:Nat->Rat}(h:i<w):ldM (some ⟨3,ty,Qkx PV.rat f w,fz⟩) 3 true i 0 d fr hp K=K (upd fr d (PV.rat (f i))) hp:=by
 rw[Qna (by rw[Qx5];exact h) (by omega) (by simp),Q7t];rfl
theorem Qagu:(Qmm (.tup [])=True)/\(∀(k:IntKind)(n:Int),Qmm (.int k n)=True)/\(∀b:Bool,Qmm (.bool b)=True)/\(∀(e:Nat)(xs:List PV),Qmm (.sl e xs)=True)/\(∀cs:List PV,Qmm (.agg cs)=True)/\(∀cs:List PV,Qmm (.tup cs)=True):=by
 refine⟨?_,?_,?_,?_,?_,?_⟩<;>intros<;>simp[Qmm,PV.refs,PV.sref,rnP,rn1]
attribute [go_sem] Qagu Qacj
end Go.FW
namespace Go.FW
open Go
variable {C : Ctx} {ρ : Nat -> Option Nat} {fr fr' : Fr} {hp : HP} {w : World} {K R : Qg}
def ldX(p:PV)(γ n:Nat)(ag:Bool)(i o d:Nat)(fr:Fr)(hp:HP)(K:Qg):Prop:=match p with
 | .nst γ' e _ xs=>γ'=γ/\∃h:i<xs.length,o+n<=e/\(ag=false->n=1)/\K (upd fr d (ldN ag n o (xs[i]'h))) hp
 |_=>False
theorem Qagv{γ n i o d:Nat}{ag:Bool}:ldK n ag (.np γ i o) d fr hp K=ldX (fr γ) γ n ag i o d fr hp K:=by
 simp only[ldK,ldX]
 cases fr γ<;>rfl
def stX(p:PV)(h:Option HB)(v:Option (List PV))(γ n i o:Nat)(fr:Fr)(hp:HP)(K:Qg):Prop:=match p with
 | .nst γ' e ty xs=>γ'=γ/\(∃hb,h=some hb/\hb.fz=false)/\∃h:i<xs.length,o+n<=e/\match v with
   |some cs=>cs.length=n/\K (upd (Qc9 γ fr) γ (.nst γ e ty (xs.set i (Qe1 (Qjc (xs[i]'h).ncells o cs))))) hp
   |none=>False
 |_=>False
theorem Qagw{γ n i o:Nat}{v:PV}:stK n (.np γ i o) v fr hp K=stX (fr γ) (hp γ) (stN v) γ n i o fr hp K:=by
 simp only[stK,stX]
 cases fr γ<;>rfl
theorem Qah7{γ e ty n o d:Nat}{ag:Bool}{x:PV}(h1:o+n<=e)(h2:ag=true∨n=1):ldX (.nst γ e ty [x]) γ n ag 0 o d fr hp K=K (upd fr d (ldN ag n o x)) hp:=by
 have:(ag=false->n=1):=fun h=>h2.resolve_left (by simp[h])
 simp[ldX,h1]
 exact fun _=>this
theorem Qah8{γ e ty n o e0 ty0:Nat}{x:PV}{xs0 cs:List PV}(h1:o+n<=e)(h2:cs.length=n):stX (.nst γ e ty [x]) (some ⟨e0,ty0,xs0,false⟩) (some cs) γ n 0 o fr hp K=K (upd (Qc9 γ fr) γ (.nst γ e ty [Qe1 (Qjc x.ncells o cs)])) hp:=by
 simp[stX,h1,h2]
theorem Qah9{γ ty B n w r d:Nat}{π:Nat->Nat}(h:r<n):ldX (.nst γ 1 ty (Qdr (Qdp B n w π))) γ 1 false r 0 d fr hp K=K (upd fr d (.ms (B+π r) w)) hp:=by
 have hl:r<(Qdr (Qdp B n w π)).length:=by simpa[Qdr,Qdp]using h
 simp only[ldX,hl,exists_true_left,true_and,Nat.le_refl,Nat.zero_add,implies_true]
 simp[ldN,Qdr,Qdp,PV.ncells,PV.cells]
theorem Qaia{γ ty B n w r m e0 ty0:Nat}{π:Nat->Nat}{xs0:List PV}(h:r<n):stX (.nst γ 1 ty (Qdr (Qdp B n w π))) (some ⟨e0,ty0,xs0,false⟩) (some [.ms (B+m) w]) γ 1 r 0 fr hp K=K (upd (Qc9 γ fr) γ (.nst γ 1 ty (Qdr (Qdp B n w fun x=>if x=r then m else π x)))) hp:=by
 have hl:r<(Qdr (Qdp B n w π)).length:=by simpa[Qdr,Qdp]using h
 have e:(Qdp B n w π).set r (B+m,w)=Qdp B n w fun x=>if x=r then m else π x:=by
  refine List.ext_getElem (by simp[Qdp]) fun j h1 h2=> ?_
  rw[List.getElem_set,Qwr,Qwr]
  split
  ·rename_i e;subst e;simp
  ·rename_i e;rw[if_neg fun e2=>e e2.symm]
 rw[<-e]
 simp only[stX,hl,exists_true_left,true_and,Nat.le_refl,Nat.zero_add,Option.some.injEq,exists_eq_left',List.length_cons,List.length_nil]
 simp[Qe1,Qjc,Qdr,PV.ncells,PV.cells,List.map_set]
theorem stNs:
  (∀(γ o n:Nat),stN (.nso γ o n)=some [.nso γ o n])/\
  (∀(k:IntKind)(n:Int),stN (.int k n)=some [.int k n])/\
  (∀(b:Bool),stN (.bool b)=some [.bool b])/\
  (stN .nilS=some [.nilS])/\
  (∀(e:Nat)(xs:List PV),stN (.sl e xs)=some [.sl e xs])/\
  (∀(cs:List PV),stN (.pt cs)=some [.pt cs])/\
  (∀(cs:List PV),stN (.agg cs)=some cs):=by
 refine⟨?_,?_,?_,?_,?_,?_,?_⟩<;>intros<;>rfl
theorem Qagx{β o n:Nat}(h:1000000<=β):stN (.mso β o n)=some [.mso β o n]:=by simp[stN,isB,h]
theorem Qack{cs:List PV}:stN (.rag cs)=if cs.all PV.notU then some cs else none:=rfl
theorem Qaib:(∀(k:IntKind)(n:Int),(PV.int k n).notU=true)/\(∀b:Bool,(PV.bool b).notU=true)/\(PV.nilS.notU=true)/\(∀(e:Nat)(xs:List PV),(PV.sl e xs).notU=true)/\(∀(β o n:Nat),(PV.mso β o n).notU=true)/\(∀(β o n:Nat),(PV.nso β o n).notU=true)/\(∀cs:List PV,(PV.pt cs).notU=true)/\(PV.undef.notU=false):=by
 refine⟨?_,?_,?_,?_,?_,?_,?_,?_⟩<;>intros<;>rfl
theorem Qaic:(∀(k:IntKind)(n:Int),(PV.int k n).isRefC=false)/\(∀b:Bool,(PV.bool b).isRefC=false)/\(PV.nilS.isRefC=false)/\(∀(e:Nat)(xs:List PV),(PV.sl e xs).isRefC=false)/\(∀(β o n:Nat),(PV.mso β o n).isRefC=true)/\(∀(β o n:Nat),(PV.nso β o n).isRefC=true)/\(∀cs:List PV,(PV.pt cs).isRefC=false)/\(PV.undef.isRefC=true):=by
 refine⟨?_,?_,?_,?_,?_,?_,?_,?_⟩<;>intros<;>rfl
theorem Q4r{cs:List PV}(h:cs.any PV.isRefC=true):Qf2 cs= .rag cs:=by simp[Qf2,h]
theorem Q4s{cs:List PV}(h:cs.any PV.isRefC=false):Qf2 cs= .agg cs:=by simp[Qf2,h]
theorem Qagy{a b:PV}{cs:List PV}:Qe1 (a::b::cs)=Qf2 (a::b::cs):=rfl
theorem Qagz{a:PV}:Qe1 [a]=a:=rfl
theorem Qaid{n o:Nat}{x:PV}:ldN true n o x=Qf2 ((x.ncells.drop o).take n):=rfl
theorem Qaie{n o:Nat}{x:PV}:ldN false n o x=(x.ncells.drop o).headD .undef:=rfl
theorem Qacl{l cs:List PV}{o:Nat}:Qjc l o cs=l.take o++cs++l.drop (o+cs.length):=rfl
theorem Q1r{cs:List PV}:(PV.rag cs).ncells=cs:=rfl
theorem Q1s{cs:List PV}:(PV.agg cs).ncells=cs:=rfl
theorem Qaif{z:List PV}{ps:List (Nat×Nat×PV)}{d:Nat}(h:ps.any (fun p=>p.2.2.isNst)=true):Qfc z ps d fr hp K=(Qgh z.length ps/\K (upd fr d (.rag (Qcj z (ps.map fun p=>(p.1,(stN p.2.2).getD []))))) hp):=by
 simp only[Qfc,if_pos h]
theorem Qyr{len:Nat}:Qgh len []=True:=by simp[Qgh]
theorem Qxj{len o n:Nat}{v:PV}{ps:List (Nat×Nat×PV)}:Qgh len ((o,n,v)::ps)=((∃cs,stN v=some cs/\cs.length=n/\o+n<=len)/\Qgh len ps):=by simp[Qgh]
theorem Qag0:(∀(γ o n:Nat),(PV.nso γ o n).isNst=true)/\(∀(cs:List PV),(PV.rag cs).isNst=true)/\(∀(β o n:Nat),(PV.mso β o n).isNst=decide (2000000<=β))/\(∀(cs:List PV),(PV.agg cs).isNst=false)/\(∀(k:IntKind)(n:Int),(PV.int k n).isNst=false)/\(∀b:Bool,(PV.bool b).isNst=false)/\(PV.nilS.isNst=false)/\(∀(e:Nat)(xs:List PV),(PV.sl e xs).isNst=false):=by
 refine⟨?_,?_,?_,?_,?_,?_,?_,?_⟩<;>intros<;>rfl
theorem Qacm:(∀(β:Nat)(k:IntKind)(n:Int),Qc1 β (.int k n)= .int k n)/\(∀(β:Nat)(b:Bool),Qc1 β (.bool b)= .bool b)/\(∀β:Nat,Qc1 β .nilS= .nilS)/\(∀(β e:Nat)(xs:List PV),Qc1 β (.sl e xs)= .sl e xs)/\(∀(β γ o n:Nat),Qc1 β (.mso γ o n)=if γ=β then .undef else .mso γ o n)/\(∀(β γ o n:Nat),Qc1 β (.nso γ o n)=if γ=β then .undef else .nso γ o n):=by
 refine⟨?_,?_,?_,?_,?_,?_⟩<;>intros<;>rfl
theorem Qacn{β γ e ty:Nat}{x:PV}(h:γ≠β):Qba β (.nst γ e ty [x])= .nst γ e ty [Qe1 (x.ncells.map (Qc1 β))]:=by simp[Qba,h]
theorem Qaco{β γ ty B n w:Nat}{π:Nat->Nat}(h:γ≠β)(h2:β<B):Qba β (.nst γ 1 ty (Qdr (Qdp B n w π)))= .nst γ 1 ty (Qdr (Qdp B n w π)):=by
 simp only[Qba,if_neg h]
 congr 1
 conv=>rhs;rw[<-List.map_id (Qdr (Qdp B n w π))]
 refine List.map_congr_left fun x hx=> ?_
 obtain⟨y,hy,rfl⟩:=List.mem_map.1 hx
 obtain⟨r,hr,rfl⟩:=List.mem_map.1 hy
 simp only[PV.ncells,PV.cells,List.map_cons,List.map_nil,Qc1,Qe1]
 rw[if_neg (by omega)];rfl
theorem mv_P{β δ γ ty B n w:Nat}{π:Nat->Nat}(hβ:β<1000000)(hB:2000000<=B)(hγ:2000000<=γ):rnP (mvN β δ) (.nst γ 1 ty (Qdr (Qdp B n w π)))= .nst γ 1 ty (Qdr (Qdp B n w π)):=by
 have e1:mvN β δ γ=γ:=by unfold mvN;rw[if_neg (by omega)]
 simp only[rnP,e1]
 congr 1
 conv=>rhs;rw[<-List.map_id (Qdr (Qdp B n w π))]
 refine List.map_congr_left fun x hx=> ?_
 obtain⟨y,hy,rfl⟩:=List.mem_map.1 hx
 obtain⟨r,hr,rfl⟩:=List.mem_map.1 hy
 refine Qabk (.inr ⟨_,_,rfl⟩) fun β' n' h=> ?_
 cases h;unfold mvN;rw[if_neg (by omega)]
theorem Qaig{δ γ ty B n w:Nat}{π:Nat->Nat}(h:γ≠δ)(hδ:δ<B):Qfo δ (.nst γ 1 ty (Qdr (Qdp B n w π)))= .nst γ 1 ty (Qdr (Qdp B n w π)):=by
 simp only[Qfo,if_neg h]
 congr 1
 conv=>rhs;rw[<-List.map_id (Qdr (Qdp B n w π))]
 refine List.map_congr_left fun x hx=> ?_
 obtain⟨y,hy,rfl⟩:=List.mem_map.1 hx
 obtain⟨r,hr,rfl⟩:=List.mem_map.1 hy
 simp only[PV.ncells,PV.cells,List.map_cons,List.map_nil,Qjq,Qe1]
 rw[if_neg (by omega)];rfl
theorem Q4t{β:Nat}{cs:List PV}:Qam β (.rag cs)= .rag cs:=rfl
theorem Q81{γ:Nat}{cs:List PV}:Qfo γ (.rag cs)= .rag (cs.map (Qjq γ)):=rfl
theorem Q4u{β:Nat}{cs:List PV}:Qba β (.rag cs)= .rag (cs.map (Qc1 β)):=rfl
theorem Qaih:(∀(γ:Nat)(k:IntKind)(n:Int),Qjq γ (.int k n)= .int k n)/\(∀(γ:Nat)(b:Bool),Qjq γ (.bool b)= .bool b)/\(∀γ:Nat,Qjq γ .nilS= .nilS)/\(∀(γ e:Nat)(xs:List PV),Qjq γ (.sl e xs)= .sl e xs)/\(∀(γ β o n:Nat),Qjq γ (.mso β o n)=if β=γ then .nso γ o n else .mso β o n)/\(∀(γ β o n:Nat),Qjq γ (.nso β o n)= .nso β o n):=by
 refine⟨?_,?_,?_,?_,?_,?_⟩<;>intros<;>rfl
theorem Qag1{γ i o off d:Nat}:Qkp off (.np γ i o) d fr hp K=K (upd fr d (.np γ i (o+off))) hp:=rfl
theorem Q4v{γ γ' e ty:Nat}{xs:List PV}:Qc8 γ (.nst γ' e ty xs)=if γ'=γ then .undef else .nst γ' e ty xs:=rfl
theorem Q4w{γ:Nat}{cs:List PV}:Qc8 γ (.rag cs)= .rag cs:=rfl
attribute [go_sem] Qag1 Q4v Q4w false_and List.all_cons List.all_nil Q4t Q81 Q4u Qaih exists_eq_left' Qagv Qagw Qah7 Qah8 Qah9 Qaia stNs Qagx Qack Qaib Qaic Q4r Q4s Qagy Qagz Qaid Qaie Qacl Q1r Q1s Qaif Qyr Qxj Qag0 Qacm Qacn Qaco mv_P Qaig
theorem Q4x{γ:Nat}{F:Fr}:Qc9 γ (Qsp F)=Qsp F:=by
 have:=Qtt (γ:=γ) (B:=[]) (F:=F)
 simpa only[bse,Qbi]using this
theorem Q4y{β:Nat}{F:Fr}(h:2000000<=β):Qec β (Qsp F)=Qsp F:=by
 have:=Qts (B:=[]) (F:=F) h
 simpa only[bse,Qbi]using this
attribute [go_sem] Q4x Q4y
theorem Qaii:(∀(k:IntKind)(n:Int),(PV.int k n).sref=[])/\(∀b:Bool,(PV.bool b).sref=[])/\(PV.nilS.sref=[])/\(PV.undef.sref=[])/\(∀(e:Nat)(xs:List PV),(PV.sl e xs).sref=[])/\(∀cs:List PV,(PV.agg cs).sref=[])/\(∀cs:List PV,(PV.tup cs).sref=[])/\(∀cs:List PV,(PV.pt cs).sref=[])/\
  (∀(β o n:Nat),(PV.mso β o n).sref=[])/\(∀(β o n:Nat),(PV.mp β o n).sref=[])/\(∀(β o n:Nat),(PV.nso β o n).sref=[β])/\(∀(β o n:Nat),(PV.np β o n).sref=[β]):=by
 refine⟨?_,?_,?_,?_,?_,?_,?_,?_,?_,?_,?_,?_⟩<;>intros<;>rfl
attribute [go_sem] Qaii
theorem Q82{d w i:Nat}{k:IntKind}{f:Nat->Rat}(h:i<w):Qds 3 (.sl 3 (Qkx PV.rat f w)) (.int k (i:Nat)) d fr hp K=K (upd fr d (.pt (PV.rat (f i)).cells)) hp:=by
 unfold Qkx
 rw[Qi2 (by omega) (by simp;omega)]
 simp
theorem Q83{α:Type}{p:α->PV}{f:Nat->α}{w d e:Nat}:Qig (.sl e (Qkx p f w)) d fr hp K=K (upd fr d (.int .i64 (w:Nat))) hp:=by
 simp[Qig,Qkx]
attribute [go_sem] Q82 Q83
theorem Qacp{i c:Nat}(h:c<1600000):(1600000+i=c)=False:=by simp;omega
attribute [go_sem] Qacp
end Go.FW
namespace Go.FW
open Go
variable {C C' : Ctx} {ρ ρ' : Nat -> Option Nat} {fr fr' : Fr} {hp hp' : HP} {w : World} {K R : Qg}
end Go.FW
namespace Go.FW
open Go
structure Qey(hp:HP)(p:PV)(cs:List PV)(rs:List Nat):Prop where
 d:(Qaa hp p).isData=true
 c:(Qaa hp p).cells=cs
 r:p.refs=rs
 n:p.isNst=false
theorem Qey.flat{hp:HP}{p:PV}(h:p.flat=true):Qey hp p p.cells []:=by
 obtain⟨s1,s2,s3⟩:=Qdy (hp:=hp) h
 exact⟨by rw[s1];exact s3,by rw[s1],s2,Qqs h⟩
theorem Qey.own{hp:HP}{β m e ty:Nat}{xs:List PV}{fz:Bool}(hb:hp β=some ⟨e,ty,xs,fz⟩)(hm:m=xs.length)(hB:isB β=false:=by decide):Qey hp (.ms β m) [.sl e xs] [β]:=by
 have s4:Qaa hp (.ms β m)= .sl e xs:=by simp[Qaa,Qav,Qjb hB,hb,hm]
 exact⟨by rw[s4];rfl,by rw[s4];rfl,rfl,by simp[isB]at hB;simp[PV.isNst];omega⟩
theorem Qaij{fr:Fr}{hp:HP}{K:Qg}{z:List PV}{d o1 o2 o3 o4 n1 n2 n3 n4:Nat}{p1 p2 p3 p4:PV}{c1 c2 c3 c4:List PV}{r1 r2 r3 r4:List Nat}(h1:Qey hp p1 c1 r1)(h2:Qey hp p2 c2 r2)(h3:Qey hp p3 c3 r3)(h4:Qey hp p4 c4 r4):
  Qfc z [(o1,n1,p1),(o2,n2,p2),(o3,n3,p3),(o4,n4,p4)] d fr hp K=((c1.length=n1/\o1+n1<=z.length)/\(c2.length=n2/\o2+n2<=z.length)/\(c3.length=n3/\o3+n3<=z.length)/\(c4.length=n4/\o4+n4<=z.length)/\K (upd fr d (.agg (Qcj z [(o1,c1),(o2,c2),(o3,c3),(o4,c4)]))) (Qag hp (r1++(r2++(r3++r4))))):=by
 unfold Qfc Qp0 Qu4
 rw[if_neg (by simp[h1.n,h2.n,h3.n,h4.n])]
 apply propext
 simp only[List.mem_cons,List.not_mem_nil,or_false,forall_eq_or_imp,forall_eq,h1.d,h2.d,h3.d,h4.d,h1.c,h2.c,h3.c,h4.c,h1.r,h2.r,h3.r,h4.r,true_and,List.map_cons,List.map_nil,List.flatMap_cons,List.flatMap_nil,List.append_nil,and_assoc]
theorem Qacq{fr:Fr}{hp:HP}{K:Qg}{ty i d:Nat}{fz:Bool}{l:List (List Tm)}(h:i<l.length):ldM (some ⟨1,ty,l.map PV.poly,fz⟩) 1 false i 0 d fr hp K=K (upd fr d (PV.poly (l[i]'h))) hp:=by
 have hi:i<(l.map PV.poly).length:=by simpa using h
 simp[ldM,h,ldV,PV.cells]
theorem Qxk{fr:Fr}{hp:HP}{K:Qg}{e β m d ty:Nat}{xs:List PV}{fz:Bool}{k:IntKind}(hb:hp β=some ⟨e,ty,xs,fz⟩)(hm:0<m):Qds e (.ms β m) (.int k 0) d fr hp K=K (upd fr d (.mp β 0 0)) hp:=by
 simp[Qds,hb,hm]
end Go.FW
