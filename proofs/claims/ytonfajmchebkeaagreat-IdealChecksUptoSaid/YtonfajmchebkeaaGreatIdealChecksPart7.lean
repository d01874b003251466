/- Part 7 of the proof of IdealChecks: G1, P8, U7, G2, U8, U10, G3, G4, G5, W1, W2, W3, W4, W5, W6, W7, W8, FwWF, FwNH, FwNI, FwNJ, FwWG. Own lemmas; no conditions. -/
import Derived.Test.YtonfajmchebkeaaGreatIdealChecksPart6
set_option linter.unusedSimpArgs false
set_option linter.unnecessarySimpa false
set_option linter.unusedVariables false
namespace Go.Proofs.YtonfajmchebkeaaGreat
open Go Go.FW
set_option linter.unusedSimpArgs false
set_option linter.unusedVariables false
set_option maxRecDepth 100000
def smK(t:RTm):Bool:=decide (t.m.length<=4)&&(decide (t.a.length<=2)&&(decide (t.d.length<=2)&&t.m.all fun x=>decide (x<=4)))
def Qhb(l:List RTm):Bool:=decide (l.length<=6)&&(l.all smK&&Qe5 l)
theorem Qmv{l:List RTm}{k:Nat}(hb:∀t∈l,RB k t)(hk1:1<=k)(hk:k<2^36)(hll:l.length<2^40):
  Qe Tryz.prog 34 [PV.rpoly l] (· = .bool (Qhb l)):=by
 have bad:∀i (h:i<l.length),smK l[i]=false->Qhb l=false:=fun i hi h=>by
  have:l.all smK=false:=by
   rw[List.all_eq_false];exact⟨_,List.getElem_mem hi,by simp[h]⟩
  simp[Qhb,this]
 refine Qf Qk Tryz.func34 rfl Qakx (by simp[c34]) fun C hP=> ?_;simp only[c34,Zo,Zg,Zm,Zc,Zf,Zl,Zh,Zs,Zi,Zb,Zk,Zn,Zu,Zq,Zr,Zz]
 simp+decide (disch:=first|exact D0|fail) only[go_sem,↓reduceIte]
 refine Qb (fun hn=> ?_) (fun hn=> ?_)
 ·simp+decide (disch:=first|exact D0|fail) only[go_sem,↓reduceIte]
  exact Qc (by simp[Qhb,show ¬l.length<=6 by omega]) rfl
 have hn':l.length<=6:=by omega
 simp+decide (disch:=first|exact D0|fail) only[go_sem,↓reduceIte]
 refine Qz (by repeat (first|exact Qv|exact Qo|exact Qp|exact Qq|exact Qr|apply Qn|apply Qu|apply Q3|apply Q7|apply Q8|apply Ql|apply Q2)) [(2,4),(8,60)] [] (fun m J hp=>∃i,m=l.length-i/\i<=l.length/\(∀j (h:j<l.length),j<i->smK l[j]=true)/\J 3= .int .i64 (i:Nat)) l.length ?_ ?_
 ·refine⟨0,rfl,by omega,by omega,?_⟩
  simp+decide (disch:=first|exact D0|fail) only[go_sem,↓reduceIte]
  rfl
 rintro _ J h ⟨i,rfl,hi,h1,h9⟩
 simp+decide (disch:=first|exact D1 h9|fail) only[go_sem,↓reduceIte,h9]
 refine Qb (fun hg=> ?_) (fun hg=> ?_)
 ·have hi':i<l.length:=by omega
  have hbt:=hb _ (List.getElem_mem hi')
  have hbad:=bad i hi'
  have hml:=hbt.l
  have hadd:smK l[i]=true->∀j (h:j<l.length),j<i+1->smK l[j]=true:=fun h j hj hji=>by
   by_cases e:j=i
   ·subst e;exact h
   ·exact h1 j hj (by omega)
  generalize hx:l[i]=x at *
  simp+decide (disch:=first|exact D2 h9 hx|fail) only[go_sem,↓reduceIte,h9,hx]
  refine Qac (fun h2=> ?_) (fun h2=> ?_)
  ·simp+decide (disch:=first|exact D2 h9 hx|fail) only[go_sem,↓reduceIte,h9,hx]
   exact Qc (by rw[hbad (by simp[smK,show ¬x.m.length<=4 by omega])]) rfl
  simp+decide (disch:=first|exact D2 h9 hx|fail) only[go_sem,↓reduceIte,h9,hx]
  refine Qac (fun h3=> ?_) (fun h3=> ?_)
  ·simp+decide (disch:=first|exact D2 h9 hx|fail) only[go_sem,↓reduceIte,h9,hx]
   exact Qc (by rw[hbad (by simp[smK,show ¬x.a.length<=2 by omega])]) rfl
  simp+decide (disch:=first|exact D2 h9 hx|fail) only[go_sem,↓reduceIte,h9,hx]
  refine Qb (fun h4=> ?_) (fun h4=> ?_)
  ·simp+decide (disch:=first|exact D2 h9 hx|fail) only[go_sem,↓reduceIte,h9,hx]
   exact Qc (by rw[hbad (by simp[smK,show ¬x.d.length<=2 by omega])]) rfl
  simp+decide (disch:=first|exact D2 h9 hx|fail) only[go_sem,↓reduceIte,h9,hx]
  refine Qz (by repeat (first|exact Qv|exact Qo|exact Qp|exact Qq|exact Qr|apply Qn|apply Qu|apply Q3|apply Q7|apply Q8|apply Ql|apply Q2)) [(2,2),(4,4),(42,60)] [] (fun m J hp=>∃j,m=x.m.length-j/\j<=x.m.length/\(∀y∈x.m.take j,y<=4)/\J 4= .int .i64 (j:Nat)) x.m.length ?_ ?_
  ·refine⟨0,rfl,by omega,by simp,?_⟩
   simp+decide (disch:=first|exact D0|fail) only[go_sem,↓reduceIte]
   rfl
  rintro _ J2 h2' ⟨j,rfl,hj,h5,h10⟩
  simp+decide (disch:=first|exact D3 h9 h10 hx|fail) only[go_sem,↓reduceIte,h9,h10,hx]
  refine Qb (fun hg2=> ?_) (fun hg2=> ?_)
  ·have hj':j<x.m.length:=by omega
   have hmem:=List.getElem_mem hj'
   have htk:x.m.take (j+1)=x.m.take j++[x.m[j]]:=List.take_succ_eq_append_getElem hj'
   generalize hy:x.m[j]=y at *
   simp+decide (disch:=first|exact D4 h9 h10 hx hy|fail) only[go_sem,↓reduceIte,h9,h10,hx,hy]
   refine Qb (fun h6=> ?_) (fun h6=> ?_)
   ·simp+decide (disch:=first|exact D3 h9 h10 hx|fail) only[go_sem,↓reduceIte,h9,h10,hx]
    refine Qc ?_ rfl
    rw[hbad]
    have:(x.m.all fun x=>decide (x<=4))=false:=by
     rw[List.all_eq_false];exact⟨y,hmem,by simp;omega⟩
    simp[smK,this]
   ·simp+decide (disch:=first|exact D3 h9 h10 hx|fail) only[go_sem,↓reduceIte,h9,h10,hx]
    refine Qh (x.m.length-(j+1)) (by omega) ⟨j+1,rfl,by omega,?_,?_⟩
    ·rw[htk]
     intro z hz
     rcases List.mem_append.1 hz with hz|hz
     ·exact h5 z hz
     ·simp at hz;omega
    ·simp+decide (disch:=first|exact D0|fail) only[go_sem,↓reduceIte]
  ·rw[List.take_of_length_le (by omega)]at h5
   have hsm:smK x=true:=by
    simp only[smK,Bool.and_eq_true,decide_eq_true_eq,List.all_eq_true]
    exact⟨by omega,by omega,by omega,h5⟩
   simp+decide (disch:=first|exact D2 h9 h10|fail) only[go_sem,↓reduceIte,h9,h10]
   simp (disch:=decide) only[Qce,Qhe]
   refine Qh (l.length-(i+1)) (by omega) ⟨i+1,rfl,by omega,hadd hsm,?_⟩
   simp+decide (disch:=first|exact D0|fail) only[go_sem,↓reduceIte]
 ·obtain rfl:i=l.length:=by omega
  have hall:l.all smK=true:=by
   rw[List.all_eq_true]
   intro t ht
   obtain⟨j,hj,rfl⟩:=List.getElem_of_mem ht
   exact h1 j hj hj
  simp+decide (disch:=first|exact D0|fail) only[go_sem,↓reduceIte]
  refine Qa hP (Qpf hb hk1 hk hll) rfl rfl rfl ?_
  simp+decide (disch:=first|exact D0|fail) only[go_sem,↓reduceIte]
  exact Qc (by simp[Qhb,hn',hall]) rfl
def Qh5(ls:List (List RTm)):Bool:=decide (ls.length<=4)&&ls.all Qhb
theorem Qd0{ls:List (List RTm)}{k:Nat}(hb:∀l∈ls,(∀t∈l,RB k t)/\l.length<2^40)(hk1:1<=k)(hk:k<2^36)(hll:ls.length<2^40):
  Qe Tryz.prog 28 [.sl 1 (ls.map PV.rpoly)] (· = .bool (Qh5 ls)):=by
 refine Qf Qk Tryz.func28 rfl Qaky (by simp[c28]) fun C hP=> ?_;simp only[c28,Zo,Zg,Zm,Zc,Zf,Zl,Zh,Zs,Zi,Zb,Zk,Zn,Zu,Zq,Zr,Zz]
 simp+decide (disch:=first|exact D0|fail) only[go_sem,↓reduceIte]
 refine Qb (fun hn=> ?_) (fun hn=> ?_)
 ·simp+decide (disch:=first|exact D0|fail) only[go_sem,↓reduceIte]
  exact Qc (by simp[Qh5,show ¬ls.length<=4 by omega]) rfl
 have hn':ls.length<=4:=by omega
 simp+decide (disch:=first|exact D0|fail) only[go_sem,↓reduceIte]
 refine Qz (by repeat (first|exact Qv|exact Qo|exact Qp|exact Qq|exact Qr|apply Qn|apply Qu|apply Q3|apply Q7|apply Q8|apply Ql|apply Q2)) [(2,3),(7,18)] [] (fun m J hp=>∃i,m=ls.length-i/\i<=ls.length/\(∀j (h:j<ls.length),j<i->Qhb ls[j]=true)/\J 3= .int .i64 (i:Nat)) ls.length ?_ ?_
 ·refine⟨0,rfl,by omega,by omega,?_⟩
  simp+decide (disch:=first|exact D0|fail) only[go_sem,↓reduceIte]
  rfl
 rintro _ J h ⟨i,rfl,hi,h1,h3⟩
 simp+decide (disch:=first|exact D1 h3|fail) only[go_sem,↓reduceIte,h3]
 refine Qb (fun hg=> ?_) (fun hg=> ?_)
 ·have hi':i<ls.length:=by omega
  have hbt:=hb _ (List.getElem_mem hi')
  have hmem:=List.getElem_mem hi'
  have hadd:Qhb ls[i]=true->∀j (h:j<ls.length),j<i+1->Qhb ls[j]=true:=fun h j hj hji=>by
   by_cases e:j=i
   ·subst e;exact h
   ·exact h1 j hj (by omega)
  generalize hx:ls[i]=x at *
  simp+decide (disch:=first|exact D2 h3 hx|fail) only[go_sem,↓reduceIte,h3,hx]
  refine Qa hP (Qmv hbt.1 hk1 hk hbt.2) rfl rfl rfl ?_
  simp+decide (disch:=first|exact D1 h3|fail) only[go_sem,↓reduceIte,h3]
  cases hs:Qhb x
  ·simp+decide (disch:=first|exact D2 h3 hs|fail) only[go_sem,↓reduceIte,h3,hs]
   refine Qc ?_ rfl
   have:ls.all Qhb=false:=by
    rw[List.all_eq_false];exact⟨x,hmem,by simp[hs]⟩
   simp[Qh5,this]
  ·simp+decide (disch:=first|exact D2 h3 hs|fail) only[go_sem,↓reduceIte,h3,hs]
   refine Qh (ls.length-(i+1)) (by omega) ⟨i+1,rfl,by omega,hadd hs,?_⟩
   simp+decide (disch:=first|exact D0|fail) only[go_sem,↓reduceIte]
 ·obtain rfl:i=ls.length:=by omega
  simp+decide (disch:=first|exact D0|fail) only[go_sem,↓reduceIte]
  refine Qc ?_ rfl
  have:ls.all Qhb=true:=by
   rw[List.all_eq_true]
   intro t ht
   obtain⟨j,hj,rfl⟩:=List.getElem_of_mem ht
   exact h1 j hj hj
  simp[Qh5,this,hn']
structure Qiy where
 fs:List (List RTm)
 ps:List Int
 n:Int
 cs:List (List RTm)
abbrev PV.rcert(c:Qiy):PV:= .agg [.sl 1 (c.fs.map PV.rpoly),PV.mono c.ps,.int .i64 c.n,.sl 1 (c.cs.map PV.rpoly)]
structure RC(k:Nat)(c:Qiy):Prop where
 f:∀l∈c.fs,(∀t∈l,RB k t)/\l.length<2^40
 g:∀l∈c.cs,(∀t∈l,RB k t)/\l.length<2^40
 fl:c.fs.length<2^40
 cl:c.cs.length<2^40
 pl:c.ps.length<2^40
def Qr2(c:Qiy):Bool:=Qh5 c.fs&&(Qh5 c.cs&&decide (c.ps.length<=6))
theorem Q33{c:Qiy}{k:Nat}(hb:RC k c)(hk1:1<=k)(hk:k<2^36):Qe Tryz.prog 33 [PV.rcert c] (· = .bool (Qr2 c)):=by
 have h1:=Qd0 hb.f hk1 hk hb.fl
 have h2:=Qd0 hb.g hk1 hk hb.cl
 have h3:=hb.pl
 refine Qf Qk Tryz.func33 rfl Qakz (by simp[c33]) fun C hP=> ?_;simp only[c33,Zo,Zg,Zm,Zc,Zf,Zl,Zh,Zs,Zi,Zb,Zk,Zn,Zu,Zq,Zr,Zz]
 simp+decide (disch:=first|exact D0|fail) only[go_sem,↓reduceIte]
 refine Qa hP h1 rfl rfl rfl ?_
 cases e1:Qh5 c.fs
 ·simp+decide (disch:=first|exact D0|fail) only[go_sem,↓reduceIte]
  exact Qc (by simp[Qr2,e1]) rfl
 simp+decide (disch:=first|exact D0|fail) only[go_sem,↓reduceIte]
 refine Qa hP h2 rfl rfl rfl ?_
 cases e2:Qh5 c.cs
 ·simp+decide (disch:=first|exact D0|fail) only[go_sem,↓reduceIte]
  exact Qc (by simp[Qr2,e2]) rfl
 simp+decide (disch:=first|exact D0|fail) only[go_sem,↓reduceIte]
 exact Qc (by simp only[Qr2,e1,e2,Bool.true_and];exact congrArg PV.bool (decide_eq_decide.2 ⟨fun h=>by omega,fun h=>by omega⟩)) rfl
end Go.Proofs.YtonfajmchebkeaaGreat
namespace Go.Proofs.YtonfajmchebkeaaGreat
open Go Go.FW
set_option linter.unusedSimpArgs false
set_option linter.unusedVariables false
set_option maxRecDepth 100000
theorem Q69{a:Rat}{k:Nat}(h:rs a<=k)(hk:k<2^36):Qe Tryz.prog 77 [PV.rat a] (· =PV.poly (Qbz a)):=by
 have:=Qzi (Qcm h) hk
 rwa[Qc4]at this
end Go.Proofs.YtonfajmchebkeaaGreat
namespace Go.Proofs.YtonfajmchebkeaaGreat
open Go Go.FW
set_option linter.unusedSimpArgs false
set_option linter.unusedVariables false
set_option maxRecDepth 100000
theorem Qq9{p:List Tm}{n:Bool}{a d:List Nat}{m:List Int}{K E k:Nat}(hp:PB K E p)(hs:Qbr p)(hnz:NZ p)(hr:Raw k n a d)(hk:k<=2^32)(hm:MB E m)(hl:m.getLast? ≠some 0)(hK:K<=2^32)(hE:E<=2^38)(hlp:p.length<=2^36):
  Qe Tryz.prog 104 [PV.poly p,PV.rr n a d,PV.mono m] (· =PV.poly (Qh0 p (rv n a d) m)):=by
 have hrr:=hr.rs
 refine Qf Qk Tryz.func104 rfl Qagh (by simp[c104]) fun C hP=> ?_;simp only[c104,Zo,Zg,Zm,Zc,Zf,Zl,Zh,Zs,Zi,Zb,Zk,Zn,Zu,Zq,Zr,Zz]
 simp+decide (disch:=first|exact D0|fail) only[go_sem,↓reduceIte]
 refine Qz (by repeat (first|exact Qv|exact Qo|exact Qp|exact Qq|exact Qr|apply Qn|apply Qu|apply Q3|apply Q7|apply Q8|apply Ql|apply Q2)) [(7,7),(12,26)] [] (fun k J hp=>k<=p.length/\(∀t∈p.drop k,Qai t.2 m<0)/\J 7= .int .i64 (k:Nat)/\hp 4=some ⟨3,32,[PV.rr n a d],false⟩) p.length ?_ ?_
 ·refine⟨by omega,by simp,?_⟩
  simp+decide (disch:=first|exact D0|fail) only[go_sem,↓reduceIte]
 rintro j J h ⟨hj,hd,h7,hh4⟩
 simp+decide (disch:=first|exact D1 h7|fail) only[go_sem,↓reduceIte,h7]
 refine Qag (fun hg=> ?_) (fun hg=> ?_)
 ·obtain⟨i,rfl⟩:∃i,j=i+1:=⟨j-1,by omega⟩
  have e:((i+1:Nat):Int)-1=i:=by omega
  have hi:i<p.length:=by omega
  have htp:=hp.get hi
  have hdr:p.drop i=p[i]::p.drop (i+1):=List.drop_eq_getElem_cons hi
  have htk:p.take (i+1)=p.take i++[p[i]]:=List.take_succ_eq_append_getElem hi
  have hts:=Qy6 hs hi
  have hall:p=p.take i++p[i]::p.drop (i+1):=by rw[<-hdr,List.take_append_drop]
  have c1:=htp.c
  generalize hx:p[i]=x at *
  simp+decide (disch:=first|exact D3 h7 e hx|fail) only[go_sem,↓reduceIte,h7,e,hx]
  refine Qa hP (Qpc htp.m hm (by omega)) rfl rfl rfl ?_
  simp+decide (disch:=first|exact D3 h7 e hx|fail) only[go_sem,↓reduceIte,h7,e,hx]
  refine Qb (fun hc=> ?_) (fun hc=> ?_)
  ·simp+decide (disch:=first|exact D3 h7 e hx|fail) only[go_sem,↓reduceIte,h7,e,hx]
   refine Qh i (by omega) ⟨by omega,?_,?_⟩
   ·rw[hdr]
    intro t ht
    rcases List.mem_cons.1 ht with rfl|ht
    ·exact hc
    ·exact hd t ht
   ·simp+decide (disch:=first|exact D1 hh4|fail) only[go_sem,↓reduceIte,hh4]
  ·simp+decide (disch:=first|exact D3 h7 e hx|fail) only[go_sem,↓reduceIte,h7,e,hx]
   refine Qag (fun _=> ?_) (fun h=>by omega)
   simp+decide (disch:=first|exact D3 h7 e hx|fail) only[go_sem,↓reduceIte,h7,e,hx]
   refine Qa hP (Qpc htp.m hm (by omega)) rfl rfl rfl ?_
   simp+decide (disch:=first|exact D3 h7 e hx|fail) only[go_sem,↓reduceIte,h7,e,hx]
   refine Qb (fun hc2=> ?_) (fun hc2=> ?_)
   ·have hxm:x.2=m:=(Qp9 htp.l hl).1 hc2
    have hx0:=hnz _ (List.getElem_mem hi)
    rw[hx]at hx0
    have hfin:Qh0 p (rv n a d) m=p.take i++(if x.1+rv n a d=0 then []else [(x.1+rv n a d,m)])++p.drop (i+1):=by
     have hall':p=p.take i++(x.1,m)::p.drop (i+1):=by rw[<-hxm];exact hall
     rw[Qh0]
     split
     ·rename_i h0
      have e0:x.1+0=x.1:=Rat.add_zero _
      rw[h0,Qca,e0,if_neg hx0]
      simpa using hall'
     ·conv=>lhs;rw[hall']
      exact Q1n (fun t ht=>by rw[<-hxm];exact hts t ht)
    have htl:(p.take i).length<=p.length:=List.length_take_le' _ _
    have hdl:(p.drop (i+1)).length<=p.length:=by rw[List.length_drop];omega
    have hra:=Qs5 x.1 (rv n a d)
    have hxr:=Qcm (q:=x.1) (k:=2^32) (by omega)
    have hadd:=Qq1 (k:=2^32) hxr (show Raw (2^32) n a d from⟨hr.la,hr.ld,by have:=hr.sa;omega,by have:=hr.sd;omega,by omega⟩) (by omega)
    rw[Qc4]at hadd
    simp+decide (disch:=first|exact D4 h7 e hx hh4|fail) only[go_sem,↓reduceIte,h7,e,hx,hh4]
    refine Qff ?_ ?_
    all_goals
     simp+decide (disch:=first|exact D4 h7 e hx hh4|fail) only[go_sem,↓reduceIte,h7,e,hx,hh4]
     refine Qa hP hadd rfl rfl rfl ?_
     simp+decide (disch:=first|exact D4 h7 e hx hh4|fail) only[go_sem,↓reduceIte,h7,e,hx,hh4]
     refine Qa hP (Qwc (a:=x.1+rv n a d) (by omega)) rfl rfl rfl ?_
     simp+decide (disch:=first|exact D4 h7 e hx hh4|fail) only[go_sem,↓reduceIte,h7,e,hx,hh4]
     refine Qb (fun hz=> ?_) (fun hz=> ?_)
     ·rw[if_neg (fun h=>hz (Qbm.2 h))]at hfin
      simp+decide (disch:=first|exact D4 h7 e hx hh4|fail) only[go_sem,↓reduceIte,h7,e,hx,hh4]
      rw[Qal (f:=PV.term) (y:=(x.1+rv n a d,m)) (xs:=p.take i) (ty':=127) (fz:=false) T0 Tr0 (by omega) rfl (by omega) (by omega)]
      simp+decide (disch:=first|exact D4 h7 e hx hh4|fail) only[go_sem,↓reduceIte,h7,e,hx,hh4]
      rw[Qc2 (f:=PV.term) (xs:=p.take i++[(x.1+rv n a d,m)]) (ys:=p.drop (i+1)) T0 (by simp<;>omega) (by omega) (by omega) (by omega)]
      simp+decide (disch:=first|exact E0|fail) only[go_sem,↓reduceIte,Q6,List.contains_cons,List.contains_nil,List.flatMap_cons,List.flatMap_nil,List.append_nil]
      refine Qc ?_ rfl
      rw[List.take_of_length_le (by simp<;>omega),hfin]
     ·rw[if_pos (Qbm.1 (Decidable.not_not.1 hz)),List.append_nil]at hfin
      simp+decide (disch:=first|exact D4 h7 e hx hh4|fail) only[go_sem,↓reduceIte,h7,e,hx,hh4]
      rw[Qc2 (f:=PV.term) (xs:=p.take i) (ys:=p.drop (i+1)) T0 (by simp<;>omega) (by omega) (by omega) (by omega)]
      simp+decide (disch:=first|exact E0|fail) only[go_sem,↓reduceIte,Q6,List.contains_cons,List.contains_nil,List.flatMap_cons,List.flatMap_nil,List.append_nil]
      refine Qc ?_ rfl
      rw[List.take_of_length_le (by simp<;>omega),hfin]
   ·have hgt:Qy p [(rv n a d,m)]=p.take (i+1)++(rv n a d,m)::p.drop (i+1):=by
     have:=Quv (m:=m) (c:=rv n a d) (u:=p.take (i+1)) (v:=p.drop (i+1)) (fun t ht=>by
      rw[htk]at ht
      rcases List.mem_append.1 ht with ht|ht
      ·exact Qc3 (hts t ht) (by omega)
      ·simp only[List.mem_singleton]at ht;subst ht;omega) hd
     rwa[List.take_append_drop]at this
    have htl:(p.take (i+1)).length<=p.length:=List.length_take_le' _ _
    have hdl:(p.drop (i+1)).length<=p.length:=by rw[List.length_drop];omega
    simp+decide (disch:=first|exact D2 h7 hh4|fail) only[go_sem,↓reduceIte,h7,hh4]
    refine Qa hP (Qh3 hr (by omega)) rfl rfl rfl ?_
    simp+decide (disch:=first|exact D2 h7 hh4|fail) only[go_sem,↓reduceIte,h7,hh4]
    refine Qb (fun hz=> ?_) (fun hz=> ?_)
    ·have hz':¬rv n a d=0:=fun h=>hz (Qbm.2 h)
     simp+decide (disch:=first|exact D2 h7 hh4|fail) only[go_sem,↓reduceIte,h7,hh4]
     refine Qa hP (Qd5 hr (by omega)) rfl rfl rfl ?_
     simp+decide (disch:=first|exact D2 h7 hh4|fail) only[go_sem,↓reduceIte,h7,hh4]
     rw[Qal (f:=PV.term) (y:=(rv n a d,m)) (xs:=p.take (i+1)) (ty':=127) (fz:=false) T0 Tr0 (by omega) rfl (by omega) (by omega)]
     simp+decide (disch:=first|exact D2 h7 hh4|fail) only[go_sem,↓reduceIte,h7,hh4]
     rw[Qc2 (f:=PV.term) (xs:=p.take (i+1)++[(rv n a d,m)]) (ys:=p.drop (i+1)) T0 (by simp<;>omega) (by omega) (by omega) (by omega)]
     simp+decide (disch:=first|exact E0|fail) only[go_sem,↓reduceIte,Q6,List.contains_cons,List.contains_nil,List.flatMap_cons,List.flatMap_nil,List.append_nil]
     refine Qc ?_ rfl
     rw[List.take_of_length_le (by simp<;>omega),Qh0,if_neg hz',hgt]
     simp
    ·have hz':rv n a d=0:=Qbm.1 (Decidable.not_not.1 hz)
     simp+decide (disch:=first|exact D2 h7 hh4|fail) only[go_sem,↓reduceIte,h7,hh4]
     rw[Qc2 (f:=PV.term) (xs:=p.take (i+1)) (ys:=p.drop (i+1)) T0 (by simp<;>omega) (by omega) (by omega) (by omega)]
     simp+decide (disch:=first|exact E0|fail) only[go_sem,↓reduceIte,Q6,List.contains_cons,List.contains_nil,List.flatMap_cons,List.flatMap_nil,List.append_nil]
     refine Qc ?_ rfl
     rw[List.take_of_length_le (by simp<;>omega),Qh0,if_pos hz',Qca,List.take_append_drop]
 ·obtain rfl:j=0:=by omega
  have hgt:Qy p [(rv n a d,m)]=[]++(rv n a d,m)::p:=Quv (m:=m) (c:=rv n a d) (u:=[]) (v:=p) (by simp) (by simpa using hd)
  simp+decide (disch:=first|exact D1 h7|fail) only[go_sem,↓reduceIte,h7]
  rw[Q0i (by omega)]
  simp+decide (disch:=first|exact D2 h7 hh4|fail) only[go_sem,↓reduceIte,h7,hh4]
  refine Qa hP (Qh3 hr (by omega)) rfl rfl rfl ?_
  simp+decide (disch:=first|exact D2 h7 hh4|fail) only[go_sem,↓reduceIte,h7,hh4]
  refine Qb (fun hz=> ?_) (fun hz=> ?_)
  ·have hz':¬rv n a d=0:=fun h=>hz (Qbm.2 h)
   simp+decide (disch:=first|exact D2 h7 hh4|fail) only[go_sem,↓reduceIte,h7,hh4]
   refine Qa hP (Qd5 hr (by omega)) rfl rfl rfl ?_
   simp+decide (disch:=first|exact D2 h7 hh4|fail) only[go_sem,↓reduceIte,h7,hh4]
   rw[Qal (f:=PV.term) (y:=(rv n a d,m)) (xs:=([]:List Tm)) (ty':=127) (fz:=false) T0 Tr0 (by omega) (n:=0) rfl (by omega) (by omega)]
   simp+decide (disch:=first|exact D2 h7 hh4|fail) only[go_sem,↓reduceIte,h7,hh4]
   rw[Qc2 (f:=PV.term) (xs:=([]:List Tm)++[(rv n a d,m)]) (ys:=p) T0 (by simp<;>omega) (by omega) (by omega) (by omega)]
   simp+decide (disch:=first|exact E0|fail) only[go_sem,↓reduceIte,Q6,List.contains_cons,List.contains_nil,List.flatMap_cons,List.flatMap_nil,List.append_nil]
   refine Qc ?_ rfl
   rw[List.take_of_length_le (by simp<;>omega),Qh0,if_neg hz',hgt]
   simp
  ·have hz':rv n a d=0:=Qbm.1 (Decidable.not_not.1 hz)
   simp+decide (disch:=first|exact D2 h7 hh4|fail) only[go_sem,↓reduceIte,h7,hh4]
   rw[Qc2 (f:=PV.term) (xs:=([]:List Tm)) (ys:=p) T0 (by simp<;>omega) (by omega) (by omega) (by omega)]
   simp+decide (disch:=first|exact E0|fail) only[go_sem,↓reduceIte,Q6,List.contains_cons,List.contains_nil,List.flatMap_cons,List.flatMap_nil,List.append_nil]
   refine Qc ?_ rfl
   rw[List.take_of_length_le (by simp<;>omega),Qh0,if_pos hz',Qca]
end Go.Proofs.YtonfajmchebkeaaGreat
namespace Go.Proofs.YtonfajmchebkeaaGreat
open Go Go.FW
set_option linter.unusedSimpArgs false
set_option linter.unusedVariables false
set_option maxRecDepth 100000
theorem Qmw{a b c d:Nat}(h:a<=c)(h2:b<=d):a*b<=c*d:=Nat.mul_le_mul h h2
theorem Qpo{p q:List Tm}{n m:Nat}(hp:Prd m p)(hq:Sml q)(hn:n<=64)(hm:m<=512):Qe Tryz.prog 79 [PV.poly p,PV.poly q,.int .i64 n] (· =PV.pe (Qk1 q p n)):=by
 have hql:=hq.l
 have bq:=hq.PB.mono (K':=2^18) (E':=2^17) (by omega) (by omega)
 refine Qf Qk Tryz.func79 rfl Qak0 (by simp[c79]) fun C hP=> ?_;simp only[c79,Zo,Zg,Zm,Zc,Zf,Zl,Zh,Zs,Zi,Zb,Zk,Zn,Zu,Zq,Zr,Zz]
 simp+decide (disch:=first|exact D0|fail) only[go_sem,↓reduceIte]
 refine Qz (by repeat (first|exact Qv|exact Qo|exact Qp|exact Qq|exact Qr|apply Qn|apply Qu|apply Q3|apply Q7|apply Q8|apply Ql|apply Q2)) [(0,0),(6,7),(9,17)] [] (fun r J hp=>∃k P,r=n-k/\k<=n/\Prd (m+k) P/\Qcj q (n-k) P=Qcj q n p/\J 0=PV.poly P/\J 9= .int .i64 (k:Nat)) n ?_ ?_
 ·refine⟨0,p,rfl,by omega,hp,rfl,?_⟩
  simp+decide (disch:=first|exact D0|fail) only[go_sem,↓reduceIte]
  rfl
 rintro _ J h ⟨k,P,rfl,hk,hP2,hgo,h0,h9⟩
 simp+decide (disch:=first|exact D1 h9|fail) only[go_sem,↓reduceIte,h9]
 refine Qb (fun hg=> ?_) (fun hg=> ?_)
 ·have hk':k<n:=by omega
  have bP:=hP2.PB (by omega)
  have lP:=hP2.l
  have hst:=Qk2 (q:=q) (P:=P) hk'
  have m1:=Qmw lP hql
  have m2:min P.length q.length*(2^18+2^18)<=64*(2^18+2^18):=Nat.mul_le_mul_right _ (by omega)
  have hnx:=hP2.mul hq
  simp+decide (disch:=first|exact D2 h0 h9|fail) only[go_sem,↓reduceIte,h0,h9]
  refine Qa hP (Qj4 bP bq (by omega) (by omega) (by omega) (by omega) (by omega) (by omega)) rfl rfl rfl ?_
  generalize Qaf P q=P' at *
  simp+decide (disch:=first|exact D2 h0 h9|fail) only[go_sem,↓reduceIte,h0,h9]
  refine Qb (fun hc=> ?_) (fun hc=> ?_)
  ·simp+decide (disch:=first|exact D0|fail) only[go_sem,↓reduceIte]
   refine Qb9 (r:=PV.pe (Qk1 q p n)) ?_ rfl rfl Qcr (Qw _)
   unfold Qk1
   rw[<-hgo,hst,if_pos (by omega)];rfl
  ·simp+decide (disch:=first|exact D2 h0 h9|fail) only[go_sem,↓reduceIte,h0,h9]
   rw[if_neg (by omega)]at hst
   refine Qh (n-(k+1)) (by omega) ⟨k+1,P',rfl,by omega,hnx (by omega),by rw[<-hgo,hst],?_⟩
   simp+decide (disch:=first|exact D0|fail) only[go_sem,↓reduceIte]
 ·obtain rfl:k=n:=by omega
  simp+decide (disch:=first|exact D1 h0|fail) only[go_sem,↓reduceIte,h0]
  refine Qb9 (r:=PV.pe (Qk1 q p k)) ?_ rfl rfl (Qw _) (Qw _)
  unfold Qk1
  rw[<-hgo,Nat.sub_self];rfl
theorem Qgm{cs ls:List (List Tm)}(h1:∀c∈cs,Big c)(h2:∀c∈ls,Sml c)(hl:cs.length<=8)(hll:ls.length<2^40):Qe Tryz.prog 45 [PV.polys cs,PV.polys ls] (· =PV.pe (Qa1 cs ls)):=by
 refine Qf Qk Tryz.func45 rfl Qak1 (by simp[c45]) fun C hP=> ?_;simp only[c45,Zo,Zg,Zm,Zc,Zf,Zl,Zh,Zs,Zi,Zb,Zk,Zn,Zu,Zq,Zr,Zz]
 simp+decide (disch:=first|exact D0|fail) only[go_sem,↓reduceIte]
 refine Qb (fun hne=> ?_) (fun hne=> ?_)
 ·simp+decide (disch:=first|exact D0|fail) only[go_sem,↓reduceIte]
  refine Qb9 (r:=PV.pe (Qa1 cs ls)) ?_ rfl rfl Qcr (Qw _)
  unfold Qa1
  rw[if_neg (by omega)]
 have he:cs.length=ls.length:=by omega
 have hzl:(cs.zip ls).length=ls.length:=by rw[List.length_zip];omega
 have hcr:Qa1 cs ls=Qg8 (Qem (cs.zip ls) []):=by unfold Qa1;rw[if_pos he]
 simp+decide (disch:=first|exact D0|fail) only[go_sem,↓reduceIte]
 refine Qik 6 4 T0 ?_
 refine Qz (by repeat (first|exact Qv|exact Qo|exact Qp|exact Qq|exact Qr|apply Qn|apply Qu|apply Q3|apply Q7|apply Q8|apply Ql|apply Q2)) [(4,7),(15,32)] [] (fun r J hp=>∃i,r=ls.length-i/\i<=ls.length/\(Qb4 (cs.zip ls) i).length<=4000/\Qem ((cs.zip ls).drop i) (Qb4 (cs.zip ls) i)=Qem (cs.zip ls) []/\J 6=PV.poly (Qb4 (cs.zip ls) i)/\J 15= .int .i64 (i:Nat)) ls.length ?_ ?_
 ·refine⟨0,rfl,by omega,by simp[Qb4],rfl,?_⟩
  simp+decide (disch:=first|exact D0|fail) only[go_sem,↓reduceIte]
  exact⟨rfl,rfl⟩
 rintro _ J h ⟨i,rfl,hi,hlen,hgo,h6,h15⟩
 simp+decide (disch:=first|exact D1 h15|fail) only[go_sem,↓reduceIte,h15]
 refine Qb (fun hg=> ?_) (fun hg=> ?_)
 ·have hi':i<ls.length:=by omega
  have hic:i<cs.length:=by omega
  have hst:=Ql9 (l:=cs.zip ls) (i:=i) (by omega)
  have hs:=Qh4 (l:=cs.zip ls) (i:=i) (by omega)
  rw[Q12 he hic]at hs
  obtain⟨b1,n1⟩:=Qu4 h1 h2 hl (i:=i) (by omega)
  have c1:=h1 _ (List.getElem_mem hic)
  have c2:=h2 _ (List.getElem_mem hi')
  have b2:=c1.PB
  have b3:=c2.PB.mono (K':=2^23) (E':=2^14) (by omega) (by omega)
  have l2:=c1.l
  have l3:=c2.l
  simp only at hs
  rw[<-hgo]
  have m1:=Qmw l2 l3
  have m2:min (cs[i]).length (ls[i]).length*(2^23+2^23)<=64*(2^23+2^23):=Nat.mul_le_mul_right _ (by omega)
  generalize hx:cs[i]=x at *
  generalize hy:ls[i]=y at *
  have bm:=Qnp b2 b3
  have bmin:min x.length y.length*(2^23+2^23)<=2^31:=by omega
  have b4:=bm.1.mono (K':=2^31) (E':=2^15) bmin (by omega)
  have l4:=bm.2
  have hmm:=Qj4 b2 b3 (by omega) (by omega) (by omega) (by omega) (by omega) (by omega)
  generalize Qaf x y=z at *
  have b5:=b1.mono (K':=2^31) (E':=2^15) (by omega) (by omega)
  generalize hS:Qb4 (cs.zip ls) i=s at *
  generalize hS':Qb4 (cs.zip ls) (i+1)=s' at *
  simp+decide (disch:=first|exact D4 h6 h15 hx hy|fail) only[go_sem,↓reduceIte,h6,h15,hx,hy]
  refine Qa hP hmm rfl rfl rfl ?_
  simp+decide (disch:=first|exact D2 h6 h15|fail) only[go_sem,↓reduceIte,h6,h15]
  refine Qa hP (Qoa b5 b4 (by omega) (by omega) (by omega) (by omega)) rfl rfl rfl ?_
  rw[<-hs]
  simp+decide (disch:=first|exact D2 h6 h15|fail) only[go_sem,↓reduceIte,h6,h15]
  refine Qb (fun hc=> ?_) (fun hc=> ?_)
  ·simp+decide (disch:=first|exact D0|fail) only[go_sem,↓reduceIte]
   refine Qb9 (r:=PV.pe (Qa1 cs ls)) ?_ rfl rfl Qcr (Qw _)
   rw[hcr,<-hgo,hst,if_pos (by omega)];rfl
  ·simp+decide (disch:=first|exact D2 h6 h15|fail) only[go_sem,↓reduceIte,h6,h15]
   rw[if_neg (by omega)]at hst
   refine Qh (ls.length-(i+1)) (by omega) ⟨i+1,rfl,by omega,?_⟩
   rw[hS']
   refine⟨by omega,by rw[<-hst,hgo],?_⟩
   simp+decide (disch:=first|exact D0|fail) only[go_sem,↓reduceIte]
 ·obtain rfl:i=ls.length:=by omega
  simp+decide (disch:=first|exact D1 h6|fail) only[go_sem,↓reduceIte,h6]
  refine Qb9 (r:=PV.pe (Qa1 cs ls)) ?_ rfl rfl (Qw _) (Qw _)
  rw[hcr,<-hgo,List.drop_of_length_le (by omega)];rfl
theorem Qadm:Qe Tryz.prog 78 [.int .i64 1] (· =PV.rat 1):=Qpb (by omega) (by omega)
theorem Qin{fs:List (List Tm)}{ps:List Int}(h1:∀c∈fs,Sml c)(hl:fs.length<=8)(hpl:ps.length<2^40):Qe Tryz.prog 31 [PV.polys fs,PV.mono ps] (· =PV.pe (Qb5 fs ps)):=by
 have hone:=Quq
 refine Qf Qk Tryz.func31 rfl Qak2 (by simp[c31]) fun C hP=> ?_;simp only[c31,Zo,Zg,Zm,Zc,Zf,Zl,Zh,Zs,Zi,Zb,Zk,Zn,Zu,Zq,Zr,Zz]
 simp+decide (disch:=first|exact D0|fail) only[go_sem,↓reduceIte]
 refine Qb (fun hne=> ?_) (fun hne=> ?_)
 ·simp+decide (disch:=first|exact D0|fail) only[go_sem,↓reduceIte]
  refine Qb9 (r:=PV.pe (Qb5 fs ps)) ?_ rfl rfl Qcr (Qw _)
  unfold Qb5
  rw[if_neg (by omega)]
 have he:fs.length=ps.length:=by omega
 simp+decide (disch:=first|exact D0|fail) only[go_sem,↓reduceIte]
 refine Qz (by repeat (first|exact Qv|exact Qo|exact Qp|exact Qq|exact Qr|apply Qn|apply Qu|apply Q3|apply Q7|apply Q8|apply Ql|apply Q2)) [(4,5),(7,7),(19,29)] [] (fun r J hp=>∃i,r=ps.length-i/\i<=ps.length/\(∀j (hj:j<ps.length),j<i->0<=ps[j]/\ps[j]<=64)/\J 19= .int .i64 (i:Nat)) ps.length ?_ ?_
 ·refine⟨0,rfl,by omega,by omega,?_⟩
  simp+decide (disch:=first|exact D0|fail) only[go_sem,↓reduceIte]
  rfl
 rintro _ J h ⟨i,rfl,hi,hall,h19⟩
 simp+decide (disch:=first|exact D1 h19|fail) only[go_sem,↓reduceIte,h19]
 refine Qb (fun hg=> ?_) (fun hg=> ?_)
 ·have hi':i<ps.length:=by omega
  have hbad:=Qwk hi'
  have hadd:(0<=ps[i]/\ps[i]<=64)->∀j (hj:j<ps.length),j<i+1->0<=ps[j]/\ps[j]<=64:=fun h j hj hji=>by
   by_cases e:j=i
   ·subst e;exact h
   ·exact hall j hj (by omega)
  generalize hx:ps[i]=x at *
  simp+decide (disch:=first|exact D2 h19 hx|fail) only[go_sem,↓reduceIte,h19,hx]
  refine Qac (fun h6=> ?_) (fun h6=> ?_)
  ·simp+decide (disch:=first|exact D2 h19 hx|fail) only[go_sem,↓reduceIte,h19,hx]
   refine Qb9 (r:=PV.pe (Qb5 fs ps)) ?_ rfl rfl Qcr (Qw _)
   rw[Qlt he (hbad (by omega))]
  simp+decide (disch:=first|exact D2 h19 hx|fail) only[go_sem,↓reduceIte,h19,hx]
  refine Qb (fun h7=> ?_) (fun h7=> ?_)
  ·simp+decide (disch:=first|exact D2 h19 hx|fail) only[go_sem,↓reduceIte,h19,hx]
   refine Qb9 (r:=PV.pe (Qb5 fs ps)) ?_ rfl rfl Qcr (Qw _)
   rw[Qlt he (hbad (by omega))]
  simp+decide (disch:=first|exact D1 h19|fail) only[go_sem,↓reduceIte,h19]
  refine Qh (ps.length-(i+1)) (by omega) ⟨i+1,rfl,by omega,hadd (by omega),?_⟩
  simp+decide (disch:=first|exact D0|fail) only[go_sem,↓reduceIte]
 obtain rfl:i=ps.length:=by omega
 have hok:=Qwl fun j hj=>hall j hj hj
 have hpr:=Qzs he hok
 simp+decide (disch:=first|exact D0|fail) only[go_sem,↓reduceIte]
 refine Qa hP Qadm rfl rfl rfl ?_
 simp+decide (disch:=first|exact D0|fail) only[go_sem,↓reduceIte]
 refine Qa hP (Q69 (k:=4) (by omega) (by omega)) rfl rfl rfl ?_
 simp+decide (disch:=first|exact D0|fail) only[go_sem,↓reduceIte]
 refine Qz (by repeat (first|exact Qv|exact Qo|exact Qp|exact Qq|exact Qr|apply Qn|apply Qu|apply Q3|apply Q7|apply Q8|apply Ql|apply Q2)) [(4,5),(8,11),(34,54)] [] (fun r J hp=>∃i m P,r=fs.length-i/\i<=fs.length/\m<=64*i/\Prd m P/\Qfm ((Qg9 fs ps).drop i) P=Qfm (Qg9 fs ps) (Qbz 1)/\J 8=PV.poly P/\J 34= .int .i64 (i:Nat)) fs.length ?_ ?_
 ·refine⟨0,0,_,rfl,by omega,by omega,Prd.one,rfl,?_⟩
  simp+decide (disch:=first|exact D0|fail) only[go_sem,↓reduceIte]
  rfl
 rintro _ J2 h2 ⟨i,m,P,rfl,hi,hm,hPr,hgo,h8,h34⟩
 simp+decide (disch:=first|exact D1 h34|fail) only[go_sem,↓reduceIte,h34]
 refine Qb (fun hg=> ?_) (fun hg=> ?_)
 ·have hi':i<fs.length:=by omega
  have hip:i<ps.length:=by omega
  have hpw:=Qpm hok hip
  have hst:=Qq7 (l:=Qg9 fs ps) (i:=i) (p:=P) (by rw[Qha he];exact hi')
  rw[Qr1 he hi']at hst
  have hsm:=h1 _ (List.getElem_mem hi')
  have hrk:=Qj6 hsm (ps[i]).toNat m P
  simp only at hst
  obtain⟨n,hn⟩:∃n:Nat,ps[i]=n:=⟨(ps[i]).toNat,by omega⟩
  rw[hn,Int.toNat_natCast]at hst hrk
  have hn64:n<=64:=by omega
  have hcall:=Qpo hPr hsm hn64 (by omega)
  generalize hx:fs[i]=x at *
  simp+decide (disch:=first|exact D4 h34 h8 hx hn|fail) only[go_sem,↓reduceIte,h34,h8,hx,hn]
  refine Qa hP hcall rfl rfl rfl ?_
  unfold Qk1
  cases hr:Qcj x n P with
  |none=>
   rw[hr]at hst
   simp+decide (disch:=first|omega|rfl|(simp+decide only[go_sem,↓reduceIte,h34,Qg8]<;>rfl)|fail) only[go_sem,↓reduceIte,h34,Qg8]
   refine Qb9 (r:=PV.pe (Qb5 fs ps)) ?_ rfl rfl Qcr (Qw _)
   rw[hpr,<-hgo,hst];rfl
  |some P'=>
   rw[hr]at hst
   simp+decide (disch:=first|omega|rfl|(simp+decide only[go_sem,↓reduceIte,h34,Qg8]<;>rfl)|fail) only[go_sem,↓reduceIte,h34,Qg8]
   refine Qh (fs.length-(i+1)) (by omega) ⟨i+1,m+n,P',rfl,by omega,by omega,hrk P' hPr hr,by rw[<-hgo,hst];rfl,?_⟩
   simp+decide (disch:=first|exact D0|fail) only[go_sem,↓reduceIte]
 ·obtain rfl:i=fs.length:=by omega
  simp+decide (disch:=first|exact D1 h8|fail) only[go_sem,↓reduceIte,h8]
  refine Qb9 (r:=PV.pe (Qb5 fs ps)) ?_ rfl rfl (Qw _) (Qw _)
  rw[hpr,<-hgo,List.drop_of_length_le (by rw[Qha he];omega)];rfl
end Go.Proofs.YtonfajmchebkeaaGreat
namespace Go.Proofs.YtonfajmchebkeaaGreat
open Go Go.FW
set_option linter.unusedSimpArgs false
set_option linter.unusedVariables false
set_option maxRecDepth 100000
theorem Qw2{n:Bool}{a d:List Nat}{k:Nat}(hr:Raw k n a d)(hk:k<=2^32):Qe Tryz.prog 107 [PV.rr n a d] (· =PV.poly (Qbz (rv n a d))):=by
 have hadd:=(Qq9 (p:=[]) (m:=[]) (K:=1) (E:=1) (PB.nil _ _) trivial (by simp[NZ]) hr hk ⟨by simp,by simp,by simp⟩ (by simp) (by omega) (by omega) (by simp)).le (args':=[.nilS,PV.rr n a d,.nilS]) ⟨trivial,Qw _,trivial,trivial⟩
 have e:Qh0 [] (rv n a d) []=Qbz (rv n a d):=by rw[Qh0,Qd3];rfl
 rw[e]at hadd
 refine Qf Qk Tryz.func107 rfl Qagg (by simp[c107]) fun C hP=> ?_;simp only[c107,Zo,Zg,Zm,Zc,Zf,Zl,Zh,Zs,Zi,Zb,Zk,Zn,Zu,Zq,Zr,Zz]
 simp+decide (disch:=first|exact D0|fail) only[go_sem,↓reduceIte]
 refine Qa hP hadd rfl rfl rfl ?_
 simp+decide (disch:=first|exact D0|fail) only[go_sem,↓reduceIte]
 exact Qc rfl rfl
end Go.Proofs.YtonfajmchebkeaaGreat
namespace Go.Proofs.YtonfajmchebkeaaGreat
open Go Go.FW
set_option linter.unusedSimpArgs false
set_option linter.unusedVariables false
set_option maxRecDepth 100000
theorem Qtu{a:Rat}{k:Nat}(h:rs a<=k)(hk:k<=2^32):Qe Tryz.prog 107 [PV.rat a] (· =PV.poly (Qbz a)):=by
 have:=Qw2 (Qcm h) hk
 rwa[Qc4]at this
end Go.Proofs.YtonfajmchebkeaaGreat
namespace Go.Proofs.YtonfajmchebkeaaGreat
open Go Go.FW
set_option linter.unusedSimpArgs false
set_option linter.unusedVariables false
set_option maxRecDepth 100000
theorem Qio{cs ls:List (List Tm)}(h1:∀c∈cs,Big c)(h2:∀c∈ls,Sml c)(hl:cs.length<=8)(hll:ls.length<2^40):Qe Tryz.prog 46 [PV.polys cs,PV.polys ls] (· =PV.pe (Qa1 cs ls)):=by
 refine Qf Qk Tryz.func46 rfl Qala (by simp[c46]) fun C hP=> ?_;simp only[c46,Zo,Zg,Zm,Zc,Zf,Zl,Zh,Zs,Zi,Zb,Zk,Zn,Zu,Zq,Zr,Zz]
 simp+decide (disch:=first|exact D0|fail) only[go_sem,↓reduceIte]
 refine Qb (fun hne=> ?_) (fun hne=> ?_)
 ·simp+decide (disch:=first|exact D0|fail) only[go_sem,↓reduceIte]
  refine Qb9 (r:=PV.pe (Qa1 cs ls)) ?_ rfl rfl Qcr (Qw _)
  unfold Qa1
  rw[if_neg (by omega)]
 have he:cs.length=ls.length:=by omega
 have hzl:(cs.zip ls).length=ls.length:=by rw[List.length_zip];omega
 have hcr:Qa1 cs ls=Qg8 (Qem (cs.zip ls) []):=by unfold Qa1;rw[if_pos he]
 simp+decide (disch:=first|exact D0|fail) only[go_sem,↓reduceIte]
 refine Qik 6 4 T0 ?_
 refine Qz (by repeat (first|exact Qv|exact Qo|exact Qp|exact Qq|exact Qr|apply Qn|apply Qu|apply Q3|apply Q7|apply Q8|apply Ql|apply Q2)) [(4,7),(13,32)] [] (fun r J hp=>∃i,r=ls.length-i/\i<=ls.length/\(Qb4 (cs.zip ls) i).length<=4000/\Qem ((cs.zip ls).drop i) (Qb4 (cs.zip ls) i)=Qem (cs.zip ls) []/\J 6=PV.poly (Qb4 (cs.zip ls) i)/\J 7= .int .i64 (i:Nat)) ls.length ?_ ?_
 ·refine⟨0,rfl,by omega,by simp[Qb4],rfl,?_⟩
  simp+decide (disch:=first|exact D0|fail) only[go_sem,↓reduceIte]
  exact⟨rfl,rfl⟩
 rintro _ J h ⟨i,rfl,hi,hlen,hgo,h6,h15⟩
 simp+decide (disch:=first|exact D1 h15|fail) only[go_sem,↓reduceIte,h15]
 refine Qb (fun hg=> ?_) (fun hg=> ?_)
 ·have hi':i<ls.length:=by omega
  have hic:i<cs.length:=by omega
  have hst:=Ql9 (l:=cs.zip ls) (i:=i) (by omega)
  have hs:=Qh4 (l:=cs.zip ls) (i:=i) (by omega)
  rw[Q12 he hic]at hs
  obtain⟨b1,n1⟩:=Qu4 h1 h2 hl (i:=i) (by omega)
  have c1:=h1 _ (List.getElem_mem hic)
  have c2:=h2 _ (List.getElem_mem hi')
  have b2:=c1.PB
  have b3:=c2.PB.mono (K':=2^23) (E':=2^14) (by omega) (by omega)
  have l2:=c1.l
  have l3:=c2.l
  have np:=c1.n
  have nq:=c2.n
  simp only at hs
  rw[<-hgo]
  have m1:=Qmw l3 l2
  generalize hx:cs[i]=x at *
  generalize hy:ls[i]=y at *
  have bm:=Qnp b2 b3
  have b4:=bm.1.mono (K':=2^31) (E':=2^15) (by omega) (by omega)
  have l4:=bm.2
  have l5:=Qmw l2 l3
  have hmm:=Qq5 b2 b3 np.z nq.z (by omega) (by omega) (by omega) (by omega) (by omega)
  rw[Qy5 np nq]at hmm
  generalize Qaf x y=z at *
  have b5:=b1.mono (K':=2^31) (E':=2^15) (by omega) (by omega)
  generalize hS:Qb4 (cs.zip ls) i=s at *
  generalize hS':Qb4 (cs.zip ls) (i+1)=s' at *
  simp+decide (disch:=first|exact D4 h6 h15 hx hy|fail) only[go_sem,↓reduceIte,h6,h15,hx,hy]
  refine Qa hP hmm rfl rfl rfl ?_
  simp+decide (disch:=first|exact D2 h6 h15|fail) only[go_sem,↓reduceIte,h6,h15]
  refine Qa hP (Ql8 b5 b4 (by omega) (by omega) (by omega) (by omega)) rfl rfl rfl ?_
  rw[<-hs]
  simp+decide (disch:=first|exact D2 h6 h15|fail) only[go_sem,↓reduceIte,h6,h15]
  refine Qb (fun hc=> ?_) (fun hc=> ?_)
  ·simp+decide (disch:=first|exact D0|fail) only[go_sem,↓reduceIte]
   refine Qb9 (r:=PV.pe (Qa1 cs ls)) ?_ rfl rfl Qcr (Qw _)
   rw[hcr,<-hgo,hst,if_pos (by omega)];rfl
  ·simp+decide (disch:=first|exact D2 h6 h15|fail) only[go_sem,↓reduceIte,h6,h15]
   rw[if_neg (by omega)]at hst
   refine Qh (ls.length-(i+1)) (by omega) ⟨i+1,rfl,by omega,?_⟩
   rw[hS']
   refine⟨by omega,by rw[<-hst,hgo],?_⟩
   simp+decide (disch:=first|exact D0|fail) only[go_sem,↓reduceIte]
 ·obtain rfl:i=ls.length:=by omega
  simp+decide (disch:=first|exact D1 h6|fail) only[go_sem,↓reduceIte,h6]
  refine Qb9 (r:=PV.pe (Qa1 cs ls)) ?_ rfl rfl (Qw _) (Qw _)
  rw[hcr,<-hgo,List.drop_of_length_le (by omega)];rfl
theorem Q7a:Qe Tryz.prog 37 [.int .i64 1] (· =PV.rat 1):=Qtk (by omega) (by omega)
theorem Q34:Qe Tryz.prog 80 [] (· =PV.poly (Qbz 1)):=by
 have hone:=Quq
 refine Qf Qk Tryz.func80 rfl Qak9 (by simp[c80]) fun C hP=> ?_;simp only[c80,Zo,Zg,Zm,Zc,Zf,Zl,Zh,Zs,Zi,Zb,Zk,Zn,Zu,Zq,Zr,Zz]
 simp+decide (disch:=first|exact D0|fail) only[go_sem,↓reduceIte]
 refine Qa hP Q7a rfl rfl rfl ?_
 simp+decide (disch:=first|exact D0|fail) only[go_sem,↓reduceIte]
 refine Qa hP (Qtu (k:=4) (by omega) (by omega)) rfl rfl rfl ?_
 simp+decide (disch:=first|exact D0|fail) only[go_sem,↓reduceIte]
 exact Qc rfl rfl
theorem Qxa{m:Nat}{P q:List Tm}(hPr:Prd m P)(hq:Sml q)(hm:m<=1024):Qe Tryz.prog 41 [PV.poly P,PV.poly q] (· =PV.poly (Qaf P q)):=by
 have hql:=hq.l
 have bq:=hq.PB.mono (K':=2^18) (E':=2^17) (by omega) (by omega)
 have bP:=hPr.PB hm
 have lP:=hPr.l
 have m1:=Qmw hql lP
 have:=Qq5 bP bq hPr.n.z hq.n.z (by omega) (by omega) (by omega) (by omega) (by omega)
 rwa[Qy5 hPr.n hq.n]at this
theorem Qmx{fs:List (List Tm)}{ps:List Int}(h1:∀c∈fs,Sml c)(hl:fs.length<=8)(hpl:ps.length<2^40):Qe Tryz.prog 32 [PV.polys fs,PV.mono ps] (· =PV.pe (Qb5 fs ps)):=by
 refine Qf Qk Tryz.func32 rfl Qalc (by simp[c32]) fun C hP=> ?_;simp only[c32,Zo,Zg,Zm,Zc,Zf,Zl,Zh,Zs,Zi,Zb,Zk,Zn,Zu,Zq,Zr,Zz]
 simp+decide (disch:=first|exact D0|fail) only[go_sem,↓reduceIte]
 refine Qb (fun hne=> ?_) (fun hne=> ?_)
 ·simp+decide (disch:=first|exact D0|fail) only[go_sem,↓reduceIte]
  refine Qb9 (r:=PV.pe (Qb5 fs ps)) ?_ rfl rfl Qcr (Qw _)
  unfold Qb5
  rw[if_neg (by omega)]
 have he:fs.length=ps.length:=by omega
 simp+decide (disch:=first|exact D0|fail) only[go_sem,↓reduceIte]
 refine Qz (by repeat (first|exact Qv|exact Qo|exact Qp|exact Qq|exact Qr|apply Qn|apply Qu|apply Q3|apply Q7|apply Q8|apply Ql|apply Q2)) [(4,6),(15,32)] [] (fun r J hp=>∃i,r=ps.length-i/\i<=ps.length/\(∀j (hj:j<ps.length),j<i->0<=ps[j]/\ps[j]<=64)/\J 6= .int .i64 (i:Nat)) ps.length ?_ ?_
 ·refine⟨0,rfl,by omega,by omega,?_⟩
  simp+decide (disch:=first|exact D0|fail) only[go_sem,↓reduceIte]
  rfl
 rintro _ J h ⟨i,rfl,hi,hall,h19⟩
 simp+decide (disch:=first|exact D1 h19|fail) only[go_sem,↓reduceIte,h19]
 refine Qb (fun hg=> ?_) (fun hg=> ?_)
 ·have hi':i<ps.length:=by omega
  have hbad:=Qwk hi'
  have hadd:(0<=ps[i]/\ps[i]<=64)->∀j (hj:j<ps.length),j<i+1->0<=ps[j]/\ps[j]<=64:=fun h j hj hji=>by
   by_cases e:j=i
   ·subst e;exact h
   ·exact hall j hj (by omega)
  generalize hx:ps[i]=x at *
  simp+decide (disch:=first|exact D2 h19 hx|fail) only[go_sem,↓reduceIte,h19,hx]
  refine Qac (fun h6=> ?_) (fun h6=> ?_)
  ·simp+decide (disch:=first|exact D2 h19 hx|fail) only[go_sem,↓reduceIte,h19,hx]
   refine Qb9 (r:=PV.pe (Qb5 fs ps)) ?_ rfl rfl Qcr (Qw _)
   rw[Qlt he (hbad (by omega))]
  simp+decide (disch:=first|exact D2 h19 hx|fail) only[go_sem,↓reduceIte,h19,hx]
  refine Qb (fun h7=> ?_) (fun h7=> ?_)
  ·simp+decide (disch:=first|exact D2 h19 hx|fail) only[go_sem,↓reduceIte,h19,hx]
   refine Qb9 (r:=PV.pe (Qb5 fs ps)) ?_ rfl rfl Qcr (Qw _)
   rw[Qlt he (hbad (by omega))]
  simp+decide (disch:=first|exact D1 h19|fail) only[go_sem,↓reduceIte,h19]
  refine Qh (ps.length-(i+1)) (by omega) ⟨i+1,rfl,by omega,hadd (by omega),?_⟩
  simp+decide (disch:=first|exact D0|fail) only[go_sem,↓reduceIte]
 obtain rfl:i=ps.length:=by omega
 have hok:=Qwl fun j hj=>hall j hj hj
 have hpr:=Qzs he hok
 simp+decide (disch:=first|exact D0|fail) only[go_sem,↓reduceIte]
 refine Qa hP Q34 rfl rfl rfl ?_
 simp+decide (disch:=first|exact D0|fail) only[go_sem,↓reduceIte]
 refine Qz (by repeat (first|exact Qv|exact Qo|exact Qp|exact Qq|exact Qr|apply Qn|apply Qu|apply Q3|apply Q7|apply Q8|apply Ql|apply Q2)) [(4,5),(7,9),(34,56)] [] (fun r J hp=>∃i m P,r=fs.length-i/\i<=fs.length/\m<=64*i/\Prd m P/\Qfm ((Qg9 fs ps).drop i) P=Qfm (Qg9 fs ps) (Qbz 1)/\J 7=PV.poly P/\J 8= .int .i64 (i:Nat)) fs.length ?_ ?_
 ·refine⟨0,0,_,rfl,by omega,by omega,Prd.one,rfl,?_⟩
  simp+decide (disch:=first|exact D0|fail) only[go_sem,↓reduceIte]
  rfl
 rintro _ J2 h2 ⟨i,m,P,rfl,hi,hm,hPr,hgo,h8,h34⟩
 simp+decide (disch:=first|exact D1 h34|fail) only[go_sem,↓reduceIte,h34]
 refine Qb (fun hg=> ?_) (fun hg=> ?_)
 ·have hi':i<fs.length:=by omega
  have hip:i<ps.length:=by omega
  have hpw:=Qpm hok hip
  have hst:=Qq7 (l:=Qg9 fs ps) (i:=i) (p:=P) (by rw[Qha he];exact hi')
  rw[Qr1 he hi']at hst
  have hsm:=h1 _ (List.getElem_mem hi')
  simp only at hst
  obtain⟨n,hn⟩:∃n:Nat,ps[i]=n:=⟨(ps[i]).toNat,by omega⟩
  rw[hn,Int.toNat_natCast]at hst
  have hn64:n<=64:=by omega
  generalize hx:fs[i]=x at *
  simp+decide (disch:=first|exact D2 h34 h8|fail) only[go_sem,↓reduceIte,h34,h8]
  refine Qz (by repeat (first|exact Qv|exact Qo|exact Qp|exact Qq|exact Qr|apply Qn|apply Qu|apply Q3|apply Q7|apply Q8|apply Ql|apply Q2)) [(4,5),(7,7),(9,9),(40,56)] [] (fun r J hp=>∃k Q,r=n-k/\k<=n/\Prd (m+k) Q/\Qcj x (n-k) Q=Qcj x n P/\J 7=PV.poly Q/\J 9= .int .i64 (k:Nat)) n ?_ ?_
  ·refine⟨0,P,rfl,by omega,hPr,rfl,?_⟩
   simp+decide (disch:=first|exact D2 h34 h8|fail) only[go_sem,↓reduceIte,h34,h8]
   rfl
  rintro _ J3 h3 ⟨k,Q,rfl,hk,hQ,hgo2,i7,i9⟩
  simp+decide (disch:=first|exact D4 i7 i9 h34 hn|fail) only[go_sem,↓reduceIte,i7,i9,h34,hn]
  refine Qb (fun hg2=> ?_) (fun hg2=> ?_)
  ·have hk':k<n:=by omega
   have hst2:=Qk2 (q:=x) (P:=Q) hk'
   have hnx:=hQ.mul hsm
   have hmm:=Qxa hQ hsm (by omega)
   generalize Qaf Q x=Q' at *
   simp+decide (disch:=first|exact D5 i7 i9 h34 hn hx|fail) only[go_sem,↓reduceIte,i7,i9,h34,hn,hx]
   refine Qa hP hmm rfl rfl rfl ?_
   simp+decide (disch:=first|exact D4 i7 i9 h34 hn|fail) only[go_sem,↓reduceIte,i7,i9,h34,hn]
   refine Qb (fun hc=> ?_) (fun hc=> ?_)
   ·rw[if_pos (by omega)]at hst2
    rw[<-hgo2,hst2]at hst
    simp+decide (disch:=first|exact D0|fail) only[go_sem,↓reduceIte]
    refine Qb9 (r:=PV.pe (Qb5 fs ps)) ?_ rfl rfl Qcr (Qw _)
    rw[hpr,<-hgo,hst];rfl
   ·rw[if_neg (by omega)]at hst2
    simp+decide (disch:=first|exact D3 i7 i9 h34|fail) only[go_sem,↓reduceIte,i7,i9,h34]
    refine Qh (n-(k+1)) (by omega) ⟨k+1,Q',rfl,by omega,hnx (by omega),by rw[<-hgo2,hst2],?_⟩
    simp+decide (disch:=first|exact D0|fail) only[go_sem,↓reduceIte]
  ·obtain rfl:k=n:=by omega
   rw[Nat.sub_self]at hgo2
   rw[<-hgo2]at hst
   simp (disch:=decide) only[Qce,Qhe]
   simp+decide (disch:=first|exact D2 i7 h34|fail) only[go_sem,↓reduceIte,i7,h34]
   refine Qh (fs.length-(i+1)) (by omega) ⟨i+1,m+k,Q,rfl,by omega,by omega,hQ,by rw[<-hgo,hst];rfl,?_⟩
   simp+decide (disch:=first|exact D1 i7|fail) only[go_sem,↓reduceIte,i7]
 ·obtain rfl:i=fs.length:=by omega
  simp+decide (disch:=first|exact D1 h8|fail) only[go_sem,↓reduceIte,h8]
  refine Qb9 (r:=PV.pe (Qb5 fs ps)) ?_ rfl rfl (Qw _) (Qw _)
  rw[hpr,<-hgo,List.drop_of_length_le (by rw[Qha he];omega)];rfl
end Go.Proofs.YtonfajmchebkeaaGreat
namespace Go.Proofs.YtonfajmchebkeaaGreat
open Go Go.FW
set_option linter.unusedSimpArgs false
set_option linter.unusedVariables false
set_option maxRecDepth 100000
theorem Qzt{fs:List (List Tm)}{ps:List Int}{n:Int}{cs hs:List (List Tm)}{g P:List Tm}{e:Int}(h:Qb5 fs ps=(P,e)):Qjg fs ps n cs hs g=if e=0 then
  if fs.any List.isEmpty then 3
  else if n<1∨64<n then 2
  else if cs.length=hs.length then
   match Qcj g n.toNat P with
   |none=>4
   |some l=>if(Qa1 cs hs).2=0 then(if l=(Qa1 cs hs).1 then 0 else 17)else(Qa1 cs hs).2
  else 16
 else e:=by unfold Qjg;rw[h];rfl
theorem Q13{fs:List (List Tm)}{i:Nat}(h:i<fs.length)(h0:fs[i].length=0):fs.any List.isEmpty=true:=by
 rw[List.any_eq_true]
 exact⟨_,List.getElem_mem h,by rw[List.length_eq_zero_iff.1 h0];rfl⟩
theorem Q7b{fs:List (List Tm)}(h:∀j (hj:j<fs.length),fs[j].length≠0):fs.any List.isEmpty=false:=by
 rw[List.any_eq_false]
 intro x hx
 obtain⟨j,hj,rfl⟩:=List.getElem_of_mem hx
 intro e
 exact h j hj (by rw[List.isEmpty_iff.1 e];rfl)
theorem Qpp{fs:List (List Tm)}{ps:List Int}{n:Int}{cs hs:List (List Tm)}{g:List Tm}(hf:∀c∈fs,Sml c)(hfl:fs.length<=8)(hpl:ps.length<2^40)(hc:∀c∈cs,Big c)(hcl:cs.length<=8)(hh:∀c∈hs,Sml c)(hhl:hs.length<2^40)(hg:Sml g):
  Qe Tryz.prog 35 [PV.cert fs ps n cs,PV.polys hs,PV.poly g] (· = .int .i64 (Qjg fs ps n cs hs g)):=by
 have c1:=Qin hf hfl hpl
 have c2:=Qgm hc hh hcl hhl
 obtain⟨b1,_,l1⟩:=Qk3 hc hh hcl
 obtain⟨⟨P,e⟩,hR⟩:∃r,r=Qb5 fs ps:=⟨_,rfl⟩
 have hck:=Qzt (n:=n) (cs:=cs) (hs:=hs) (g:=g) hR.symm
 have hPr:=Qpn (ps:=ps) hf hfl
 rw[<-hR]at hPr
 rw[<-hR]at c1
 obtain⟨⟨s,e2⟩,hC⟩:∃r,r=Qa1 cs hs:=⟨_,rfl⟩
 rw[<-hC]at c2 hck b1 l1
 simp only at c1 c2 hck hPr b1 l1
 refine Qf Qk Tryz.func35 rfl Qak3 (by simp[c35]) fun C hP=> ?_;simp only[c35,Zo,Zg,Zm,Zc,Zf,Zl,Zh,Zs,Zi,Zb,Zk,Zn,Zu,Zq,Zr,Zz]
 simp+decide (disch:=first|exact D0|fail) only[go_sem,↓reduceIte]
 refine Qa hP c1 rfl rfl rfl ?_
 simp+decide (disch:=first|exact D0|fail) only[go_sem,↓reduceIte]
 refine Qb (fun h1=> ?_) (fun h1=> ?_)
 ·simp+decide (disch:=first|exact D0|fail) only[go_sem,↓reduceIte]
  exact Qc (congrArg (PV.int .i64) (by rw[hck,if_neg (by omega)])) rfl
 obtain rfl:e=0:=by omega
 obtain⟨m,hm,hPm⟩:=hPr rfl
 rw[if_pos rfl]at hck
 simp+decide (disch:=first|exact D0|fail) only[go_sem,↓reduceIte]
 refine Qz (by repeat (first|exact Qv|exact Qo|exact Qp|exact Qq|exact Qr|apply Qn|apply Qu|apply Q3|apply Q7|apply Q8|apply Ql|apply Q2)) [(6,6),(10,10),(26,33)] [] (fun r J hp=>∃i,r=fs.length-i/\i<=fs.length/\(∀j (hj:j<fs.length),j<i->fs[j].length≠0)/\J 26= .int .i64 (i:Nat)/\hp 3=some ⟨4,79,[PV.cert fs ps n cs],false⟩) fs.length ?_ ?_
 ·refine⟨0,rfl,by omega,by omega,?_⟩
  simp+decide (disch:=first|exact D0|fail) only[go_sem,↓reduceIte]
  rfl
 rintro _ J h ⟨i,rfl,hi,hall,h26,hb⟩
 simp+decide (disch:=first|exact D1 h26|fail) only[go_sem,↓reduceIte,h26]
 refine Qb (fun hg2=> ?_) (fun hg2=> ?_)
 ·have hi':i<fs.length:=by omega
  have hany:=Q13 hi'
  have hadd:fs[i].length≠0->∀j (hj:j<fs.length),j<i+1->fs[j].length≠0:=fun h j hj hji=>by
   by_cases e:j=i
   ·subst e;exact h
   ·exact hall j hj (by omega)
  generalize hx:fs[i]=x at *
  simp+decide (disch:=first|exact D2 h26 hx|fail) only[go_sem,↓reduceIte,h26,hx]
  refine Qb (fun h0=> ?_) (fun h0=> ?_)
  ·simp+decide (disch:=first|exact D0|fail) only[go_sem,↓reduceIte]
   exact Qc (congrArg (PV.int .i64) (by rw[hck,hany (by omega)];rfl)) rfl
  simp+decide (disch:=first|exact D1 h26|fail) only[go_sem,↓reduceIte,h26]
  refine Qh (fs.length-(i+1)) (by omega) ⟨i+1,rfl,by omega,hadd (by omega),?_⟩
  simp+decide (disch:=first|exact D1 hb|fail) only[go_sem,↓reduceIte,hb]
 obtain rfl:i=fs.length:=by omega
 rw[Q7b fun j hj=>hall j hj hj]at hck
 simp only[Bool.false_eq_true,if_false]at hck
 simp+decide (disch:=first|exact D1 hb|fail) only[go_sem,↓reduceIte,hb]
 refine Qac (fun h2=> ?_) (fun h2=> ?_)
 ·simp+decide (disch:=first|exact D1 hb|fail) only[go_sem,↓reduceIte,hb]
  exact Qc (congrArg (PV.int .i64) (by rw[hck,if_pos (by omega)])) rfl
 simp+decide (disch:=first|exact D1 hb|fail) only[go_sem,↓reduceIte,hb]
 refine Qb (fun h3=> ?_) (fun h3=> ?_)
 ·simp+decide (disch:=first|exact D1 hb|fail) only[go_sem,↓reduceIte,hb]
  exact Qc (congrArg (PV.int .i64) (by rw[hck,if_pos (by omega)])) rfl
 rw[if_neg (by omega)]at hck
 obtain⟨k,rfl⟩:∃k:Nat,n=k:=⟨n.toNat,by omega⟩
 rw[Int.toNat_natCast]at hck
 simp+decide (disch:=first|exact D1 hb|fail) only[go_sem,↓reduceIte,hb]
 refine Qb (fun h4=> ?_) (fun h4=> ?_)
 ·simp+decide (disch:=first|exact D1 hb|fail) only[go_sem,↓reduceIte,hb]
  exact Qc (congrArg (PV.int .i64) (by rw[hck,if_neg (by omega)])) rfl
 rw[if_pos (by omega)]at hck
 have c3:=Qpo hPm hg (n:=k) (by omega) hm
 have hrk:=Qj6 hg k m P
 simp+decide (disch:=first|exact D1 hb|fail) only[go_sem,↓reduceIte,hb]
 refine Qa hP c3 rfl rfl rfl ?_
 unfold Qk1
 cases hr:Qcj g k P with
 |none=>
  rw[hr]at hck
  simp+decide (disch:=first|omega|rfl|(simp+decide only[go_sem,↓reduceIte,hb,Qg8]<;>rfl)|fail) only[go_sem,↓reduceIte,hb,Qg8]
  exact Qc (congrArg (PV.int .i64) hck.symm) rfl
 | some L=>
  have hL:=hrk L hPm hr
  rw[hr]at hck
  simp only at hck
  have bL:=(hL.PB (by omega)).mono (K':=268435456) (E':=131072) (by omega) (by omega)
  have lL:=hL.l
  have b2:=b1.mono (K':=268435456) (E':=131072) (by omega) (by omega)
  simp+decide (disch:=first|omega|rfl|(simp+decide only[go_sem,↓reduceIte,hb,Qg8]<;>rfl)|fail) only[go_sem,↓reduceIte,hb,Qg8]
  refine Qa hP c2 rfl rfl rfl ?_
  simp+decide (disch:=first|exact D1 hb|fail) only[go_sem,↓reduceIte,hb]
  refine Qb (fun h5=> ?_) (fun h5=> ?_)
  ·simp+decide (disch:=first|exact D1 hb|fail) only[go_sem,↓reduceIte,hb]
   exact Qc (congrArg (PV.int .i64) (by rw[hck,if_neg (by omega)])) rfl
  rw[if_pos (by omega)]at hck
  simp+decide (disch:=first|exact D1 hb|fail) only[go_sem,↓reduceIte,hb]
  refine Qa hP (Qkz bL b2 (by omega) (by omega) (by omega) (by omega)) rfl rfl rfl ?_
  by_cases hq:L=s
  ·rw[if_pos hq]at hck
   simp+decide (disch:=first|exact D1 hq|fail) only[go_sem,↓reduceIte,hq]
   exact Qc (congrArg (PV.int .i64) hck.symm) rfl
  ·rw[if_neg hq]at hck
   simp+decide (disch:=first|exact D1 hq|fail) only[go_sem,↓reduceIte,hq]
   exact Qc (congrArg (PV.int .i64) hck.symm) rfl
theorem Qzu{fs:List (List Tm)}{ps:List Int}{n:Int}{cs hs:List (List Tm)}{g:List Tm}(hf:∀c∈fs,Sml c)(hfl:fs.length<=8)(hpl:ps.length<2^40)(hc:∀c∈cs,Big c)(hcl:cs.length<=8)(hh:∀c∈hs,Sml c)(hhl:hs.length<2^40)(hg:Sml g):
  Qe Tryz.prog 36 [PV.cert fs ps n cs,PV.polys hs,PV.poly g] (· = .int .i64 (Qjg fs ps n cs hs g)):=by
 have c1:=Qmx hf hfl hpl
 have c2:=Qio hc hh hcl hhl
 obtain⟨b1,_,l1⟩:=Qk3 hc hh hcl
 obtain⟨⟨P,e⟩,hR⟩:∃r,r=Qb5 fs ps:=⟨_,rfl⟩
 have hck:=Qzt (n:=n) (cs:=cs) (hs:=hs) (g:=g) hR.symm
 have hPr:=Qpn (ps:=ps) hf hfl
 rw[<-hR]at hPr
 rw[<-hR]at c1
 obtain⟨⟨s,e2⟩,hC⟩:∃r,r=Qa1 cs hs:=⟨_,rfl⟩
 rw[<-hC]at c2 hck b1 l1
 simp only at c1 c2 hck hPr b1 l1
 refine Qf Qk Tryz.func36 rfl Qald (by simp[c36]) fun C hP=> ?_;simp only[c36,Zo,Zg,Zm,Zc,Zf,Zl,Zh,Zs,Zi,Zb,Zk,Zn,Zu,Zq,Zr,Zz]
 simp+decide (disch:=first|exact D0|fail) only[go_sem,↓reduceIte]
 refine Qa hP c1 rfl rfl rfl ?_
 simp+decide (disch:=first|exact D0|fail) only[go_sem,↓reduceIte]
 refine Qb (fun h1=> ?_) (fun h1=> ?_)
 ·simp+decide (disch:=first|exact D0|fail) only[go_sem,↓reduceIte]
  exact Qc (congrArg (PV.int .i64) (by rw[hck,if_neg (by omega)])) rfl
 obtain rfl:e=0:=by omega
 obtain⟨m,hm,hPm⟩:=hPr rfl
 rw[if_pos rfl]at hck
 simp+decide (disch:=first|exact D0|fail) only[go_sem,↓reduceIte]
 refine Qz (by repeat (first|exact Qv|exact Qo|exact Qp|exact Qq|exact Qr|apply Qn|apply Qu|apply Q3|apply Q7|apply Q8|apply Ql|apply Q2)) [(6,6),(9,9),(24,37)] [] (fun r J hp=>∃i,r=fs.length-i/\i<=fs.length/\(∀j (hj:j<fs.length),j<i->fs[j].length≠0)/\J 9= .int .i64 (i:Nat)/\hp 3=some ⟨4,79,[PV.cert fs ps n cs],false⟩) fs.length ?_ ?_
 ·refine⟨0,rfl,by omega,by omega,?_⟩
  simp+decide (disch:=first|exact D0|fail) only[go_sem,↓reduceIte]
  rfl
 rintro _ J h ⟨i,rfl,hi,hall,h26,hb⟩
 simp+decide (disch:=first|exact D2 h26 hb|fail) only[go_sem,↓reduceIte,h26,hb]
 refine Qb (fun hg2=> ?_) (fun hg2=> ?_)
 ·have hi':i<fs.length:=by omega
  have hany:=Q13 hi'
  have hadd:fs[i].length≠0->∀j (hj:j<fs.length),j<i+1->fs[j].length≠0:=fun h j hj hji=>by
   by_cases e:j=i
   ·subst e;exact h
   ·exact hall j hj (by omega)
  generalize hx:fs[i]=x at *
  simp+decide (disch:=first|exact D3 h26 hb hx|fail) only[go_sem,↓reduceIte,h26,hb,hx]
  refine Qb (fun h0=> ?_) (fun h0=> ?_)
  ·simp+decide (disch:=first|exact D0|fail) only[go_sem,↓reduceIte]
   exact Qc (congrArg (PV.int .i64) (by rw[hck,hany (by omega)];rfl)) rfl
  simp+decide (disch:=first|exact D2 h26 hb|fail) only[go_sem,↓reduceIte,h26,hb]
  refine Qh (fs.length-(i+1)) (by omega) ⟨i+1,rfl,by omega,hadd (by omega),?_⟩
  simp+decide (disch:=first|exact D1 hb|fail) only[go_sem,↓reduceIte,hb]
 obtain rfl:i=fs.length:=by omega
 rw[Q7b fun j hj=>hall j hj hj]at hck
 simp only[Bool.false_eq_true,if_false]at hck
 simp+decide (disch:=first|exact D1 hb|fail) only[go_sem,↓reduceIte,hb]
 refine Qac (fun h2=> ?_) (fun h2=> ?_)
 ·simp+decide (disch:=first|exact D1 hb|fail) only[go_sem,↓reduceIte,hb]
  exact Qc (congrArg (PV.int .i64) (by rw[hck,if_pos (by omega)])) rfl
 simp+decide (disch:=first|exact D1 hb|fail) only[go_sem,↓reduceIte,hb]
 refine Qb (fun h3=> ?_) (fun h3=> ?_)
 ·simp+decide (disch:=first|exact D1 hb|fail) only[go_sem,↓reduceIte,hb]
  exact Qc (congrArg (PV.int .i64) (by rw[hck,if_pos (by omega)])) rfl
 rw[if_neg (by omega)]at hck
 obtain⟨k,rfl⟩:∃k:Nat,n=k:=⟨n.toNat,by omega⟩
 rw[Int.toNat_natCast]at hck
 simp+decide (disch:=first|exact D1 hb|fail) only[go_sem,↓reduceIte,hb]
 refine Qb (fun h4=> ?_) (fun h4=> ?_)
 ·simp+decide (disch:=first|exact D1 hb|fail) only[go_sem,↓reduceIte,hb]
  exact Qc (congrArg (PV.int .i64) (by rw[hck,if_neg (by omega)])) rfl
 rw[if_pos (by omega)]at hck
 simp+decide (disch:=first|exact D1 hb|fail) only[go_sem,↓reduceIte,hb]
 refine Qz (by repeat (first|exact Qv|exact Qo|exact Qp|exact Qq|exact Qr|apply Qn|apply Qu|apply Q3|apply Q7|apply Q8|apply Ql|apply Q2)) [(6,7),(10,10),(52,63)] [] (fun r J hp=>∃i Q,r=k-i/\i<=k/\Prd (m+i) Q/\Qcj g (k-i) Q=Qcj g k P/\J 7=PV.poly Q/\J 10= .int .i64 (i:Nat)/\hp 3=some ⟨4,79,[PV.cert fs ps k cs],false⟩) k ?_ ?_
 ·refine⟨0,P,rfl,by omega,hPm,rfl,?_⟩
  simp+decide (disch:=first|exact D1 hb|fail) only[go_sem,↓reduceIte,hb]
  rfl
 rintro _ J2 h' ⟨i,Q,rfl,hi2,hQ,hgo,h7,h10,hb'⟩
 simp+decide (disch:=first|exact D2 h10 hb'|fail) only[go_sem,↓reduceIte,h10,hb']
 refine Qb (fun hg3=> ?_) (fun hg3=> ?_)
 ·have hi':i<k:=by omega
  have hst:=Qk2 (q:=g) (P:=Q) hi'
  have hnx:=hQ.mul hg
  have hmm:=Qxa hQ hg (by omega)
  generalize Qaf Q g=Q' at *
  simp+decide (disch:=first|exact D3 h7 h10 hb'|fail) only[go_sem,↓reduceIte,h7,h10,hb']
  refine Qa hP hmm rfl rfl rfl ?_
  simp+decide (disch:=first|exact D2 h10 hb'|fail) only[go_sem,↓reduceIte,h10,hb']
  refine Qb (fun hc5=> ?_) (fun hc5=> ?_)
  ·rw[if_pos (by omega)]at hst
   rw[<-hgo,hst]at hck
   simp+decide (disch:=first|exact D0|fail) only[go_sem,↓reduceIte]
   exact Qc (congrArg (PV.int .i64) hck.symm) rfl
  ·rw[if_neg (by omega)]at hst
   simp+decide (disch:=first|exact D1 h10|fail) only[go_sem,↓reduceIte,h10]
   refine Qh (k-(i+1)) (by omega) ⟨i+1,Q',rfl,by omega,hnx (by omega),by rw[<-hgo,hst],?_⟩
   simp+decide (disch:=first|exact D1 hb'|fail) only[go_sem,↓reduceIte,hb']
 ·obtain rfl:i=k:=by omega
  rw[Nat.sub_self]at hgo
  rw[<-hgo]at hck
  have hck2:Qjg fs ps i cs hs g=if e2=0 then(if Q=s then 0 else 17)else e2:=hck
  have bL:=(hQ.PB (by omega)).mono (K':=268435456) (E':=131072) (by omega) (by omega)
  have lL:=hQ.l
  have b2:=b1.mono (K':=268435456) (E':=131072) (by omega) (by omega)
  simp+decide (disch:=first|exact D2 h7 hb'|fail) only[go_sem,↓reduceIte,h7,hb']
  refine Qa hP c2 rfl rfl rfl ?_
  simp+decide (disch:=first|exact D2 h7 hb'|fail) only[go_sem,↓reduceIte,h7,hb']
  refine Qb (fun h5=> ?_) (fun h5=> ?_)
  ·simp+decide (disch:=first|exact D1 hb'|fail) only[go_sem,↓reduceIte,hb']
   exact Qc (congrArg (PV.int .i64) (by rw[hck2,if_neg (by omega)])) rfl
  rw[if_pos (by omega)]at hck2
  simp+decide (disch:=first|exact D2 h7 hb'|fail) only[go_sem,↓reduceIte,h7,hb']
  refine Qa hP (Qdi bL b2 (by omega) (by omega) (by omega) (by omega)) rfl rfl rfl ?_
  by_cases hq:Q=s
  ·rw[if_pos hq]at hck2
   simp+decide (disch:=first|exact D1 hq|fail) only[go_sem,↓reduceIte,hq]
   exact Qc (congrArg (PV.int .i64) hck2.symm) rfl
  ·rw[if_neg hq]at hck2
   simp+decide (disch:=first|exact D1 hq|fail) only[go_sem,↓reduceIte,hq]
   exact Qc (congrArg (PV.int .i64) hck2.symm) rfl
abbrev PV.elt(p:List Tm)(cs:List (List Tm)):PV:= .agg [PV.poly p,PV.polys cs]
def Qh6(p:List Tm)(cs ls:List (List Tm)):Bool:=decide ((Qa1 cs ls).2=0)&&decide ((Qa1 cs ls).1=p)
theorem Qk4{p:List Tm}{cs ls:List (List Tm)}(hp:PB (2^30) (2^20) p)(hpl:p.length<=2^20)(h1:∀c∈cs,Big c)(h2:∀c∈ls,Sml c)(hl:cs.length<=8)(hll:ls.length<2^40):Qe Tryz.prog 47 [PV.elt p cs,PV.polys ls] (· = .bool (Qh6 p cs ls)):=by
 have hc:=Qgm h1 h2 hl hll
 obtain⟨b1,_,l1⟩:=Qk3 h1 h2 hl
 obtain⟨⟨s,e⟩,hC⟩:∃r,r=Qa1 cs ls:=⟨_,rfl⟩
 have hrr:Qh6 p cs ls=(decide (e=0)&&decide (s=p)):=by unfold Qh6;rw[<-hC]
 rw[<-hC]at hc b1 l1
 simp only at hc b1 l1
 have b2:=b1.mono (K':=2^30) (E':=2^20) (by omega) (by omega)
 refine Qf Qk Tryz.func47 rfl Qak4 (by simp[c47]) fun C hP=> ?_;simp only[c47,Zo,Zg,Zm,Zc,Zf,Zl,Zh,Zs,Zi,Zb,Zk,Zn,Zu,Zq,Zr,Zz]
 simp+decide (disch:=first|exact D0|fail) only[go_sem,↓reduceIte]
 refine Qa hP hc rfl rfl rfl ?_
 simp+decide (disch:=first|exact D0|fail) only[go_sem,↓reduceIte]
 refine Qag (fun he=> ?_) (fun he=> ?_)
 ·simp+decide (disch:=first|exact D0|fail) only[go_sem,↓reduceIte]
  refine Qa hP (Qkz b2 hp (by omega) (by omega) (by omega) (by omega)) rfl rfl rfl ?_
  simp+decide (disch:=first|exact D0|fail) only[go_sem,↓reduceIte]
  exact Qc (by rw[hrr,decide_eq_true (show e=0 by omega),Bool.true_and]) rfl
 ·simp+decide (disch:=first|exact D0|fail) only[go_sem,↓reduceIte]
  exact Qc (by rw[hrr,decide_eq_false (show ¬e=0 by omega)];rfl) rfl
theorem Qu5{p:List Tm}{cs ls:List (List Tm)}(hp:PB (2^30) (2^20) p)(hpl:p.length<=2^20)(h1:∀c∈cs,Big c)(h2:∀c∈ls,Sml c)(hl:cs.length<=8)(hll:ls.length<2^40):Qe Tryz.prog 48 [PV.elt p cs,PV.polys ls] (· = .bool (Qh6 p cs ls)):=by
 have hc:=Qio h1 h2 hl hll
 obtain⟨b1,_,l1⟩:=Qk3 h1 h2 hl
 obtain⟨⟨s,e⟩,hC⟩:∃r,r=Qa1 cs ls:=⟨_,rfl⟩
 have hrr:Qh6 p cs ls=(decide (e=0)&&decide (s=p)):=by unfold Qh6;rw[<-hC]
 rw[<-hC]at hc b1 l1
 simp only at hc b1 l1
 have b2:=b1.mono (K':=2^30) (E':=2^20) (by omega) (by omega)
 refine Qf Qk Tryz.func48 rfl Qalb (by simp[c48]) fun C hP=> ?_;simp only[c48,Zo,Zg,Zm,Zc,Zf,Zl,Zh,Zs,Zi,Zb,Zk,Zn,Zu,Zq,Zr,Zz]
 simp+decide (disch:=first|exact D0|fail) only[go_sem,↓reduceIte]
 refine Qa hP hc rfl rfl rfl ?_
 simp+decide (disch:=first|exact D0|fail) only[go_sem,↓reduceIte]
 refine Qag (fun he=> ?_) (fun he=> ?_)
 ·simp+decide (disch:=first|exact D0|fail) only[go_sem,↓reduceIte]
  refine Qa hP (Qdi b2 hp (by omega) (by omega) (by omega) (by omega)) rfl rfl rfl ?_
  simp+decide (disch:=first|exact D0|fail) only[go_sem,↓reduceIte]
  exact Qc (by rw[hrr,decide_eq_true (show e=0 by omega),Bool.true_and]) rfl
 ·simp+decide (disch:=first|exact D0|fail) only[go_sem,↓reduceIte]
  exact Qc (by rw[hrr,decide_eq_false (show ¬e=0 by omega)];rfl) rfl
end Go.Proofs.YtonfajmchebkeaaGreat
namespace Go.Proofs.YtonfajmchebkeaaGreat
open Go Go.FW
set_option linter.unusedSimpArgs false
set_option linter.unusedVariables false
set_option maxRecDepth 100000
def Qzv(l:List (List Tm)):Prop:=(∀p∈l,PB 1073741824 1048576 p/\p.length<=1048576)/\l.length<2^40
theorem Qr3{α:Type}{a b:List α}(h:a.length=b.length)(h2:∀j (h1:j<a.length) (h2:j<b.length),a[j]=b[j]):a=b:=List.ext_getElem h h2
theorem Q14{α:Type}{a b:List α}{j:Nat}(h1:j<a.length)(h2:j<b.length)(h:a[j]≠b[j]):a≠b:=fun e=>h (by subst e;rfl)
theorem Qu6{α:Type}{a b:List α}(h:¬a.length=b.length):a≠b:=fun e=>h (by rw[e])
theorem i_samePolys{a b:List (List Tm)}(ha:Qzv a)(hb:Qzv b):Qe Tryz.prog 95 [PV.polys a,PV.polys b] (· = .bool (decide (a=b))):=by
 have la:=ha.2
 have lb:=hb.2
 refine Qf Qk Tryz.func95 rfl Qak8 (by simp[c95]) fun C hP=> ?_;simp only[c95,Zo,Zg,Zm,Zc,Zf,Zl,Zh,Zs,Zi,Zb,Zk,Zn,Zu,Zq,Zr,Zz]
 simp+decide (disch:=first|exact D0|fail) only[go_sem,↓reduceIte]
 refine Qb (fun hl=> ?_) (fun hl=> ?_)
 ·simp+decide (disch:=first|exact D0|fail) only[go_sem,↓reduceIte]
  exact Qc (by rw[decide_eq_false (Qu6 (by omega))]) rfl
 have hl':a.length=b.length:=by omega
 simp+decide (disch:=first|exact D0|fail) only[go_sem,↓reduceIte]
 refine Qz (by repeat (first|exact Qv|exact Qo|exact Qp|exact Qq|exact Qr|apply Qn|apply Qu|apply Q3|apply Q7|apply Q8|apply Ql|apply Q2)) [(4,5),(13,26)] [] (fun m J hp=>∃i,m=a.length-i/\i<=a.length/\(∀j (h1:j<a.length) (h2:j<b.length),j<i->a[j]=b[j])/\J 13= .int .i64 (i:Nat)) a.length ?_ ?_
 ·refine⟨0,rfl,by omega,by omega,?_⟩
  simp+decide (disch:=first|exact D0|fail) only[go_sem,↓reduceIte]
  rfl
 rintro _ J h ⟨i,rfl,hi,h1,h13⟩
 simp+decide (disch:=first|exact D1 h13|fail) only[go_sem,↓reduceIte,h13]
 refine Qb (fun hg=> ?_) (fun hg=> ?_)
 ·have hi':i<a.length:=by omega
  have hib:i<b.length:=by omega
  obtain⟨g1,g2⟩:=ha.1 _ (List.getElem_mem hi')
  obtain⟨g3,g4⟩:=hb.1 _ (List.getElem_mem hib)
  have hne:=Q14 hi' hib
  have hadd:a[i]=b[i]->∀j (h1:j<a.length) (h2:j<b.length),j<i+1->a[j]=b[j]:=fun h j hj hj2 hji=>by
   by_cases e:j=i
   ·subst e;exact h
   ·exact h1 j hj hj2 (by omega)
  generalize hx:a[i]=x at *
  generalize hy:b[i]=y at *
  simp+decide (disch:=first|exact D3 h13 hx hy|fail) only[go_sem,↓reduceIte,h13,hx,hy]
  refine Qa hP (Qkz g1 g3 (by omega) (by omega) (by omega) (by omega)) rfl rfl rfl ?_
  by_cases e:x=y
  ·simp+decide (disch:=first|exact D2 h13 e|fail) only[go_sem,↓reduceIte,h13,e]
   refine Qh (a.length-(i+1)) (by omega) ⟨i+1,rfl,by omega,hadd e,?_⟩
   simp+decide (disch:=first|exact D0|fail) only[go_sem,↓reduceIte]
  ·simp+decide (disch:=first|exact D2 h13 e|fail) only[go_sem,↓reduceIte,h13,e]
   exact Qc (by rw[decide_eq_false (hne e)]) rfl
 ·obtain rfl:i=a.length:=by omega
  simp+decide (disch:=first|exact D0|fail) only[go_sem,↓reduceIte]
  exact Qc (by rw[decide_eq_true (Qr3 hl' fun j g1 g2=>h1 j g1 g2 g1)]) rfl
theorem Q35{a b:List (List Tm)}(ha:Qzv a)(hb:Qzv b):Qe Tryz.prog 76 [PV.polys a,PV.polys b] (· = .bool (decide (a=b))):=by
 have la:=ha.2
 have lb:=hb.2
 refine Qf Qk Tryz.func76 rfl Qale (by simp[c76]) fun C hP=> ?_;simp only[c76,Zo,Zg,Zm,Zc,Zf,Zl,Zh,Zs,Zi,Zb,Zk,Zn,Zu,Zq,Zr,Zz]
 simp+decide (disch:=first|exact D0|fail) only[go_sem,↓reduceIte]
 refine Qz (by repeat (first|exact Qv|exact Qo|exact Qp|exact Qq|exact Qr|apply Qn|apply Qu|apply Q3|apply Q7|apply Q8|apply Ql|apply Q2)) [(4,27)] [] (fun m J hp=>∃i,m=a.length-i/\i<=a.length/\i<=b.length/\(∀j (h1:j<a.length) (h2:j<b.length),j<i->a[j]=b[j])/\J 5= .int .i64 (i:Nat)) a.length ?_ ?_
 ·refine⟨0,rfl,by omega,by omega,by omega,?_⟩
  simp+decide (disch:=first|exact D0|fail) only[go_sem,↓reduceIte]
  rfl
 rintro _ J h ⟨i,rfl,hi,hib0,h1,h5⟩
 simp+decide (disch:=first|exact D1 h5|fail) only[go_sem,↓reduceIte,h5]
 refine Qag (fun hg=> ?_) (fun hg=> ?_)
 ·have hi':i<a.length:=by omega
  simp+decide (disch:=first|exact D1 h5|fail) only[go_sem,↓reduceIte,h5]
  refine Qb (fun hg2=> ?_) (fun hg2=> ?_)
  ·have hib1:i<b.length:=by omega
   have hib:i<b.length:=by omega
   obtain⟨g1,g2⟩:=ha.1 _ (List.getElem_mem hi')
   obtain⟨g3,g4⟩:=hb.1 _ (List.getElem_mem hib)
   have hne:=Q14 hi' hib
   have hadd:a[i]=b[i]->∀j (h1:j<a.length) (h2:j<b.length),j<i+1->a[j]=b[j]:=fun h j hj hj2 hji=>by
    by_cases e:j=i
    ·subst e;exact h
    ·exact h1 j hj hj2 (by omega)
   generalize hx:a[i]=x at *
   generalize hy:b[i]=y at *
   simp+decide (disch:=first|exact D3 h5 hx hy|fail) only[go_sem,↓reduceIte,h5,hx,hy]
   refine Qa hP (Qdi g1 g3 (by omega) (by omega) (by omega) (by omega)) rfl rfl rfl ?_
   by_cases e:x=y
   ·simp+decide (disch:=first|exact D2 h5 e|fail) only[go_sem,↓reduceIte,h5,e]
    refine Qh (a.length-(i+1)) (by omega) ⟨i+1,rfl,by omega,by omega,hadd e,?_⟩
    simp+decide (disch:=first|exact D0|fail) only[go_sem,↓reduceIte]
   ·simp+decide (disch:=first|exact D2 h5 e|fail) only[go_sem,↓reduceIte,h5,e]
    exact Qc (by rw[decide_eq_false (hne e)]) rfl
  ·
   simp+decide (disch:=first|exact D1 h5|fail) only[go_sem,↓reduceIte,h5]
   refine Qc ?_ rfl
   by_cases e:a.length=b.length
   ·rw[decide_eq_true (Qr3 e fun j g1 g2=>h1 j g1 g2 (by omega)),decide_eq_true (by omega)]
   ·rw[decide_eq_false (Qu6 e),decide_eq_false (by omega)]
 ·
  simp+decide (disch:=first|exact D1 h5|fail) only[go_sem,↓reduceIte,h5]
  refine Qc ?_ rfl
  by_cases e:a.length=b.length
  ·rw[decide_eq_true (Qr3 e fun j g1 g2=>h1 j g1 g2 (by omega)),decide_eq_true (by omega)]
  ·rw[decide_eq_false (Qu6 e),decide_eq_false (by omega)]
end Go.Proofs.YtonfajmchebkeaaGreat
namespace Go.Proofs.YtonfajmchebkeaaGreat
open Go Go.FW
set_option linter.unusedSimpArgs false
set_option linter.unusedVariables false
set_option maxRecDepth 100000
end Go.Proofs.YtonfajmchebkeaaGreat
namespace Go.Proofs.YtonfajmchebkeaaGreat
open Go Go.FW
set_option linter.unusedSimpArgs false
set_option linter.unusedVariables false
set_option maxRecDepth 100000
theorem Qacy(v:Nat)(n:Int)(h:n=((n.toNat:Nat):Int)):(List.replicate (v+1) (0:Int)).set v n=Qh1 v n.toNat:=by
 unfold Qh1
 rw[<-h]
 induction v with
 |zero=>rfl
 |succ v ih=>rw[List.replicate_succ,List.set_cons_succ,ih];rfl
end Go.Proofs.YtonfajmchebkeaaGreat
namespace Go.Proofs.YtonfajmchebkeaaGreat
open Go Go.FW
set_option linter.unusedSimpArgs false
set_option linter.unusedVariables false
set_option maxRecDepth 100000
end Go.Proofs.YtonfajmchebkeaaGreat
namespace Go.Proofs.YtonfajmchebkeaaGreat
open Go Go.FW
set_option linter.unusedSimpArgs false
set_option linter.unusedVariables false
set_option maxRecDepth 100000
end Go.Proofs.YtonfajmchebkeaaGreat
namespace Go.Proofs.YtonfajmchebkeaaGreat
open Go Go.FW
set_option linter.unusedSimpArgs false
set_option linter.unusedVariables false
set_option maxRecDepth 100000
end Go.Proofs.YtonfajmchebkeaaGreat
namespace Go.Proofs.YtonfajmchebkeaaGreat
open Go Go.FW
set_option linter.unusedSimpArgs false
set_option linter.unusedVariables false
set_option maxRecDepth 100000
theorem Qu7{k:Nat}{a b:List Int}(ha:MB k a)(hb:MB k b):Qe Tryz.prog 218 [PV.mono a,PV.mono b] (· = .bool (Qfs a b)):=by
 have h1:=ha.len
 have h2:=hb.len
 refine Qf Qk Tryz.func218 rfl Qahf (by simp[c218]) fun C hP=> ?_;simp only[c218,Zo,Zg,Zm,Zc,Zf,Zl,Zh,Zs,Zi,Zb,Zk,Zn,Zu,Zq,Zr,Zz]
 simp+decide (disch:=first|exact D0|fail) only[go_sem,↓reduceIte]
 refine Qz (by repeat (first|exact Qv|exact Qo|exact Qp|exact Qq|exact Qr|apply Qn|apply Qu|apply Q3|apply Q7|apply Q8|apply Ql|apply Q2)) [(4,6),(9,19)] [] (fun n J hp=>∃i,n=a.length-i/\i<=a.length/\(∀j,j<i->eN a j<=eN b j)/\J 9= .int .i64 (i:Nat)) a.length ?_ ?_
 ·refine⟨0,rfl,by omega,by omega,?_⟩
  simp+decide (disch:=first|exact D0|fail) only[go_sem,↓reduceIte]
  rfl
 rintro _ J h ⟨i,rfl,hi,hj,h9⟩
 simp+decide (disch:=first|exact D1 h9|fail) only[go_sem,↓reduceIte,h9]
 refine Qb (fun hg=> ?_) (fun hg=> ?_)
 ·have hi':i<a.length:=by omega
  have he:=Qcv hi'
  have hf:=Q30 (b:=b) hi'
  generalize hx:a[i]=x at *
  simp+decide (disch:=first|exact D2 h9 hx|fail) only[go_sem,↓reduceIte,h9,hx]
  refine Qa hP (Qjf (by omega)) rfl rfl rfl ?_
  simp+decide (disch:=first|exact D2 h9 hx|fail) only[go_sem,↓reduceIte,h9,hx]
  refine Qb (fun hc=> ?_) (fun hc=> ?_)
  ·simp+decide (disch:=first|exact D0|fail) only[go_sem,↓reduceIte]
   exact Qc (congrArg PV.bool (hf (by omega)).symm) rfl
  ·simp+decide (disch:=first|exact D1 h9|fail) only[go_sem,↓reduceIte,h9]
   refine Qh (a.length-(i+1)) (by omega) ⟨i+1,rfl,by omega,fun j hji=> ?_,?_⟩
   ·by_cases e:j=i
    ·subst e;omega
    ·exact hj j (by omega)
   ·simp+decide (disch:=first|exact D0|fail) only[go_sem,↓reduceIte]
 ·obtain rfl:i=a.length:=by omega
  simp+decide (disch:=first|exact D0|fail) only[go_sem,↓reduceIte]
  exact Qc (congrArg PV.bool (Q65 hj).symm) rfl
theorem Q0v{x y:Int}(h1: -9223372036854775808<=x-y)(h2:x-y<=9223372036854775807):Qe Tryz.prog 221 [.int .i64 x,.int .i64 y] (· = .int .i64 (x-y)):=by
 refine Qf Qk Tryz.func221 rfl Qahh (by simp[c221]) fun C hP=> ?_;simp only[c221,Zo,Zg,Zm,Zc,Zf,Zl,Zh,Zs,Zi,Zb,Zk,Zn,Zu,Zq,Zr,Zz]
 simp+decide (disch:=first|exact D0|fail) only[go_sem,↓reduceIte]
 exact Qc rfl rfl
theorem Q36{k:Nat}{a b:List Int}(ha:MB k a)(hb:MB k b)(hk:k<=1099511627776):Qe Tryz.prog 167 [PV.mono a,PV.mono b] (· =if Qfs b a=true then .tup [PV.mono (Qb3 a b),.bool true]else .tup [PV.mono [],.bool false]):=by
 have h1:=ha.len
 have h2:=hb.len
 have hz:=Qbq (· - ·) a b
 refine Qf Qk Tryz.func167 rfl Qahg (by simp[c167]) fun C hP=> ?_;simp only[c167,Zo,Zg,Zm,Zc,Zf,Zl,Zh,Zs,Zi,Zb,Zk,Zn,Zu,Zq,Zr,Zz]
 simp+decide (disch:=first|exact D0|fail) only[go_sem,↓reduceIte]
 refine Qa hP (Qu7 hb ha) rfl rfl rfl ?_
 cases hd:Qfs b a
 ·simp+decide (disch:=first|exact D0|fail) only[go_sem,↓reduceIte]
  exact Qb9 rfl rfl rfl Q9f (Qw _)
 ·simp+decide (disch:=first|exact D0|fail) only[go_sem,↓reduceIte]
  refine Qa hP (Qmr (f:=221) (g:=(· - ·)) (by omega) (by omega) (fun i=>Q0v (by have:=ha.eN i;have:=hb.eN i;omega) (by have:=ha.eN i;have:=hb.eN i;omega))) rfl rfl rfl ?_
  simp+decide (disch:=first|exact D0|fail) only[go_sem,↓reduceIte]
  refine Qa hP (Qq2 (by omega)) rfl rfl rfl ?_
  simp+decide (disch:=first|exact D0|fail) only[go_sem,↓reduceIte]
  exact Qb9 rfl rfl rfl (Qw _) (Qw _)
theorem Q7c{x y:Int}(hx:nl x.natAbs<2^38)(hy:nl y.natAbs<2^38)(h0:y≠0):Qe Tryz.prog 217 [PV.zz x,PV.zz y] (· = .tup [PV.rat ((x:Rat)/(y:Rat)),.int .i64 0]):=by
 have hv:=Qtp x y h0
 have hr:=Qo8 (n:=decide (x<0) !=decide (y<0)) (a:=dig x.natAbs) (d:=dig y.natAbs) (Qj _) (Qj _) hx hy
 rw[rv,Q4,hv]at hr
 have hs:=Qiv (n:=decide (y<0)) (a:=dig y.natAbs) (Qj _) (by show nl _<_;omega)
 rw[Qfg]at hs
 generalize(x:Rat)/(y:Rat)=Q at *
 refine Qf Qk Tryz.func217 rfl Qafm (by simp[c217]) fun C hP=> ?_;simp only[c217,Zo,Zg,Zm,Zc,Zf,Zl,Zh,Zs,Zi,Zb,Zk,Zn,Zu,Zq,Zr,Zz]
 simp+decide (disch:=first|exact D0|fail) only[go_sem,↓reduceIte]
 refine Qa hP hs rfl rfl rfl ?_
 simp+decide (disch:=first|exact D0|fail) only[go_sem,↓reduceIte]
 refine Qb (fun h=>absurd (Qyk.1 h) h0) (fun _=> ?_)
 simp+decide (disch:=first|exact D0|fail) only[go_sem,↓reduceIte]
 refine Qa hP hr rfl rfl rfl ?_
 simp+decide (disch:=first|exact D0|fail) only[go_sem,↓reduceIte]
 refine Qhw ?_
 simp+decide (disch:=first|exact D0|fail) only[go_sem,↓reduceIte]
 exact Qb9 rfl rfl rfl (Qw _) (Qw _)
theorem Q7d{n m:Bool}{a d b c:List Nat}{k:Nat}(hp:Raw k n a d)(hq:Raw k m b c)(hk:k<2^34)(h0:rv m b c≠0):Qe Tryz.prog 165 [PV.rr n a d,PV.rr m b c] (· = .tup [PV.rat (rv n a d/rv m b c),.int .i64 0]):=by
 refine Qf Qk Tryz.func165 rfl Qafn (by simp[c165]) fun C hP=> ?_;simp only[c165,Zo,Zg,Zm,Zc,Zf,Zl,Zh,Zs,Zi,Zb,Zk,Zn,Zu,Zq,Zr,Zz]
 simp+decide (disch:=first|exact D0|fail) only[go_sem,↓reduceIte]
 refine Qci hP (Qds hp.la hp.ld hp.k1 hp.sa hp.sd (by omega)) rfl rfl rfl ?_
 rintro _ ⟨n',a',d',rfl,g1,g2,g3,g4,g5,g6⟩
 simp+decide (disch:=first|exact D0|fail) only[go_sem,↓reduceIte]
 refine Qci hP (Qds hq.la hq.ld hq.k1 hq.sa hq.sd (by omega)) rfl rfl rfl ?_
 rintro _ ⟨m',b',c',rfl,e1,e2,e3,e4,e5,e6⟩
 simp+decide (disch:=first|exact D0|fail) only[go_sem,↓reduceIte]
 have hza:nl (zv n' a').natAbs<=k:=by rw[Qbd];exact Nat.le_trans (Qap g1) g3
 have hzb:nl (zv m' b').natAbs<=k:=by rw[Qbd];exact Nat.le_trans (Qap e1) e3
 have hvd:nl (val d')<=k:=Nat.le_trans (Qap g2) g4
 have hvc:nl (val c')<=k:=Nat.le_trans (Qap e2) e4
 have h3:=Qaz (zv n' a') (val c')
 have h6:=Qaz (zv m' b') (val d')
 rw[Int.natAbs_natCast]at h3 h6
 have hzb0:zv m' b'≠0:=fun h=>h0 (by rw[<-e6,rv,h,Rat.zero_mkRat])
 have hne:zv m' b'*(val d':Int)≠0:=Int.mul_ne_zero hzb0 (by omega)
 have hfin:=Qalk (n:=n') (a:=a') (m:=m') (b:=b') g5 e5 hzb0
 rw[g6,e6]at hfin
 have hm1:=Qdr (n:=n') (m:=false) g1 e2 (by omega) (by omega)
 have hm2:=Qdr (n:=m') (m:=false) e1 g2 (by omega) (by omega)
 rw[Qf4]at hm1 hm2
 refine Qa hP (Qej c') rfl rfl rfl ?_
 simp+decide (disch:=first|exact D0|fail) only[go_sem,↓reduceIte]
 refine Qa hP hm1 rfl rfl rfl ?_
 simp+decide (disch:=first|exact D0|fail) only[go_sem,↓reduceIte]
 refine Qa hP (Qej d') rfl rfl rfl ?_
 simp+decide (disch:=first|exact D0|fail) only[go_sem,↓reduceIte]
 refine Qa hP hm2 rfl rfl rfl ?_
 generalize zv n' a'*(val c':Int)=X at *
 generalize zv m' b'*(val d':Int)=Y at *
 simp+decide (disch:=first|exact D0|fail) only[go_sem,↓reduceIte]
 refine Qa hP (Q7c (x:=X) (y:=Y) (by omega) (by omega) hne) rfl rfl rfl ?_
 rw[hfin]
 generalize rv n a d/rv m b c=Q at *
 simp+decide (disch:=first|exact D0|fail) only[go_sem,↓reduceIte]
 refine Qhw ?_
 simp+decide (disch:=first|exact D0|fail) only[go_sem,↓reduceIte]
 exact Qb9 rfl rfl rfl (Qw _) (Qw _)
theorem Qadn{a b:Rat}{k:Nat}(ha:rs a<=k)(hb:rs b<=k)(hk:k<2^34)(h0:b≠0):Qe Tryz.prog 165 [PV.rat a,PV.rat b] (· = .tup [PV.rat (a/b),.int .i64 0]):=by
 have:=Q7d (Qcm ha) (Qcm hb) hk (by rw[Qc4];exact h0)
 rwa[Qc4,Qc4]at this
end Go.Proofs.YtonfajmchebkeaaGreat
namespace Go.Proofs.YtonfajmchebkeaaGreat
open Go Go.FW
set_option linter.unusedSimpArgs false
set_option linter.unusedVariables false
set_option maxRecDepth 100000
end Go.Proofs.YtonfajmchebkeaaGreat
namespace Go.Proofs.YtonfajmchebkeaaGreat
open Go Go.FW
set_option linter.unusedSimpArgs false
set_option linter.unusedVariables false
set_option maxRecDepth 100000
theorem Qo4(a b:List Int):Qa7 0 a b=Qai a b:=by unfold Qa7;rw[if_neg (by simp)]
theorem Qw3{p q:List Tm}{K E L k0:Nat}(np:Nrm p)(nq:Nrm q)(bq:PB K E q)(hq:q≠[])(hlq:q.length<=2^20)(hb:∀k,k<=k0->PB K E (exP q p k)/\(exP q p k).length<=L)(hgo:∀k,k<k0->Qey q (exP q p k))(hst:¬Qey q (exP q p k0))
  (hK:K<=2^25) (hK2:2<=K) (hE:E<=2^36) (hL:L<=2^34) (hk0:k0<=2^34):Qe Tryz.prog 89 [PV.poly p,PV.poly q] (· =exR q p k0):=by
 have hql:0<q.length:=List.length_pos_iff.2 hq
 have hqh:=Qms hql
 have hqm:=bq _ (Qav hq)
 have hq0:=nq.z _ (Qav hq)
 have hcq:=hqm.c
 have hrr:PV.le (.agg [.bool false,.nilS,.nilS]) (.agg [.bool false,.nilS,.nilS]):=Qw _
 refine Qf Qk Tryz.func89 rfl Qakv (by simp[c89]) fun C hP=> ?_;simp only[c89,Zo,Zg,Zm,Zc,Zf,Zl,Zh,Zs,Zi,Zb,Zk,Zn,Zu,Zq,Zr,Zz]
 simp+decide (disch:=first|exact D0|fail) only[go_sem,↓reduceIte]
 refine Qb (fun h=>absurd h (by omega)) (fun _=> ?_)
 simp+decide (disch:=first|exact D0|fail) only[go_sem,↓reduceIte]
 refine Qif 6 900 4 127 (by omega) T0 ?_
 refine Qz (by repeat (first|exact Qv|exact Qo|exact Qp|exact Qq|exact Qr|apply Qn|apply Qu|apply Q3|apply Q7|apply Q8|apply Ql|apply Q2)) [(0,0),(4,12),(16,76)] [9,52,55,900] (fun n J hp=>∃k,n=k0-k/\k<=k0/\J 0=PV.poly (exP q p k)/\J 6= .ms 900 k/\hp 900=some ⟨4,127,(exQ q p k).map PV.term,false⟩) k0 ?_ ?_
 ·refine⟨0,rfl,by omega,?_⟩
  simp+decide (disch:=first|exact D0|fail) only[go_sem,↓reduceIte]
  exact⟨rfl,rfl⟩
 rintro _ J h ⟨k,rfl,hk,hj0,h6,hh⟩
 obtain⟨bP,lP⟩:=hb k hk
 have hQl:=Qqc q p k
 simp+decide (disch:=first|exact D1 hj0|fail) only[go_sem,↓reduceIte,hj0]
 refine Qb (fun hg=> ?_) (fun hg=> ?_)
 ·have hPl:0<(exP q p k).length:=by omega
  have hP0:exP q p k≠[]:=List.length_pos_iff.1 hPl
  have hPh:=Qms hPl
  have hPm:=bP _ (Qav hP0)
  have hcp:=hPm.c
  have hQuo:=Q36 hPm.m hqm.m (by omega)
  have hDiv:=Qadn (a:=(hdT (exP q p k)).1) (b:=(hdT q).1) (k:=K) (by omega) (by omega) (by omega) hq0
  simp+decide (disch:=first|exact D3 hj0 hPh hqh|fail) only[go_sem,↓reduceIte,hj0,hPh,hqh]
  refine Qa hP hQuo rfl rfl rfl ?_
  cases hd:Qfs (hdT q).2 (hdT (exP q p k)).2
  ·have hk0':k=k0:=by
    apply Decidable.byContradiction;intro hne
    have:=(hgo k (by omega)).2
    rw[hd]at this;cases this
   subst hk0'
   have hres:exR q p k= .tup [PV.poly [],.bool false]:=by rw[exR,if_neg hP0]
   generalize(hdT (exP q p k)).1/(hdT q).1=a at *
   simp+decide (disch:=first|exact D3 hj0 hPh hqh|fail) only[go_sem,↓reduceIte,hj0,hPh,hqh]
   refine Qff ?_ ?_
   all_goals
    simp+decide (disch:=first|exact D3 hj0 hPh hqh|fail) only[go_sem,↓reduceIte,hj0,hPh,hqh]
    refine Qa hP hDiv rfl rfl rfl ?_
    simp+decide (disch:=first|exact D3 hj0 hPh hqh|fail) only[go_sem,↓reduceIte,hj0,hPh,hqh]
    exact Qb9 hres rfl rfl Qcr (Qw _)
  ·have hkl:k<k0:=by
    apply Decidable.byContradiction;intro hne
    obtain rfl:k=k0:=by omega
    exact hst ⟨hP0,hd⟩
   obtain⟨bN,lN⟩:=hb (k+1) hkl
   have hgk:=hgo k hkl
   have hlt:=Qzl bP bq (Qqd np nq k) nq hq hgk
   have htT:=Qalm bP bq nq hq hgk
   have hTe:exT q (exP q p k)=((hdT (exP q p k)).1/(hdT q).1,Qb3 (hdT (exP q p k)).2 (hdT q).2):=rfl
   have hPe:exP q p (k+1)=Qns (exP q p k) (Qaf [exT q (exP q p k)] q):=rfl
   have hQe:exQ q p (k+1)=exQ q p k++[exT q (exP q p k)]:=rfl
   have hQl1:=Qqc q p (k+1)
   rw[show exN q (exP q p k)=exP q p (k+1)from rfl]at hlt
   rw[hTe]at htT hPe hQe
   generalize(hdT (exP q p k)).1/(hdT q).1=a at *
   generalize Qb3 (hdT (exP q p k)).2 (hdT q).2=m at *
   have hQe0:=hQe
   generalize hPe0:exP q p (k+1)=P' at *
   have b1:PB (K+K) E [(a,m)]:=fun t ht=>by
    obtain rfl:t=(a,m):=by simpa using ht
    exact htT
   obtain⟨b2,l2⟩:=Qnp b1 (bq.mono (K':=K+K) (by omega) (Nat.le_refl _))
   have hmin:min [(a,m)].length q.length*(K+K+(K+K))<=1*(K+K+(K+K)):=Nat.mul_le_mul_right _ (by simp;omega)
   have l2':(Qaf [(a,m)] q).length<=q.length:=by simpa using l2
   simp+decide (disch:=first|exact D3 hj0 hPh hqh|fail) only[go_sem,↓reduceIte,hj0,hPh,hqh]
   refine Qff ?_ ?_
   ·
    simp+decide (disch:=first|exact D3 hj0 hPh hqh|fail) only[go_sem,↓reduceIte,hj0,hPh,hqh]
    refine Qa hP hDiv rfl rfl rfl ?_
    simp+decide (disch:=first|exact D4 hj0 hPh hqh h6|fail) only[go_sem,↓reduceIte,hj0,hPh,hqh,h6]
    rw[Qal (f:=PV.term) (y:=(a,m)) (xs:=exQ q p k) (ty':=127) (fz:=false) (T1 hh) Tr0 (by omega) hQl.symm (by omega) (by omega)]
    simp+decide (disch:=first|exact D4 hj0 hPh hqh h6|fail) only[go_sem,↓reduceIte,hj0,hPh,hqh,h6]
    refine Qch hP (Qj4 b1 (bq.mono (K':=K+K) (by omega) (Nat.le_refl _)) (by omega) (by simp) (by omega) (by simp;omega) (by omega) (by omega)) Ur0 rfl ?_
    simp+decide (disch:=first|exact D4 hj0 hPh hqh h6|fail) only[go_sem,↓reduceIte,hj0,hPh,hqh,h6]
    refine Qa hP (Qto (K:=4*K) (E:=E+E) (bP.mono (by omega) (by omega)) (b2.mono (by omega) (by omega)) (by omega) (by omega) (by omega) (by omega) (by omega)) rfl rfl rfl ?_
    rw[<-hPe]
    simp+decide (disch:=first|exact D4 hj0 hPh hqh h6|fail) only[go_sem,↓reduceIte,hj0,hPh,hqh,h6]
    refine Qag (fun hn=> ?_) (fun hn=> ?_)
    ·have hnl:0<P'.length:=by omega
     have hnh:=Qms hnl
     have hnm:=bN _ (Qav (List.length_pos_iff.1 hnl))
     have hlt':=hlt _ (Qav (List.length_pos_iff.1 hnl))
     have hge:¬0<=Qai (hdT P').2 (hdT (exP q p k)).2:=by omega
     simp+decide (disch:=first|exact D5 hj0 hPh hqh h6 hnh|fail) only[go_sem,↓reduceIte,hj0,hPh,hqh,h6,hnh]
     refine Qa hP (Qn9 (o:=0) hnm.m hPm.m (by omega)) rfl rfl rfl ?_
     rw[Qo4]
     simp+decide (disch:=first|exact D5 hj0 hPh hqh h6 hge|fail) only[go_sem,↓reduceIte,hj0,hPh,hqh,h6,hge]
     refine Qh (k0-(k+1)) (by omega) ⟨k+1,rfl,by omega,?_⟩
     rw[show FW.exQ q p (k+1)=exQ q p k++[(a,m)]from hQe0,show FW.exP q p (k+1)=P' from hPe0]
     simp+decide (disch:=first|exact E0|fail) only[go_sem,↓reduceIte,Q6,List.contains_cons,List.contains_nil,List.flatMap_cons,List.flatMap_nil,List.append_nil]
    ·simp+decide (disch:=first|exact D4 hj0 hPh hqh h6|fail) only[go_sem,↓reduceIte,hj0,hPh,hqh,h6]
     refine Qh (k0-(k+1)) (by omega) ⟨k+1,rfl,by omega,?_⟩
     rw[show FW.exQ q p (k+1)=exQ q p k++[(a,m)]from hQe0,show FW.exP q p (k+1)=P' from hPe0]
     simp+decide (disch:=first|exact E0|fail) only[go_sem,↓reduceIte,Q6,List.contains_cons,List.contains_nil,List.flatMap_cons,List.flatMap_nil,List.append_nil]
   ·
    simp+decide (disch:=first|exact D3 hj0 hPh hqh|fail) only[go_sem,↓reduceIte,hj0,hPh,hqh]
    refine Qa hP hDiv rfl rfl rfl ?_
    simp+decide (disch:=first|exact D4 hj0 hPh hqh h6|fail) only[go_sem,↓reduceIte,hj0,hPh,hqh,h6]
    rw[Qal (f:=PV.term) (y:=(a,m)) (xs:=exQ q p k) (ty':=127) (fz:=false) (T1 hh) Tr0 (by omega) hQl.symm (by omega) (by omega)]
    simp+decide (disch:=first|exact D4 hj0 hPh hqh h6|fail) only[go_sem,↓reduceIte,hj0,hPh,hqh,h6]
    refine Qch hP (Qj4 b1 (bq.mono (K':=K+K) (by omega) (Nat.le_refl _)) (by omega) (by simp) (by omega) (by simp;omega) (by omega) (by omega)) Ur0 rfl ?_
    simp+decide (disch:=first|exact D4 hj0 hPh hqh h6|fail) only[go_sem,↓reduceIte,hj0,hPh,hqh,h6]
    refine Qa hP (Qto (K:=4*K) (E:=E+E) (bP.mono (by omega) (by omega)) (b2.mono (by omega) (by omega)) (by omega) (by omega) (by omega) (by omega) (by omega)) rfl rfl rfl ?_
    rw[<-hPe]
    simp+decide (disch:=first|exact D4 hj0 hPh hqh h6|fail) only[go_sem,↓reduceIte,hj0,hPh,hqh,h6]
    refine Qag (fun hn=> ?_) (fun hn=> ?_)
    ·have hnl:0<P'.length:=by omega
     have hnh:=Qms hnl
     have hnm:=bN _ (Qav (List.length_pos_iff.1 hnl))
     have hlt':=hlt _ (Qav (List.length_pos_iff.1 hnl))
     have hge:¬0<=Qai (hdT P').2 (hdT (exP q p k)).2:=by omega
     simp+decide (disch:=first|exact D5 hj0 hPh hqh h6 hnh|fail) only[go_sem,↓reduceIte,hj0,hPh,hqh,h6,hnh]
     refine Qa hP (Qn9 (o:=0) hnm.m hPm.m (by omega)) rfl rfl rfl ?_
     rw[Qo4]
     simp+decide (disch:=first|exact D5 hj0 hPh hqh h6 hge|fail) only[go_sem,↓reduceIte,hj0,hPh,hqh,h6,hge]
     refine Qh (k0-(k+1)) (by omega) ⟨k+1,rfl,by omega,?_⟩
     rw[show FW.exQ q p (k+1)=exQ q p k++[(a,m)]from hQe0,show FW.exP q p (k+1)=P' from hPe0]
     simp+decide (disch:=first|exact E0|fail) only[go_sem,↓reduceIte,Q6,List.contains_cons,List.contains_nil,List.flatMap_cons,List.flatMap_nil,List.append_nil]
    ·simp+decide (disch:=first|exact D4 hj0 hPh hqh h6|fail) only[go_sem,↓reduceIte,hj0,hPh,hqh,h6]
     refine Qh (k0-(k+1)) (by omega) ⟨k+1,rfl,by omega,?_⟩
     rw[show FW.exQ q p (k+1)=exQ q p k++[(a,m)]from hQe0,show FW.exP q p (k+1)=P' from hPe0]
     simp+decide (disch:=first|exact E0|fail) only[go_sem,↓reduceIte,Q6,List.contains_cons,List.contains_nil,List.flatMap_cons,List.flatMap_nil,List.append_nil]
 ·have hP0:exP q p k=[]:=List.length_eq_zero_iff.1 (by omega)
  have hk0':k=k0:=by
   apply Decidable.byContradiction;intro hne
   exact(hgo k (by omega)).1 hP0
  subst hk0'
  simp+decide (disch:=first|exact E2 h6 hh|fail) only[go_sem,↓reduceIte,h6,hh,Q6,List.contains_cons,List.contains_nil,List.flatMap_cons,List.flatMap_nil,List.append_nil]
  exact Qb9 (by rw[exR,if_pos hP0]) rfl rfl (by simp[List.take_of_length_le,hQl,Qw]) (Qw _)
end Go.Proofs.YtonfajmchebkeaaGreat
namespace Go.FW
open Go
set_option maxRecDepth 100000
structure Sm4(q:List Tm):Prop where
 n:Nrm q
 b:PB 3 4 q
 m:ML 4 q
 l:q.length<=6
structure Cf(j:Nat)(p:List Tm):Prop where
 d:∃D N:Nat,0<D/\0<N/\nl D<=31+120000*j/\nl N<=13+75000*j/\Dn D p/\n1 p<=(N:Rat)
 w:∀t∈p,psi t.2<=6560
 pos:Pos p
 ml:ML 4 p
 n:Nrm p
theorem Sm4.sz{q:List Tm}(h:Sm4 q):SZ 19 11 4 q:=(SZ.of h.b h.l).mono (by omega) (by omega) (by omega)
theorem Sm4.sml{q:List Tm}(h:Sm4 q):Sml q:=⟨h.sz.mono (by omega) (by omega) (by omega),by have:=h.l;omega,h.n⟩
theorem Sm4.cf{q:List Tm}(h:Sm4 q):Cf 0 q:=by
 obtain⟨⟨D,N,h1,h2,h3,h4,h5,h6⟩,_⟩:=h.sz
 refine⟨⟨D,N,h1,h2,by omega,by omega,h5,h6⟩,fun t ht=> ?_,fun t ht i=>((h.b t ht).m.eN i).1,h.m,h.n⟩
 have c0:=(h.b t ht).m.eN 0;have c1:=(h.b t ht).m.eN 1;have c2:=(h.b t ht).m.eN 2;have c3:=(h.b t ht).m.eN 3
 simp only[psi];omega
theorem Q15(x:Nat):∃n,n=x:=⟨x,rfl⟩
theorem Qzw{n0 a w n:Nat}(e:n0=a*w^n)(h:0<a)(h2:0<w):0<n0:=by rw[e];exact Nat.mul_pos h (Nat.pow_pos h2)
theorem Qado{w:Rat}(hw:1<=w){N:Nat}:∀ {p:List Tm},(∀t∈p,psi t.2<=N)->nW w p<=n1 p*w^N
 | [],_=>by simp only[nW,n1];grind
 |t::p,h=>by
  have ih:=Qado hw (N:=N) (p:=p) fun s hs=>h s (List.mem_cons_of_mem _ hs)
  have h1:=Qzn hw (h t (List.mem_cons_self ..))
  have h2:=Rat.mul_le_mul_of_nonneg_left h1 (Qbx t.1)
  simp only[nW,n1];grind
theorem Qacz{p:List Tm}{N w n n0:Nat}(hw:(1:Rat)<=(w:Rat))(hn:n1 p<=(N:Rat))(hp:∀t∈p,psi t.2<=n)(e:n0=N*w^n):nW (w:Rat) p<=(n0:Rat):=by
 have h1:=Qado hw hp
 have h2:=Rat.mul_le_mul_of_nonneg_right hn (Qel (show(0:Rat)<=(w:Rat)by grind) n)
 rw[e,Rat.natCast_mul,Rat.natCast_pow]
 exact Rat.le_trans h1 h2
theorem Q7e{D d f n:Nat}(e:D=d*f^n):(D:Rat)=(d:Rat)*(f:Rat)^n:=by rw[e,Rat.natCast_mul,Rat.natCast_pow]
theorem Q37(f:Rat){a b n:Nat}(h:n=a+b+1):f^n=f^a*f^b*f:=by rw[h,Rat.pow_succ,Qg6]
theorem Qac0{x y D d A B f:Rat}(hD:D=d*(A*B*f)):x/y*D=x*(d*A)*B*(f/y):=by rw[hD];grind
theorem Qadp{M:Rat}:∀ {l:List Tm},(∀t∈l,Qbb t.1<=M)->n1 l<=(l.length:Rat)*M
 | [],_=>by
  show(0:Rat)<=((0:Nat):Rat)*M
  have:((0:Nat):Rat)=0:=rfl
  rw[this];grind
 |t::l,h=>by
  have ih:=Qadp (M:=M) (l:=l) fun s hs=>h s (List.mem_cons_of_mem _ hs)
  have h1:=h t (List.mem_cons_self ..)
  rw[List.length_cons,Rat.natCast_add]
  have:((1:Nat):Rat)=1:=rfl
  simp only[n1];rw[this];grind
theorem Q16{q p:List Tm}{t:Tm}:∀ {k:Nat},t∈exQ q p k->∃i,i<k/\t=exT q (exP q p i)
 |0,h=>by cases h
 | k+1,h=>by
  rcases List.mem_append.1 (show t∈exQ q p k++[exT q (exP q p k)]from h)with h|h
  ·obtain⟨i,h1,h2⟩:=Q16 h
   exact⟨i,by omega,h2⟩
  ·exact⟨k,by omega,by simpa using h⟩
theorem Qamx{y:Tm}{q:List Tm}:IsI (((Qpj y q:Nat):Rat)/y.1):=by
 have h3:=Qk0 y.1
 have h4:((y.1.num.natAbs:Nat):Rat)/y.1=(y.1.den:Rat)∨((y.1.num.natAbs:Nat):Rat)/y.1= -(y.1.den:Rat)∨y.1=0:=by
  rw[<-h3];unfold Qbb;grind
 have e:((Qpj y q:Nat):Rat)/y.1=(Qg7 q:Rat)*(((y.1.num.natAbs:Nat):Rat)/y.1):=by
  unfold Qpj;rw[Rat.natCast_mul];grind
 rw[e]
 rcases h4 with h4|h4|h4
 ·rw[h4];exact(IsI.nat _).mul (IsI.nat _)
 ·rw[h4];exact(IsI.nat _).mul (IsI.nat _).neg
 ·rw[h4,Rat.div_def,Rat.inv_zero,Rat.mul_zero,Rat.mul_zero];exact⟨0,rfl⟩
theorem Qac1{x y:Rat}(hy:y≠0):Qbb (x/y)<=Qbb x*(y.den:Rat):=by
 have h1:=Qk0 y
 have h2:(1:Rat)<=((y.num.natAbs:Nat):Rat):=Qcn (a:=1) (by
  have:y.num≠0:=fun e=>hy (Rat.num_eq_zero.1 e)
  omega)
 have h3:Qbb x=Qbb (x/y)*Qbb y:=by rw[<-Qg5];congr 1;grind
 have h4:=Rat.mul_le_mul_of_nonneg_left h2 (Qbx (x/y))
 rw[<-h1]at h4
 rw[h3];grind
theorem Q7f {j : Nat} {p q : List Tm} (hp:Cf j p) (hq:Sm4 q) (h0:q≠[]) (hj:j<=16):
    ∃k0,k0<=8589934592/\(∀k,k<=k0->FW.PB 4194304 6560 (exP q p k)/\(exP q p k).length<=4294967296)/\(∀k,k<k0->Qey q (exP q p k))/\¬Qey q (exP q p k0)/\Cf (j+1) (exQ q p k0):=by
  obtain⟨y,q,rfl⟩:∃y q',q=y::q':=by
    cases q with
    |nil=>exact absurd rfl h0
    |cons y q=>exact⟨y,q,rfl⟩
  have nq:=hq.n
  have bq:=hq.b.mono (K':=3) (E':=8) (by omega) (by omega)
  have hQ:=qok bq nq hq.m
  have hy0:=nq.z y (by simp)
  obtain⟨w,hw⟩:∃w,w=exW y q:=⟨_,rfl⟩
  obtain⟨f,hf⟩:∃f,f=Qpj y q:=⟨_,rfl⟩
  have hFy:=Qamx (y:=y) (q:=q)
  obtain⟨⟨d,N,hd0,hN0,hdl,hNl,hDn,hn1⟩,hw4,hpos,hml,np⟩:=hp
  obtain⟨n0,hn0⟩:=Q15 (N*w^6560)
  have hw0:0<w:=by rw[hw];unfold exW;omega
  have hf0:0<f:=by
    rw[hf];unfold Qpj
    refine Nat.mul_pos (Qr0 q) ?_
    have:y.1.num≠0:=fun e=>hy0 (Rat.num_eq_zero.1 e)
    omega
  have hn00:0<n0:=Qzw hn0 hN0 hw0
  rw[<-hw,<-hf]at hQ
  rw[<-hf]at hFy
  have lq:=hq.l
  rw[List.length_cons]at lq
  have a3:=Q1v (PB.cons.1 bq).2
  have a4:=Q1w (PB.cons.1 bq).2
  have a5:=(PB.cons.1 bq).1.c
  unfold rs at a5
  have b1:=Qb2 (Qg7 q) y.1.num.natAbs
  have b2:=Qb2 (Qdj q) y.1.den
  have b3:=Qmi (Qdj q*y.1.den) 1
  rw[Qei]at b3
  have e1:nl w=nl (Qdj q*y.1.den+1):=by rw[hw];rfl
  have e2:nl f=nl (Qg7 q*y.1.num.natAbs):=by rw[hf];rfl
  have hwl:nl w<=11:=by omega
  have hfl:nl f<=18:=by omega
  have b4:=Qtq w 6560
  have b5:=Qtq f 6560
  have b8:=Qb2 d (f^6560)
  have b9:=Qb2 n0 (d*f^6560)
  have b6:=Qb2 N (w^6560)
  rw[<-hn0]at b6
  have hn0l:nl n0<=13+75000*j+72161:=by omega
  have hsz:nl (n0*(d*f^6560))<4194304:=by omega
  have hw1:(1:Rat)<=(w:Rat):=Qcn (a:=1) (by omega)
  have hE0:ExI d f w n0 p:=by
    refine⟨fun t ht=>⟨hw4 t ht,?_⟩,?_,hpos,hml,np⟩
    · have h1:=(hDn t ht).mul ((IsI.nat f).pow (6560-psi t.2))
      rw[<-Rat.mul_assoc];exact h1
    · exact Qacz hw1 hn1 hw4 hn0
  have hPB:∀ {r:List Tm},ExI d f w n0 r->FW.PB 4194304 6560 r:=fun h=>h.PB hd0 hf0 hw0 hn00 hsz
  have hinv:∀k,(∀j,j<k->Qey (y::q) (exP (y::q) p j))->ExI d f w n0 (exP (y::q) p k):=by
    intro k
    induction k with
    |zero=>intro _;exact hE0
    | succ k ih=>
      intro hg
      have h1:=ih (fun j hj=>hg j (by omega))
      exact h1.step hQ (hPB h1) bq nq (hg k (by omega))
  have hdec:∀k,(∀j,j<k->Qey (y::q) (exP (y::q) p j))->Qey (y::q) (exP (y::q) p k)->c4 (hdT (exP (y::q) p k)).2+k<=c4 (hdT p).2:=by
    intro k
    induction k with
    |zero=>intro _ _;simp only[exP,Nat.add_zero,Nat.le_refl]
    | succ k ih=>
      intro hg hgk
      have i1:=hinv k (fun j hj=>hg j (by omega))
      have i2:=hinv (k+1) hg
      have h1:=ih (fun j hj=>hg j (by omega)) (hg k (by omega))
      have h2:=Qzl (hPB i1) (bq.mono (by omega) (by omega)) i1.nrm nq (by simp) (hg k (by omega)) _ (Qav hgk.1)
      have m1:=Qav (hg k (by omega)).1
      have m2:=Qav hgk.1
      have h3:=Qadj (i2.pos _ m2) (i1.pos _ m1) (i2.ml _ m2) (i1.ml _ m1) (i2.i _ m2).1 (i1.i _ m1).1 h2
      omega
  have hex:∀n,(∃k0,k0<=n/\(∀k,k<k0->Qey (y::q) (exP (y::q) p k))/\¬Qey (y::q) (exP (y::q) p k0))∨∀k,k<=n->Qey (y::q) (exP (y::q) p k):=by
    intro n
    induction n with
    | zero=>
      by_cases h:Qey (y::q) (exP (y::q) p 0)
      · exact .inr fun k hk => by obtain rfl:k=0:=by omega
                                  exact h
      · exact .inl ⟨0,by omega,fun k hk=>by omega,h⟩
    | succ n ih=>
      rcases ih with⟨k0,h1,h2,h3⟩|h
      · exact .inl ⟨k0,by omega,h2,h3⟩
      · by_cases hn:Qey (y::q) (exP (y::q) p (n+1))
        · refine .inr fun k hk=> ?_
          rcases Nat.lt_or_eq_of_le hk with h4|h4
          · exact h k (by omega)
          · rw[h4];exact hn
        · exact .inl ⟨n+1,Nat.le_refl _,fun k hk=>h k (by omega),hn⟩
  rcases hex 8589934592 with⟨k0,h1,h2,h3⟩|h
  · have hk:∀k,k<=k0->ExI d f w n0 (exP (y::q) p k):=fun k hk=>hinv k fun j hj=>h2 j (by omega)
    have hQn:=Q1s (K:=4194304) (E:=6560) (bq.mono (by omega) (by omega)) np nq (by simp) (fun k h=>hPB (hk k h)) h2 k0 (Nat.le_refl _)
    refine⟨k0,h1,fun k h=>⟨hPB (hk k h),(hk k h).len⟩,h2,h3,?_⟩
    have hT:∀t∈exQ (y::q) p k0,∃x:Tm,psi x.2<=6560/\IsI (x.1*((d:Rat)*(f:Rat)^(6560-psi x.2)))/\Qbb x.1<=(n0:Rat)/\(∀i,0<=eN (Qb3 x.2 y.2) i)/\x.2.length<=4/\psi (Qb3 x.2 y.2)<=psi x.2/\t=(x.1/y.1,Qb3 x.2 y.2):=fun t ht=>by
      obtain⟨i,hi,rfl⟩:=Q16 ht
      have hg:=h2 i hi
      have hI:=hk i (by omega)
      have hm:=Qav hg.1
      obtain⟨g1,g2⟩:=hI.i _ hm
      have hxm:=(hPB hI _ hm).m
      have hym:=(bq y (by simp)).m
      have hqp:=Qzo hxm hym hg.2
      refine⟨hdT (exP (y::q) p i),g1,g2,Rat.le_trans (Qzp hw1 hm) hI.n,hqp,hI.ml _ hm,?_,rfl⟩
      have hmm:Qao (Qb3 (hdT (exP (y::q) p i)).2 y.2) y.2=(hdT (exP (y::q) p i)).2:=Qg4 hxm hym (hPB hI _ hm).l hg.2
      have hpsi:=Qmu hqp (hQ.pos y (by simp))
      rw[hmm]at hpsi
      omega
    have hy1:=Qtq f 6561
    obtain⟨D',hD'⟩:=Q15 (d*f^6561)
    refine⟨⟨D',8589934592*(n0*y.1.den),Qzw hD' hd0 hf0,Nat.mul_pos (by omega) (Nat.mul_pos hn00 y.1.den_pos),?_,?_,fun t ht=> ?_,?_⟩,fun t ht=> ?_,fun t ht i=> ?_,fun t ht=> ?_,hQn.1⟩
    · have:=Qb2 d (f^6561);rw[<-hD']at this;omega
    · have g1:=Qb2 8589934592 (n0*y.1.den)
      have g2:=Qb2 n0 y.1.den
      have g3:nl 8589934592<=3:=by decide+kernel
      omega
    · obtain⟨x,x1,x2,_,_,_,_,rfl⟩:=hT t ht
      have g1:=(x2.mul ((IsI.nat f).pow (psi x.2))).mul hFy
      have e:x.1/y.1*((D':Nat):Rat)=x.1*((d:Rat)*(f:Rat)^(6560-psi x.2))*(f:Rat)^psi x.2*((f:Rat)/y.1):=by
        refine Qac0 ?_
        rw[Q7e hD',Q37 (f:Rat) (show 6561=6560-psi x.2+psi x.2+1 by omega)]
      show IsI (x.1/y.1*_)
      rw[e];exact g1
    · have g:=Qadp (M:=(n0:Rat)*(y.1.den:Rat)) (l:=exQ (y::q) p k0) fun t ht=>by
        obtain⟨x,_,_,x3,_,_,_,rfl⟩:=hT t ht
        have g1:=Qac1 (x:=x.1) hy0
        have g2:=Rat.mul_le_mul_of_nonneg_right x3 (Qcn (a:=0) (b:=y.1.den) (by omega))
        exact Rat.le_trans g1 g2
      rw[Qqc]at g
      have g2:=Rat.mul_le_mul_of_nonneg_right (Qcn h1) (show(0:Rat)<=(n0:Rat)*(y.1.den:Rat)from Rat.mul_nonneg (Qcn (a:=0) (by omega)) (Qcn (a:=0) (by omega)))
      rw[Rat.natCast_mul,Rat.natCast_mul]
      exact Rat.le_trans g g2
    · obtain⟨x,x1,_,_,_,_,x6,rfl⟩:=hT t ht
      simp only;omega
    · obtain⟨x,_,_,_,x4,_,_,rfl⟩:=hT t ht
      exact x4 i
    · obtain⟨x,_,_,_,_,x5,_,rfl⟩:=hT t ht
      have g1:=Qf5 (Qew (· - ·) x.2 y.2)
      rw[Qbq]at g1
      have:=hq.m y (by simp)
      show(Qb3 x.2 y.2).length<=4
      unfold Qb3;omega
  · exfalso
    have hg:=h 0 (by omega)
    have h1:=hdec 8589934592 (fun j hj=>h j (by omega)) (h _ (Nat.le_refl _))
    have h2:=Qadk (hE0.i _ (Qav hg.1)).1
    omega
def Qqe(q p:List Tm)(k0:Nat):Prop:=(∀k,k<k0->Qey q (exP q p k))/\¬Qey q (exP q p k0)
theorem Q38{q p:List Tm}{a b:Nat}(ha:Qqe q p a)(hb:Qqe q p b):a=b:=by
 rcases Nat.lt_trichotomy a b with h|h|h
 ·exact absurd (hb.1 a h) ha.2
 ·exact h
 ·exact absurd (ha.1 b h) hb.2
open Classical in
noncomputable def exO (q p : List Tm) : Option (List Tm) := if h : ∃ k, Qqe q p k then (if exP q p h.choose = [] then some (exQ q p h.choose) else none) else none
theorem Qmy{q p:List Tm}{k:Nat}(h:Qqe q p k):exO q p=if exP q p k=[]then some (exQ q p k)else none:=by
 have hx:∃k,Qqe q p k:=⟨k,h⟩
 have e:hx.choose=k:=Q38 hx.choose_spec h
 unfold exO
 rw[dif_pos hx,e]
def PV.exO:Option (List Tm)->PV
 |some s=> .tup [PV.poly s,.bool true]
 |none=> .tup [PV.poly [],.bool false]
theorem Qalp{q p:List Tm}{k:Nat}(h:Qqe q p k):exR q p k=PV.exO (FW.exO q p):=by
 rw[Qmy h]
 unfold exR
 split<;>rfl
theorem Q7g{j:Nat}{p q s:List Tm}(hp:Cf j p)(hq:Sm4 q)(h0:q≠[])(hj:j<=16)(h:exO q p=some s):Cf (j+1) s:=by
 obtain⟨k,_,_,h1,h2,h3⟩:=Q7f hp hq h0 hj
 rw[Qmy ⟨h1,h2⟩]at h
 split at h
 ·cases h;exact h3
 ·cases h
noncomputable def exL (q : List Tm) : List (List Tm) -> Option (List (List Tm))
 | [] => some []
 | p :: l => (exO q p).bind fun s => (exL q l).map (s :: ·)
theorem Q7h{j:Nat}{q:List Tm}(hq:Sm4 q)(h0:q≠[])(hj:j<=16):∀ {l r:List (List Tm)},(∀p∈l,Cf j p)->exL q l=some r->∀s∈r,Cf (j+1) s
 | [],r,_,h=>by cases h;simp
 |p::l,r,hl,h=>by
  simp only[exL,Option.bind_eq_some_iff,Option.map_eq_some_iff]at h
  obtain⟨s,h1,t,h2,rfl⟩:=h
  intro x hx
  rcases List.mem_cons.1 hx with rfl|hx
  ·exact Q7g (hl p (List.mem_cons_self ..)) hq h0 hj h1
  ·exact Q7h hq h0 hj (fun y hy=>hl y (List.mem_cons_of_mem _ hy)) h2 x hx
theorem Q17{q:List Tm}:∀ {l r:List (List Tm)},exL q l=some r->r.length=l.length
 | [],r,h=>by cases h;rfl
 |p::l,r,h=>by
  simp only[exL,Option.bind_eq_some_iff,Option.map_eq_some_iff]at h
  obtain⟨s,_,t,h2,rfl⟩:=h
  simp[Q17 h2]
theorem Qr4{q:List Tm}:∀ {l:List (List Tm)} {i:Nat} (h:i<l.length),exO q l[i]=none->exL q l=none
 |p::l,0,_,e=>by
  simp only[List.getElem_cons_zero]at e
  simp[exL,e]
 |p::l,i+1,h,e=>by
  have:=Qr4 (l:=l) (i:=i) (by simpa using h) (by simpa using e)
  simp[exL,this]
end Go.FW
namespace Go.FW
open Go
variable {C : Ctx} {ρ : Nat -> Option Nat} {fr fr' : Fr} {hp : HP} {w : World} {K R : Qg}
theorem Q7i {P : Program} {f : FuncId} {fn : Func} {sf : SFn} {args : List PV} {Rr : PV -> Prop} (hm : P.follows .mixedOrders = true) (hf : P.funcs[f]? = some fn) (hname : (fn.name != "runtime.NumGoroutine") = true) (hc : Qd P fn = some sf.strip) (hn : args.length <= sf.n /\ sf.n <= 1000000)
  (hv:∀C:Ctx,C.P=P->vc C (Qrp (Qdo sf.rs Rr)) [.c sf.body] (Qf0 args) hp0):Qe P f args Rr:=by
 simp only[Qd,Option.bind_eq_some_iff,Option.map_eq_some_iff]at hc
 obtain⟨c,hb,sb,hcb,rs,hrs,hsf⟩:=hc
 obtain⟨n,rs',body⟩:=sf
 simp only[SFn.strip,SFn.mk.injEq]at hsf
 obtain⟨rfl,rfl,rfl⟩:=hsf
 refine⟨by simp[Qm8,hf,hb];simpa using hname,fun w X vals hX hsz hrep=> ?_⟩
 let C:Ctx:=Ctx.plain P fn.ntmps w X hX hn.2
 refine calls_of_wp hf hb ?_
 have hsz':(vals++Array.replicate (fn.ntmps-vals.size) undef).size=fn.ntmps:=by simp at hn ⊢;omega
 have hsim:Sim C (Qf0 args) hp0 (vals++Array.replicate (fn.ntmps-vals.size) undef) w:=by
  refine⟨fun _=>none,hsz',Ext.refl _ _,(fun _ _ h=>by cases h),by simp[hp0],by simp[hp0],fun i=> ?_⟩
  unfold Qf0
  cases hi:args[i]? with
  |none=>trivial
  | some p=>
   simp only[Option.getD_some]
   have hil:i<vals.size:=by rw[hsz];exact(List.getElem?_eq_some_iff.1 hi).1
   have hr:=hrep i p hi
   have e:(vals++Array.replicate (fn.ntmps-vals.size) undef).getD i undef=vals.getD i undef:=by
    rw[Qb6,if_pos hil]
   rw[e]
   refine Qm.ofData (hr.mono (fun _ _ _=>rfl) (fun b _ hn hx=> ?_) (Nat.le_refl _))
   rcases hx with hx|⟨_,_,h1,_⟩
   ·exact hn hx
   ·simp[hp0]at h1
 have fin:∀(fr:Fr)(hp:HP)(a:Act)(w':World),a.defers=[]->Sim C fr hp a.tmps w'->Qrp (Qdo rs Rr) fr hp->
   a.defers=[]/\∃v,(results fn a.tmps).run P w'= .ok v w'/\∃v' r,Ending.returned v= .returned v'/\Ext Qbc w w'/\Qcp w' X r v'/\Rr r:=by
  rintro fr hp a w' hd hs0 ⟨fr1,hp1,hw,hr⟩
  obtain⟨ρ,hs⟩:=hw C _ _ hs0
  obtain⟨v,r,h1,h2,h3⟩:=Qvh (C:=C) rfl hrs hs hr
  exact⟨hd,v,h1,v,r,rfl,Ctx.plain_ext hs.ext,h2,h3⟩
 exact Qqj (C:=C) (R:=Qrp (Qdo rs Rr)) hm c body [] _ (Qf0 args) hp0 _ w hcb ⟨fun fr hp a w' hd hs hv=>(by rw[Qkq]at hv;exact fin fr hp a w' hd hs hv),fun id sk' he=>(by simp[FW.Qak]at he),fin⟩ rfl hsim (hv C rfl)
theorem Qah0{ty w i d:Nat}{fz:Bool}{f:Nat->Rat}(h:i<w):ldM (some ⟨3,ty,Ql4 PV.rat f w,fz⟩) 3 true i 0 d fr hp K=K (upd fr d (PV.rat (f i))) hp:=by
 rw[Qow (by rw[Q0g];exact h) (by omega) (by simp),Qaa2];rfl
theorem Qalq:(Qn1 (.tup [])=True)/\(∀(k:IntKind)(n:Int),Qn1 (.int k n)=True)/\(∀b:Bool,Qn1 (.bool b)=True)/\(∀(e:Nat)(xs:List PV),Qn1 (.sl e xs)=True)/\(∀cs:List PV,Qn1 (.agg cs)=True)/\(∀cs:List PV,Qn1 (.tup cs)=True):=by
 refine⟨?_,?_,?_,?_,?_,?_⟩<;>intros<;>simp[Qn1,PV.refs,PV.sref,rnP,rn1]
attribute [go_sem] Qalq Qah0
end Go.FW
namespace Go.FW
open Go
variable {C : Ctx} {ρ : Nat -> Option Nat} {fr fr' : Fr} {hp : HP} {w : World} {K R : Qg}
def ldX(p:PV)(γ n:Nat)(ag:Bool)(i o d:Nat)(fr:Fr)(hp:HP)(K:Qg):Prop:=match p with
 | .nst γ' e _ xs=>γ'=γ/\∃h:i<xs.length,o+n<=e/\(ag=false->n=1)/\K (upd fr d (ldN ag n o (xs[i]'h))) hp
 |_=>False
theorem Qalr{γ n i o d:Nat}{ag:Bool}:ldK n ag (.np γ i o) d fr hp K=ldX (fr γ) γ n ag i o d fr hp K:=by
 simp only[ldK,ldX]
 cases fr γ<;>rfl
def stX(p:PV)(h:Option HB)(v:Option (List PV))(γ n i o:Nat)(fr:Fr)(hp:HP)(K:Qg):Prop:=match p with
 | .nst γ' e ty xs=>γ'=γ/\(∃hb,h=some hb/\hb.fz=false)/\∃h:i<xs.length,o+n<=e/\match v with
   |some cs=>cs.length=n/\K (upd (Qdl γ fr) γ (.nst γ e ty (xs.set i (Qea (Qki (xs[i]'h).ncells o cs))))) hp
   |none=>False
 |_=>False
theorem Qals{γ n i o:Nat}{v:PV}:stK n (.np γ i o) v fr hp K=stX (fr γ) (hp γ) (stN v) γ n i o fr hp K:=by
 simp only[stK,stX]
 cases fr γ<;>rfl
theorem Qamy{γ e ty n o d:Nat}{ag:Bool}{x:PV}(h1:o+n<=e)(h2:ag=true∨n=1):ldX (.nst γ e ty [x]) γ n ag 0 o d fr hp K=K (upd fr d (ldN ag n o x)) hp:=by
 have:(ag=false->n=1):=fun h=>h2.resolve_left (by simp[h])
 simp[ldX,h1]
 exact fun _=>this
theorem Qamz{γ e ty n o e0 ty0:Nat}{x:PV}{xs0 cs:List PV}(h1:o+n<=e)(h2:cs.length=n):stX (.nst γ e ty [x]) (some ⟨e0,ty0,xs0,false⟩) (some cs) γ n 0 o fr hp K=K (upd (Qdl γ fr) γ (.nst γ e ty [Qea (Qki x.ncells o cs)])) hp:=by
 simp[stX,h1,h2]
theorem Qam0{γ ty B n w r d:Nat}{π:Nat->Nat}(h:r<n):ldX (.nst γ 1 ty (Qd9 (Qd4 B n w π))) γ 1 false r 0 d fr hp K=K (upd fr d (.ms (B+π r) w)) hp:=by
 have hl:r<(Qd9 (Qd4 B n w π)).length:=by simpa[Qd9,Qd4]using h
 simp only[ldX,hl,exists_true_left,true_and,Nat.le_refl,Nat.zero_add,implies_true]
 simp[ldN,Qd9,Qd4,PV.ncells,PV.cells]
theorem Qam1{γ ty B n w r m e0 ty0:Nat}{π:Nat->Nat}{xs0:List PV}(h:r<n):stX (.nst γ 1 ty (Qd9 (Qd4 B n w π))) (some ⟨e0,ty0,xs0,false⟩) (some [.ms (B+m) w]) γ 1 r 0 fr hp K=K (upd (Qdl γ fr) γ (.nst γ 1 ty (Qd9 (Qd4 B n w fun x=>if x=r then m else π x)))) hp:=by
 have hl:r<(Qd9 (Qd4 B n w π)).length:=by simpa[Qd9,Qd4]using h
 have e:(Qd4 B n w π).set r (B+m,w)=Qd4 B n w fun x=>if x=r then m else π x:=by
  refine List.ext_getElem (by simp[Qd4]) fun j h1 h2=> ?_
  rw[List.getElem_set,Qy1,Qy1]
  split
  ·rename_i e;subst e;simp
  ·rename_i e;rw[if_neg fun e2=>e e2.symm]
 rw[<-e]
 simp only[stX,hl,exists_true_left,true_and,Nat.le_refl,Nat.zero_add,Option.some.injEq,exists_eq_left',List.length_cons,List.length_nil]
 simp[Qea,Qki,Qd9,PV.ncells,PV.cells,List.map_set]
theorem stNs:
  (∀(γ o n:Nat),stN (.nso γ o n)=some [.nso γ o n])/\
  (∀(k:IntKind)(n:Int),stN (.int k n)=some [.int k n])/\
  (∀(b:Bool),stN (.bool b)=some [.bool b])/\
  (stN .nilS=some [.nilS])/\
  (∀(e:Nat)(xs:List PV),stN (.sl e xs)=some [.sl e xs])/\
  (∀(cs:List PV),stN (.pt cs)=some [.pt cs])/\
  (∀(cs:List PV),stN (.agg cs)=some cs):=by
 refine⟨?_,?_,?_,?_,?_,?_,?_⟩<;>intros<;>rfl
theorem Qalt{β o n:Nat}(h:1000000<=β):stN (.mso β o n)=some [.mso β o n]:=by simp[stN,isB,h]
theorem Qah1{cs:List PV}:stN (.rag cs)=if cs.all PV.notU then some cs else none:=rfl
theorem Qam2:(∀(k:IntKind)(n:Int),(PV.int k n).notU=true)/\(∀b:Bool,(PV.bool b).notU=true)/\(PV.nilS.notU=true)/\(∀(e:Nat)(xs:List PV),(PV.sl e xs).notU=true)/\(∀(β o n:Nat),(PV.mso β o n).notU=true)/\(∀(β o n:Nat),(PV.nso β o n).notU=true)/\(∀cs:List PV,(PV.pt cs).notU=true)/\(PV.undef.notU=false):=by
 refine⟨?_,?_,?_,?_,?_,?_,?_,?_⟩<;>intros<;>rfl
theorem Qam3:(∀(k:IntKind)(n:Int),(PV.int k n).isRefC=false)/\(∀b:Bool,(PV.bool b).isRefC=false)/\(PV.nilS.isRefC=false)/\(∀(e:Nat)(xs:List PV),(PV.sl e xs).isRefC=false)/\(∀(β o n:Nat),(PV.mso β o n).isRefC=true)/\(∀(β o n:Nat),(PV.nso β o n).isRefC=true)/\(∀cs:List PV,(PV.pt cs).isRefC=false)/\(PV.undef.isRefC=true):=by
 refine⟨?_,?_,?_,?_,?_,?_,?_,?_⟩<;>intros<;>rfl
theorem Q7j{cs:List PV}(h:cs.any PV.isRefC=true):Qgd cs= .rag cs:=by simp[Qgd,h]
theorem Q7k{cs:List PV}(h:cs.any PV.isRefC=false):Qgd cs= .agg cs:=by simp[Qgd,h]
theorem Qalu{a b:PV}{cs:List PV}:Qea (a::b::cs)=Qgd (a::b::cs):=rfl
theorem Qalv{a:PV}:Qea [a]=a:=rfl
theorem Qam4{n o:Nat}{x:PV}:ldN true n o x=Qgd ((x.ncells.drop o).take n):=rfl
theorem Qam5{n o:Nat}{x:PV}:ldN false n o x=(x.ncells.drop o).headD .undef:=rfl
theorem Qah2{l cs:List PV}{o:Nat}:Qki l o cs=l.take o++cs++l.drop (o+cs.length):=rfl
theorem Q39{cs:List PV}:(PV.rag cs).ncells=cs:=rfl
theorem Q4a{cs:List PV}:(PV.agg cs).ncells=cs:=rfl
theorem Qam6{z:List PV}{ps:List (Nat×Nat×PV)}{d:Nat}(h:ps.any (fun p=>p.2.2.isNst)=true):Qfy z ps d fr hp K=(Qhc z.length ps/\K (upd fr d (.rag (Qcw z (ps.map fun p=>(p.1,(stN p.2.2).getD []))))) hp):=by
 simp only[Qfy,if_pos h]
theorem Q0w{len:Nat}:Qhc len []=True:=by simp[Qhc]
theorem Qzx{len o n:Nat}{v:PV}{ps:List (Nat×Nat×PV)}:Qhc len ((o,n,v)::ps)=((∃cs,stN v=some cs/\cs.length=n/\o+n<=len)/\Qhc len ps):=by simp[Qhc]
theorem Qalw:(∀(γ o n:Nat),(PV.nso γ o n).isNst=true)/\(∀(cs:List PV),(PV.rag cs).isNst=true)/\(∀(β o n:Nat),(PV.mso β o n).isNst=decide (2000000<=β))/\(∀(cs:List PV),(PV.agg cs).isNst=false)/\(∀(k:IntKind)(n:Int),(PV.int k n).isNst=false)/\(∀b:Bool,(PV.bool b).isNst=false)/\(PV.nilS.isNst=false)/\(∀(e:Nat)(xs:List PV),(PV.sl e xs).isNst=false):=by
 refine⟨?_,?_,?_,?_,?_,?_,?_,?_⟩<;>intros<;>rfl
theorem Qah3:(∀(β:Nat)(k:IntKind)(n:Int),Qdc β (.int k n)= .int k n)/\(∀(β:Nat)(b:Bool),Qdc β (.bool b)= .bool b)/\(∀β:Nat,Qdc β .nilS= .nilS)/\(∀(β e:Nat)(xs:List PV),Qdc β (.sl e xs)= .sl e xs)/\(∀(β γ o n:Nat),Qdc β (.mso γ o n)=if γ=β then .undef else .mso γ o n)/\(∀(β γ o n:Nat),Qdc β (.nso γ o n)=if γ=β then .undef else .nso γ o n):=by
 refine⟨?_,?_,?_,?_,?_,?_⟩<;>intros<;>rfl
theorem Qah4{β γ e ty:Nat}{x:PV}(h:γ≠β):Qbg β (.nst γ e ty [x])= .nst γ e ty [Qea (x.ncells.map (Qdc β))]:=by simp[Qbg,h]
theorem Qah5{β γ ty B n w:Nat}{π:Nat->Nat}(h:γ≠β)(h2:β<B):Qbg β (.nst γ 1 ty (Qd9 (Qd4 B n w π)))= .nst γ 1 ty (Qd9 (Qd4 B n w π)):=by
 simp only[Qbg,if_neg h]
 congr 1
 conv=>rhs;rw[<-List.map_id (Qd9 (Qd4 B n w π))]
 refine List.map_congr_left fun x hx=> ?_
 obtain⟨y,hy,rfl⟩:=List.mem_map.1 hx
 obtain⟨r,hr,rfl⟩:=List.mem_map.1 hy
 simp only[PV.ncells,PV.cells,List.map_cons,List.map_nil,Qdc,Qea]
 rw[if_neg (by omega)];rfl
theorem mv_P{β δ γ ty B n w:Nat}{π:Nat->Nat}(hβ:β<1000000)(hB:2000000<=B)(hγ:2000000<=γ):rnP (mvN β δ) (.nst γ 1 ty (Qd9 (Qd4 B n w π)))= .nst γ 1 ty (Qd9 (Qd4 B n w π)):=by
 have e1:mvN β δ γ=γ:=by unfold mvN;rw[if_neg (by omega)]
 simp only[rnP,e1]
 congr 1
 conv=>rhs;rw[<-List.map_id (Qd9 (Qd4 B n w π))]
 refine List.map_congr_left fun x hx=> ?_
 obtain⟨y,hy,rfl⟩:=List.mem_map.1 hx
 obtain⟨r,hr,rfl⟩:=List.mem_map.1 hy
 refine Qaf9 (.inr ⟨_,_,rfl⟩) fun β' n' h=> ?_
 cases h;unfold mvN;rw[if_neg (by omega)]
theorem Qam7{δ γ ty B n w:Nat}{π:Nat->Nat}(h:γ≠δ)(hδ:δ<B):Qdg δ (.nst γ 1 ty (Qd9 (Qd4 B n w π)))= .nst γ 1 ty (Qd9 (Qd4 B n w π)):=by
 simp only[Qdg,if_neg h]
 congr 1
 conv=>rhs;rw[<-List.map_id (Qd9 (Qd4 B n w π))]
 refine List.map_congr_left fun x hx=> ?_
 obtain⟨y,hy,rfl⟩:=List.mem_map.1 hx
 obtain⟨r,hr,rfl⟩:=List.mem_map.1 hy
 simp only[PV.ncells,PV.cells,List.map_cons,List.map_nil,Qed,Qea]
 rw[if_neg (by omega)];rfl
theorem Q7l{β:Nat}{cs:List PV}:Qaq β (.rag cs)= .rag cs:=rfl
theorem Qac2{γ:Nat}{cs:List PV}:Qdg γ (.rag cs)= .rag (cs.map (Qed γ)):=rfl
theorem Q7m{β:Nat}{cs:List PV}:Qbg β (.rag cs)= .rag (cs.map (Qdc β)):=rfl
theorem Qam8:(∀(γ:Nat)(k:IntKind)(n:Int),Qed γ (.int k n)= .int k n)/\(∀(γ:Nat)(b:Bool),Qed γ (.bool b)= .bool b)/\(∀γ:Nat,Qed γ .nilS= .nilS)/\(∀(γ e:Nat)(xs:List PV),Qed γ (.sl e xs)= .sl e xs)/\(∀(γ β o n:Nat),Qed γ (.mso β o n)=if β=γ then .nso γ o n else .mso β o n)/\(∀(γ β o n:Nat),Qed γ (.nso β o n)= .nso β o n):=by
 refine⟨?_,?_,?_,?_,?_,?_⟩<;>intros<;>rfl
theorem Qalx{γ i o off d:Nat}:Qlw off (.np γ i o) d fr hp K=K (upd fr d (.np γ i (o+off))) hp:=rfl
theorem Q7n{γ γ' e ty:Nat}{xs:List PV}:Qdk γ (.nst γ' e ty xs)=if γ'=γ then .undef else .nst γ' e ty xs:=rfl
theorem Q7o{γ:Nat}{cs:List PV}:Qdk γ (.rag cs)= .rag cs:=rfl
attribute [go_sem] Qalx Q7n Q7o false_and List.all_cons List.all_nil Q7l Qac2 Q7m Qam8 exists_eq_left' Qalr Qals Qamy Qamz Qam0 Qam1 stNs Qalt Qah1 Qam2 Qam3 Q7j Q7k Qalu Qalv Qam4 Qam5 Qah2 Q39 Q4a Qam6 Q0w Qzx Qalw Qah3 Qah4 Qah5 mv_P Qam7
theorem Q18{p:PV}(h:Cln p):Qec p=p:=by
 obtain⟨h1,h2,h3,h4⟩:=h
 have h5:(p.refs.any isN||p.sref.any isS)=false:=by
  rw[Bool.or_eq_false_iff,List.any_eq_false,List.any_eq_false]
  exact⟨fun x hx=>by simp[h1 x hx],fun x hx=>by simp[h2 x hx]⟩
 unfold Qec
 split
 ·exact absurd rfl (h3 _ _ _ _)
 ·exact absurd rfl (h4 _)
 ·rw[h5];rfl
theorem Q4b{V W:List (Nat×Nat)}{B B':List Nat}{X Z F:Fr}(h:Qrk V W=true)(hB:(B'.all B.contains)=true):ovr V X (bse B' (ovr W Z (bse B F)))=ovr W (ovr V X (bse B' Z)) (bse B F):=by
 have e1:Qc7 (ovr W Z (bse B F))=ovr W (Qc7 Z) (bse B F):=by
  funext s
  show Qec (ovr W Z (bse B F) s)=_
  unfold ovr
  split
  ·rfl
  ·exact Q18 (Qmo B F s)
 unfold bse
 rw[show Qc7 (ovr W Z (Qad B (Qc7 F)))=ovr W (Qc7 Z) (Qad B (Qc7 F))from e1,Q0j h hB]
theorem Q19{γ e ty:Nat}{cs cs':List PV}(δ e' ty':Nat)(hfr:fr γ= .nst γ e ty [.rag cs])(h1:hp δ=none)(h2:2000000<=δ)(h3:0<e')(hl:cs'.length=cs.length)(hc:∀p∈cs.zip cs',p.2=p.1∨(p.1= .nilS/\p.2= .mso δ 0 0)):
  Wk fr hp (upd fr γ (.nst γ e ty [.rag cs'])) (Qt hp δ ⟨e',ty',[],false⟩):=by
 have h:=Qaax (fr:=fr) (hp:=hp) (γ:=γ) (e:=e) (ty:=ty) (xs:=[.rag cs]) (xs':=[.rag cs']) (fun x=>if x=δ then some (e',ty')else none) hfr (fun x y h=> ?_) rfl (fun i x x' k1 k2=> ?_)
 ·refine cast (congrArg (Wk fr hp (upd fr γ (.nst γ e ty [.rag cs']))) (funext fun x=> ?_)) h
  unfold Qt
  by_cases hx:x=δ
  ·subst hx;simp
  ·simp[hx]
 ·split at h
  ·rename_i hx;subst hx;cases h;exact⟨h1,h2,h3⟩
  ·cases h
 ·cases i with
  |succ i=>cases k1
  | zero=>
   cases k1;cases k2
   refine⟨hl,fun j y y' q1 q2=> ?_⟩
   have hz:(y,y')∈cs.zip cs':=by
    refine List.mem_of_getElem? (i:=j) ?_
    rw[List.getElem?_zip_eq_some]
    exact⟨q1,q2⟩
   rcases hc _ hz with h|⟨h,h'⟩
   ·exact .inl h
   ·exact .inr ⟨h,δ,(e',ty'),by simp,h'⟩
theorem Qtv{V W:List (Nat×Nat)}{B:List Nat}{X Z F:Fr}(h:Qrk V W=true):ovr V X (Qc7 (ovr W Z (Qad B (Qc7 F))))=ovr W (ovr V X (Qc7 Z)) (Qad B (Qc7 F)):=by
 have e1:Qc7 (ovr W Z (bse B F))=ovr W (Qc7 Z) (bse B F):=by
  funext s
  show Qec (ovr W Z (bse B F) s)=_
  unfold ovr
  split
  ·rfl
  ·exact Q18 (Qmo B F s)
 rw[show Qc7 (ovr W Z (Qad B (Qc7 F)))=ovr W (Qc7 Z) (Qad B (Qc7 F))from e1,Qhe h]
theorem Q0x{V W:List (Nat×Nat)}{X Z F:Fr}(h:Qrk V W=true):ovr V X (Qc7 (ovr W Z (Qc7 F)))=ovr W (ovr V X (Qc7 Z)) (Qc7 F):=by
 have:=Qtv (V:=V) (W:=W) (B:=[]) (X:=X) (Z:=Z) (F:=F) h
 simpa only[Qce]using this
theorem Q7p{γ:Nat}{F:Fr}:Qdl γ (Qc7 F)=Qc7 F:=by
 have:=Qv4 (γ:=γ) (B:=[]) (F:=F)
 simpa only[bse,Qce]using this
theorem Q7q{β:Nat}{F:Fr}(h:2000000<=β):Qd6 β (Qc7 F)=Qc7 F:=by
 have:=Qv3 (B:=[]) (F:=F) h
 simpa only[bse,Qce]using this
attribute [go_sem] Q7p Q7q
theorem Qam9:(∀(k:IntKind)(n:Int),(PV.int k n).sref=[])/\(∀b:Bool,(PV.bool b).sref=[])/\(PV.nilS.sref=[])/\(PV.undef.sref=[])/\(∀(e:Nat)(xs:List PV),(PV.sl e xs).sref=[])/\(∀cs:List PV,(PV.agg cs).sref=[])/\(∀cs:List PV,(PV.tup cs).sref=[])/\(∀cs:List PV,(PV.pt cs).sref=[])/\
  (∀(β o n:Nat),(PV.mso β o n).sref=[])/\(∀(β o n:Nat),(PV.mp β o n).sref=[])/\(∀(β o n:Nat),(PV.nso β o n).sref=[β])/\(∀(β o n:Nat),(PV.np β o n).sref=[β]):=by
 refine⟨?_,?_,?_,?_,?_,?_,?_,?_,?_,?_,?_,?_⟩<;>intros<;>rfl
attribute [go_sem] Qam9
theorem Qac3{d w i:Nat}{k:IntKind}{f:Nat->Rat}(h:i<w):Qeb 3 (.sl 3 (Ql4 PV.rat f w)) (.int k (i:Nat)) d fr hp K=K (upd fr d (.pt (PV.rat (f i)).cells)) hp:=by
 unfold Ql4
 rw[Qj8 (by omega) (by simp;omega)]
 simp
theorem Qac4{α:Type}{p:α->PV}{f:Nat->α}{w d e:Nat}:Qji (.sl e (Ql4 p f w)) d fr hp K=K (upd fr d (.int .i64 (w:Nat))) hp:=by
 simp[Qji,Ql4]
attribute [go_sem] Qac3 Qac4
theorem Qah6{i c:Nat}(h:c<1600000):(1600000+i=c)=False:=by simp;omega
attribute [go_sem] Qah6
end Go.FW
namespace Go.FW
open Go
variable {C C' : Ctx} {ρ ρ' : Nat -> Option Nat} {fr fr' : Fr} {hp hp' : HP} {w : World} {K R : Qg}
theorem Qah7{sk:List It}{r:RT}(s k:Nat)(l:List Nat){p D:PV}(h0:fr s=p)(h1:okDP fr k p)(h2:dsnP fr hp k p=D)(h3:rchP fr k p=l)(hv:vc C R (.o r::sk) (upd fr s D) (Qah hp l)):vc C R (.o (.wk r)::sk) fr hp:=by
 subst h0
 subst h2
 subst h3
 exact Qj0 (Qaj1 s k h1) hv
end Go.FW
namespace Go.FW
open Go
structure Qct(hp:HP)(p:PV)(cs:List PV)(rs:List Nat):Prop where
 d:(Qaa hp p).isData=true
 c:(Qaa hp p).cells=cs
 r:p.refs=rs
 n:p.isNst=false
theorem Qct.flat{hp:HP}{p:PV}(h:p.flat=true):Qct hp p p.cells []:=by
 obtain⟨s1,s2,s3⟩:=Qeh (hp:=hp) h
 exact⟨by rw[s1];exact s3,by rw[s1],s2,Qs3 h⟩
theorem Qct.own{hp:HP}{β m e ty:Nat}{xs:List PV}{fz:Bool}(hb:hp β=some ⟨e,ty,xs,fz⟩)(hm:m=xs.length)(hB:isB β=false:=by decide):Qct hp (.ms β m) [.sl e xs] [β]:=by
 have s4:Qaa hp (.ms β m)= .sl e xs:=by simp[Qaa,Qa0,Qkh hB,hb,hm]
 exact⟨by rw[s4];rfl,by rw[s4];rfl,rfl,by simp[isB]at hB;simp[PV.isNst];omega⟩
theorem Q4c{fr:Fr}{hp:HP}{K:Qg}{z:List PV}{d o1 o2 o3 o4 n1 n2 n3 n4:Nat}{p1 p2 p3 p4:PV}{c1 c2 c3 c4:List PV}{r1 r2 r3 r4:List Nat}(h1:Qct hp p1 c1 r1)(h2:Qct hp p2 c2 r2)(h3:Qct hp p3 c3 r3)(h4:Qct hp p4 c4 r4):
  Qfy z [(o1,n1,p1),(o2,n2,p2),(o3,n3,p3),(o4,n4,p4)] d fr hp K=((c1.length=n1/\o1+n1<=z.length)/\(c2.length=n2/\o2+n2<=z.length)/\(c3.length=n3/\o3+n3<=z.length)/\(c4.length=n4/\o4+n4<=z.length)/\K (upd fr d (.agg (Qcw z [(o1,c1),(o2,c2),(o3,c3),(o4,c4)]))) (Qah hp (r1++(r2++(r3++r4))))):=by
 unfold Qfy Qsb Qxh
 rw[if_neg (by simp[h1.n,h2.n,h3.n,h4.n])]
 apply propext
 simp only[List.mem_cons,List.not_mem_nil,or_false,forall_eq_or_imp,forall_eq,h1.d,h2.d,h3.d,h4.d,h1.c,h2.c,h3.c,h4.c,h1.r,h2.r,h3.r,h4.r,true_and,List.map_cons,List.map_nil,List.flatMap_cons,List.flatMap_nil,List.append_nil,and_assoc]
theorem Qah8{fr:Fr}{hp:HP}{K:Qg}{ty i d:Nat}{fz:Bool}{l:List (List Tm)}(h:i<l.length):ldM (some ⟨1,ty,l.map PV.poly,fz⟩) 1 false i 0 d fr hp K=K (upd fr d (PV.poly (l[i]'h))) hp:=by
 have hi:i<(l.map PV.poly).length:=by simpa using h
 simp[ldM,h,ldV,PV.cells]
theorem Qah9{fr:Fr}{hp:HP}{ty β i:Nat}{v:List Tm}{l:List (List Tm)}{K:Qg}(h:i<l.length):stM (some ⟨1,ty,l.map PV.poly,false⟩) β 1 i 0 (PV.poly v) fr hp K=K fr (Qt hp β ⟨1,ty,(l.set i v).map PV.poly,false⟩):=by
 rw[Qox (n:=1) (xs:=l.map PV.poly) (v:=PV.poly v) (by simpa using h) rfl rfl,List.map_set]
theorem Qac5{fr:Fr}{hp:HP}{K:Qg}{e β m d ty:Nat}{xs:List PV}{fz:Bool}{k:IntKind}(hb:hp β=some ⟨e,ty,xs,fz⟩)(hm:0<m):Qeb e (.ms β m) (.int k 0) d fr hp K=K (upd fr d (.mp β 0 0)) hp:=by
 simp[Qeb,hb,hm]
end Go.FW
