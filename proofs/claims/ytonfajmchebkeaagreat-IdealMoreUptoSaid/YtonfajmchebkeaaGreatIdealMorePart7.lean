/- Part 7 of the proof of IdealMore: G1, P8, U7, G2, U8, U10, G3, G4, G5, W1, W2, W3, W4, W5, W6, W7, W8, FwWF, FwNH, FwNI, FwNJ, FwWG. Own lemmas; no conditions. -/
import Derived.Test.YtonfajmchebkeaaGreatIdealMorePart6
set_option linter.unusedSimpArgs false
set_option linter.unnecessarySimpa false
set_option linter.unusedVariables false
namespace Go.Proofs.YtonfajmchebkeaaGreat
open Go Go.FW
set_option linter.unusedSimpArgs false
set_option linter.unusedVariables false
set_option maxRecDepth 100000
def smK(t:RTm):Bool:=decide (t.m.length<=4)&&(decide (t.a.length<=2)&&(decide (t.d.length<=2)&&t.m.all fun x=>decide (x<=4)))
def Qg4(l:List RTm):Bool:=decide (l.length<=6)&&(l.all smK&&Qf0 l)
theorem Qiz{l:List RTm}{k:Nat}(hb:∀t∈l,RB k t)(hk1:1<=k)(hk:k<2^36)(hll:l.length<2^40):
  Qd Tryz.prog 34 [PV.rpoly l] (· = .bool (Qg4 l)):=by
 have bad:∀i (h:i<l.length),smK l[i]=false->Qg4 l=false:=fun i hi h=>by
  have:l.all smK=false:=by
   rw[List.all_eq_false];exact⟨_,List.getElem_mem hi,by simp[h]⟩
  simp[Qg4,this]
 refine Qf Qk Tryz.func34 rfl Qamn (by simp[c34]) fun C hP=> ?_;simp only[c34,Zo,Zg,Zm,Zc,Zf,Zl,Zh,Zs,Zi,Zb,Zk,Zn,Zu,Zq,Zr,Zz]
 simp+decide (disch:=first|exact D0|fail) only[go_sem,↓reduceIte]
 refine Qb (fun hn=> ?_) (fun hn=> ?_)
 ·simp+decide (disch:=first|exact D0|fail) only[go_sem,↓reduceIte]
  exact Qc (by simp[Qg4,show ¬l.length<=6 by omega]) rfl
 have hn':l.length<=6:=by omega
 simp+decide (disch:=first|exact D0|fail) only[go_sem,↓reduceIte]
 refine Q6 (by repeat (first|exact Qx|exact Qp|exact Qq|exact Qr|exact Qt|apply Qo|apply Qw|apply Q4|apply Qac|apply Qad|apply Qm|apply Q5)) [(2,4),(8,60)] [] (fun m J hp=>∃i,m=l.length-i/\i<=l.length/\(∀j (h:j<l.length),j<i->smK l[j]=true)/\J 3= .int .i64 (i:Nat)) l.length ?_ ?_
 ·refine⟨0,rfl,by omega,by omega,?_⟩
  simp+decide (disch:=first|exact D0|fail) only[go_sem,↓reduceIte]
  rfl
 rintro _ J h ⟨i,rfl,hi,h1,h9⟩
 simp+decide (disch:=first|exact D1 h9|fail) only[go_sem,↓reduceIte,h9]
 refine Qb (fun hg=> ?_) (fun hg=> ?_)
 ·have hi':i<l.length:=by omega
  have hbt:=hb _ (List.getElem_mem hi')
  have hbad:=bad i hi'
  have hml:=hbt.l
  have hadd:smK l[i]=true->∀j (h:j<l.length),j<i+1->smK l[j]=true:=fun h j hj hji=>by
   by_cases e:j=i
   ·subst e;exact h
   ·exact h1 j hj (by omega)
  generalize hx:l[i]=x at *
  simp+decide (disch:=first|exact D2 h9 hx|fail) only[go_sem,↓reduceIte,h9,hx]
  refine Qaa (fun h2=> ?_) (fun h2=> ?_)
  ·simp+decide (disch:=first|exact D2 h9 hx|fail) only[go_sem,↓reduceIte,h9,hx]
   exact Qc (by rw[hbad (by simp[smK,show ¬x.m.length<=4 by omega])]) rfl
  simp+decide (disch:=first|exact D2 h9 hx|fail) only[go_sem,↓reduceIte,h9,hx]
  refine Qaa (fun h3=> ?_) (fun h3=> ?_)
  ·simp+decide (disch:=first|exact D2 h9 hx|fail) only[go_sem,↓reduceIte,h9,hx]
   exact Qc (by rw[hbad (by simp[smK,show ¬x.a.length<=2 by omega])]) rfl
  simp+decide (disch:=first|exact D2 h9 hx|fail) only[go_sem,↓reduceIte,h9,hx]
  refine Qb (fun h4=> ?_) (fun h4=> ?_)
  ·simp+decide (disch:=first|exact D2 h9 hx|fail) only[go_sem,↓reduceIte,h9,hx]
   exact Qc (by rw[hbad (by simp[smK,show ¬x.d.length<=2 by omega])]) rfl
  simp+decide (disch:=first|exact D2 h9 hx|fail) only[go_sem,↓reduceIte,h9,hx]
  refine Q6 (by repeat (first|exact Qx|exact Qp|exact Qq|exact Qr|exact Qt|apply Qo|apply Qw|apply Q4|apply Qac|apply Qad|apply Qm|apply Q5)) [(2,2),(4,4),(42,60)] [] (fun m J hp=>∃j,m=x.m.length-j/\j<=x.m.length/\(∀y∈x.m.take j,y<=4)/\J 4= .int .i64 (j:Nat)) x.m.length ?_ ?_
  ·refine⟨0,rfl,by omega,by simp,?_⟩
   simp+decide (disch:=first|exact D0|fail) only[go_sem,↓reduceIte]
   rfl
  rintro _ J2 h2' ⟨j,rfl,hj,h5,h10⟩
  simp+decide (disch:=first|exact D3 h9 h10 hx|fail) only[go_sem,↓reduceIte,h9,h10,hx]
  refine Qb (fun hg2=> ?_) (fun hg2=> ?_)
  ·have hj':j<x.m.length:=by omega
   have hmem:=List.getElem_mem hj'
   have htk:x.m.take (j+1)=x.m.take j++[x.m[j]]:=List.take_succ_eq_append_getElem hj'
   generalize hy:x.m[j]=y at *
   simp+decide (disch:=first|exact D4 h9 h10 hx hy|fail) only[go_sem,↓reduceIte,h9,h10,hx,hy]
   refine Qb (fun h6=> ?_) (fun h6=> ?_)
   ·simp+decide (disch:=first|exact D3 h9 h10 hx|fail) only[go_sem,↓reduceIte,h9,h10,hx]
    refine Qc ?_ rfl
    rw[hbad]
    have:(x.m.all fun x=>decide (x<=4))=false:=by
     rw[List.all_eq_false];exact⟨y,hmem,by simp;omega⟩
    simp[smK,this]
   ·simp+decide (disch:=first|exact D3 h9 h10 hx|fail) only[go_sem,↓reduceIte,h9,h10,hx]
    refine Qi (x.m.length-(j+1)) (by omega) ⟨j+1,rfl,by omega,?_,?_⟩
    ·rw[htk]
     intro z hz
     rcases List.mem_append.1 hz with hz|hz
     ·exact h5 z hz
     ·simp at hz;omega
    ·simp+decide (disch:=first|exact D0|fail) only[go_sem,↓reduceIte]
  ·rw[List.take_of_length_le (by omega)]at h5
   have hsm:smK x=true:=by
    simp only[smK,Bool.and_eq_true,decide_eq_true_eq,List.all_eq_true]
    exact⟨by omega,by omega,by omega,h5⟩
   simp+decide (disch:=first|exact D2 h9 h10|fail) only[go_sem,↓reduceIte,h9,h10]
   simp (disch:=decide) only[Qck,Qir]
   refine Qi (l.length-(i+1)) (by omega) ⟨i+1,rfl,by omega,hadd hsm,?_⟩
   simp+decide (disch:=first|exact D0|fail) only[go_sem,↓reduceIte]
 ·obtain rfl:i=l.length:=by omega
  have hall:l.all smK=true:=by
   rw[List.all_eq_true]
   intro t ht
   obtain⟨j,hj,rfl⟩:=List.getElem_of_mem ht
   exact h1 j hj hj
  simp+decide (disch:=first|exact D0|fail) only[go_sem,↓reduceIte]
  refine Qa hP (Q0f hb hk1 hk hll) rfl rfl rfl ?_
  simp+decide (disch:=first|exact D0|fail) only[go_sem,↓reduceIte]
  exact Qc (by simp[Qg4,hn',hall]) rfl
def Qll(ls:List (List RTm)):Bool:=decide (ls.length<=4)&&ls.all Qg4
theorem Qi0{ls:List (List RTm)}{k:Nat}(hb:∀l∈ls,(∀t∈l,RB k t)/\l.length<2^40)(hk1:1<=k)(hk:k<2^36)(hll:ls.length<2^40):
  Qd Tryz.prog 28 [.sl 1 (ls.map PV.rpoly)] (· = .bool (Qll ls)):=by
 refine Qf Qk Tryz.func28 rfl Qamo (by simp[c28]) fun C hP=> ?_;simp only[c28,Zo,Zg,Zm,Zc,Zf,Zl,Zh,Zs,Zi,Zb,Zk,Zn,Zu,Zq,Zr,Zz]
 simp+decide (disch:=first|exact D0|fail) only[go_sem,↓reduceIte]
 refine Qb (fun hn=> ?_) (fun hn=> ?_)
 ·simp+decide (disch:=first|exact D0|fail) only[go_sem,↓reduceIte]
  exact Qc (by simp[Qll,show ¬ls.length<=4 by omega]) rfl
 have hn':ls.length<=4:=by omega
 simp+decide (disch:=first|exact D0|fail) only[go_sem,↓reduceIte]
 refine Q6 (by repeat (first|exact Qx|exact Qp|exact Qq|exact Qr|exact Qt|apply Qo|apply Qw|apply Q4|apply Qac|apply Qad|apply Qm|apply Q5)) [(2,3),(7,18)] [] (fun m J hp=>∃i,m=ls.length-i/\i<=ls.length/\(∀j (h:j<ls.length),j<i->Qg4 ls[j]=true)/\J 3= .int .i64 (i:Nat)) ls.length ?_ ?_
 ·refine⟨0,rfl,by omega,by omega,?_⟩
  simp+decide (disch:=first|exact D0|fail) only[go_sem,↓reduceIte]
  rfl
 rintro _ J h ⟨i,rfl,hi,h1,h3⟩
 simp+decide (disch:=first|exact D1 h3|fail) only[go_sem,↓reduceIte,h3]
 refine Qb (fun hg=> ?_) (fun hg=> ?_)
 ·have hi':i<ls.length:=by omega
  have hbt:=hb _ (List.getElem_mem hi')
  have hmem:=List.getElem_mem hi'
  have hadd:Qg4 ls[i]=true->∀j (h:j<ls.length),j<i+1->Qg4 ls[j]=true:=fun h j hj hji=>by
   by_cases e:j=i
   ·subst e;exact h
   ·exact h1 j hj (by omega)
  generalize hx:ls[i]=x at *
  simp+decide (disch:=first|exact D2 h3 hx|fail) only[go_sem,↓reduceIte,h3,hx]
  refine Qa hP (Qiz hbt.1 hk1 hk hbt.2) rfl rfl rfl ?_
  simp+decide (disch:=first|exact D1 h3|fail) only[go_sem,↓reduceIte,h3]
  cases hs:Qg4 x
  ·simp+decide (disch:=first|exact D2 h3 hs|fail) only[go_sem,↓reduceIte,h3,hs]
   refine Qc ?_ rfl
   have:ls.all Qg4=false:=by
    rw[List.all_eq_false];exact⟨x,hmem,by simp[hs]⟩
   simp[Qll,this]
  ·simp+decide (disch:=first|exact D2 h3 hs|fail) only[go_sem,↓reduceIte,h3,hs]
   refine Qi (ls.length-(i+1)) (by omega) ⟨i+1,rfl,by omega,hadd hs,?_⟩
   simp+decide (disch:=first|exact D0|fail) only[go_sem,↓reduceIte]
 ·obtain rfl:i=ls.length:=by omega
  simp+decide (disch:=first|exact D0|fail) only[go_sem,↓reduceIte]
  refine Qc ?_ rfl
  have:ls.all Qg4=true:=by
   rw[List.all_eq_true]
   intro t ht
   obtain⟨j,hj,rfl⟩:=List.getElem_of_mem ht
   exact h1 j hj hj
  simp[Qll,this,hn']
structure Qgi where
 fs:List (List RTm)
 ps:List Int
 n:Int
 cs:List (List RTm)
abbrev PV.rcert(c:Qgi):PV:= .agg [.sl 1 (c.fs.map PV.rpoly),PV.mono c.ps,.int .i64 c.n,.sl 1 (c.cs.map PV.rpoly)]
structure RC(k:Nat)(c:Qgi):Prop where
 f:∀l∈c.fs,(∀t∈l,RB k t)/\l.length<2^40
 g:∀l∈c.cs,(∀t∈l,RB k t)/\l.length<2^40
 fl:c.fs.length<2^40
 cl:c.cs.length<2^40
 pl:c.ps.length<2^40
def Qo2(c:Qgi):Bool:=Qll c.fs&&(Qll c.cs&&decide (c.ps.length<=6))
theorem Q5b{c:Qgi}{k:Nat}(hb:RC k c)(hk1:1<=k)(hk:k<2^36):Qd Tryz.prog 33 [PV.rcert c] (· = .bool (Qo2 c)):=by
 have h1:=Qi0 hb.f hk1 hk hb.fl
 have h2:=Qi0 hb.g hk1 hk hb.cl
 have h3:=hb.pl
 refine Qf Qk Tryz.func33 rfl Qamp (by simp[c33]) fun C hP=> ?_;simp only[c33,Zo,Zg,Zm,Zc,Zf,Zl,Zh,Zs,Zi,Zb,Zk,Zn,Zu,Zq,Zr,Zz]
 simp+decide (disch:=first|exact D0|fail) only[go_sem,↓reduceIte]
 refine Qa hP h1 rfl rfl rfl ?_
 cases e1:Qll c.fs
 ·simp+decide (disch:=first|exact D0|fail) only[go_sem,↓reduceIte]
  exact Qc (by simp[Qo2,e1]) rfl
 simp+decide (disch:=first|exact D0|fail) only[go_sem,↓reduceIte]
 refine Qa hP h2 rfl rfl rfl ?_
 cases e2:Qll c.cs
 ·simp+decide (disch:=first|exact D0|fail) only[go_sem,↓reduceIte]
  exact Qc (by simp[Qo2,e2]) rfl
 simp+decide (disch:=first|exact D0|fail) only[go_sem,↓reduceIte]
 exact Qc (by simp only[Qo2,e1,e2,Bool.true_and];exact congrArg PV.bool (decide_eq_decide.2 ⟨fun h=>by omega,fun h=>by omega⟩)) rfl
def Qma(c:Qgi)(i:Nat):Bool:=decide (0<=c.ps.getD i 0/\c.ps.getD i 0<=4/\c.fs.getD i []≠[])
def Qjc(c:Qgi):Bool:=Qo2 c&&(decide (c.ps.length=c.fs.length)&&(List.range c.ps.length).all (Qma c))
theorem Q8t{c:Qgi}{k:Nat}(hb:RC k c)(hk1:1<=k)(hk:k<2^36):Qd Tryz.prog 40 [PV.rcert c] (· = .bool (Qjc c)):=by
 have h1:=Q5b hb hk1 hk
 have h2:=hb.pl
 have h3:=hb.fl
 obtain⟨fs,ps,n,cs⟩:=c
 refine Qf Qk Tryz.func40 rfl Qamq (by simp[c40]) fun C hP=> ?_;simp only[c40,Zo,Zg,Zm,Zc,Zf,Zl,Zh,Zs,Zi,Zb,Zk,Zn,Zu,Zq,Zr,Zz]
 simp+decide (disch:=first|exact D0|fail) only[go_sem,↓reduceIte]
 refine Qa hP h1 rfl rfl rfl ?_
 cases e1:Qo2 ⟨fs,ps,n,cs⟩
 ·simp+decide (disch:=first|exact D0|fail) only[go_sem,↓reduceIte]
  exact Qc (by simp[Qjc,e1]) rfl
 simp+decide (disch:=first|exact D0|fail) only[go_sem,↓reduceIte]
 simp only at h2 h3
 refine Qb (fun hl=> ?_) (fun hl=> ?_)
 ·simp+decide (disch:=first|exact D0|fail) only[go_sem,↓reduceIte]
  exact Qc (by simp[Qjc,show ¬ps.length=fs.length by omega]) rfl
 have hl':ps.length=fs.length:=by omega
 simp+decide (disch:=first|exact D0|fail) only[go_sem,↓reduceIte]
 refine Q6 (by repeat (first|exact Qx|exact Qp|exact Qq|exact Qr|exact Qt|apply Qo|apply Qw|apply Q4|apply Qac|apply Qad|apply Qm|apply Q5)) [(2,3),(16,45)] [] (fun m J hp=>∃i,m=ps.length-i/\i<=ps.length/\(∀j,j<i->Qma ⟨fs,ps,n,cs⟩ j=true)/\J 3= .int .i64 (i:Nat)/\hp 1=some ⟨4,79,[PV.rcert ⟨fs,ps,n,cs⟩],false⟩) ps.length ?_ ?_
 ·refine⟨0,rfl,by omega,by omega,?_⟩
  simp+decide (disch:=first|exact D0|fail) only[go_sem,↓reduceIte]
  rfl
 rintro _ J h ⟨i,rfl,hi,h4,h5,hb1⟩
 simp+decide (disch:=first|exact D2 hb1 h5|fail) only[go_sem,↓reduceIte,hb1,h5]
 refine Qb (fun hg=> ?_) (fun hg=> ?_)
 ·have hi':i<ps.length:=by omega
  have hif:i<fs.length:=by omega
  have hbad:Qma ⟨fs,ps,n,cs⟩ i=false->Qjc ⟨fs,ps,n,cs⟩=false:=fun h=>by
   have:(List.range ps.length).all (Qma ⟨fs,ps,n,cs⟩)=false:=by
    rw[List.all_eq_false];exact⟨i,List.mem_range.2 hi',by simp[h]⟩
   simp[Qjc,this]
  have e2:ps.getD i 0=ps[i]:=by simp[hi']
  have e3:fs.getD i []=fs[i]:=by simp[hif]
  have e4:Qma ⟨fs,ps,n,cs⟩ i=decide (0<=ps[i]/\ps[i]<=4/\fs[i]≠[]):=by unfold Qma;rw[e2,e3]
  have hfl:=(hb.f _ (List.getElem_mem hif)).2
  have hbad2:¬(0<=ps[i]/\ps[i]<=4/\fs[i]≠[])->Qjc ⟨fs,ps,n,cs⟩=false:=fun h=>hbad (by rw[e4];exact decide_eq_false h)
  clear hbad
  generalize hx:ps[i]=x at *
  generalize hy:fs[i]=y at *
  simp+decide (disch:=first|exact D3 hb1 h5 hx|fail) only[go_sem,↓reduceIte,hb1,h5,hx]
  refine Qaa (fun h6=> ?_) (fun h6=> ?_)
  ·simp+decide (disch:=first|exact D3 hb1 h5 hx|fail) only[go_sem,↓reduceIte,hb1,h5,hx]
   exact Qc (by rw[hbad2 (by omega)]) rfl
  simp+decide (disch:=first|exact D3 hb1 h5 hx|fail) only[go_sem,↓reduceIte,hb1,h5,hx]
  refine Qaa (fun h7=> ?_) (fun h7=> ?_)
  ·simp+decide (disch:=first|exact D3 hb1 h5 hx|fail) only[go_sem,↓reduceIte,hb1,h5,hx]
   exact Qc (by rw[hbad2 (by omega)]) rfl
  simp+decide (disch:=first|exact D4 hb1 h5 hx hy|fail) only[go_sem,↓reduceIte,hb1,h5,hx,hy]
  refine Qb (fun h8=> ?_) (fun h8=> ?_)
  ·simp+decide (disch:=first|exact D3 hb1 h5 hx|fail) only[go_sem,↓reduceIte,hb1,h5,hx]
   obtain rfl:y=[]:=List.length_eq_zero_iff.1 (by omega)
   exact Qc (by rw[hbad2 (by simp)]) rfl
  simp+decide (disch:=first|exact D3 hb1 h5 hx|fail) only[go_sem,↓reduceIte,hb1,h5,hx]
  refine Qi (ps.length-(i+1)) (by omega) ⟨i+1,rfl,by omega,fun j hj=> ?_,?_⟩
  ·by_cases e:j=i
   ·subst e
    rw[e4]
    have:y≠[]:=fun e=>by rw[e]at h8;simp at h8
    exact decide_eq_true ⟨by omega,by omega,this⟩
   ·exact h4 j (by omega)
  ·simp+decide (disch:=first|exact D1 hb1|fail) only[go_sem,↓reduceIte,hb1]
 ·obtain rfl:i=ps.length:=by omega
  simp+decide (disch:=first|exact D0|fail) only[go_sem,↓reduceIte]
  refine Qc ?_ rfl
  have:(List.range ps.length).all (Qma ⟨fs,ps,n,cs⟩)=true:=by
   rw[List.all_eq_true]
   intro t ht
   exact h4 t (List.mem_range.1 ht)
  rw[Qjc,e1,this,decide_eq_true hl'];rfl
end Go.Proofs.YtonfajmchebkeaaGreat
namespace Go.Proofs.YtonfajmchebkeaaGreat
open Go Go.FW
set_option linter.unusedSimpArgs false
set_option linter.unusedVariables false
set_option maxRecDepth 100000
theorem Q8u{a:Rat}{k:Nat}(h:rs a<=k)(hk:k<2^36):Qd Tryz.prog 77 [PV.rat a] (· =PV.poly (Qbj a)):=by
 have:=Q0d (Qcq h) hk
 rwa[Qdi]at this
end Go.Proofs.YtonfajmchebkeaaGreat
namespace Go.Proofs.YtonfajmchebkeaaGreat
open Go Go.FW
set_option linter.unusedSimpArgs false
set_option linter.unusedVariables false
set_option maxRecDepth 100000
theorem Qrz{p:List Tm}{n:Bool}{a d:List Nat}{m:List Int}{K E k:Nat}(hp:PB K E p)(hs:Qbe p)(hnz:NZ p)(hr:Raw k n a d)(hk:k<=2^32)(hm:MB E m)(hl:m.getLast? ≠some 0)(hK:K<=2^32)(hE:E<=2^38)(hlp:p.length<=2^36):
  Qd Tryz.prog 104 [PV.poly p,PV.rr n a d,PV.mono m] (· =PV.poly (Qic p (rv n a d) m)):=by
 have hrr:=hr.rs
 refine Qf Qk Tryz.func104 rfl Qah0 (by simp[c104]) fun C hP=> ?_;simp only[c104,Zo,Zg,Zm,Zc,Zf,Zl,Zh,Zs,Zi,Zb,Zk,Zn,Zu,Zq,Zr,Zz]
 simp+decide (disch:=first|exact D0|fail) only[go_sem,↓reduceIte]
 refine Q6 (by repeat (first|exact Qx|exact Qp|exact Qq|exact Qr|exact Qt|apply Qo|apply Qw|apply Q4|apply Qac|apply Qad|apply Qm|apply Q5)) [(7,7),(12,26)] [] (fun k J hp=>k<=p.length/\(∀t∈p.drop k,Qah t.2 m<0)/\J 7= .int .i64 (k:Nat)/\hp 4=some ⟨3,32,[PV.rr n a d],false⟩) p.length ?_ ?_
 ·refine⟨by omega,by simp,?_⟩
  simp+decide (disch:=first|exact D0|fail) only[go_sem,↓reduceIte]
 rintro j J h ⟨hj,hd,h7,hh4⟩
 simp+decide (disch:=first|exact D1 h7|fail) only[go_sem,↓reduceIte,h7]
 refine Qan (fun hg=> ?_) (fun hg=> ?_)
 ·obtain⟨i,rfl⟩:∃i,j=i+1:=⟨j-1,by omega⟩
  have e:((i+1:Nat):Int)-1=i:=by omega
  have hi:i<p.length:=by omega
  have htp:=hp.get hi
  have hdr:p.drop i=p[i]::p.drop (i+1):=List.drop_eq_getElem_cons hi
  have htk:p.take (i+1)=p.take i++[p[i]]:=List.take_succ_eq_append_getElem hi
  have hts:=Qz1 hs hi
  have hall:p=p.take i++p[i]::p.drop (i+1):=by rw[<-hdr,List.take_append_drop]
  have c1:=htp.c
  generalize hx:p[i]=x at *
  simp+decide (disch:=first|exact D3 h7 e hx|fail) only[go_sem,↓reduceIte,h7,e,hx]
  refine Qa hP (Qp1 htp.m hm (by omega)) rfl rfl rfl ?_
  simp+decide (disch:=first|exact D3 h7 e hx|fail) only[go_sem,↓reduceIte,h7,e,hx]
  refine Qb (fun hc=> ?_) (fun hc=> ?_)
  ·simp+decide (disch:=first|exact D3 h7 e hx|fail) only[go_sem,↓reduceIte,h7,e,hx]
   refine Qi i (by omega) ⟨by omega,?_,?_⟩
   ·rw[hdr]
    intro t ht
    rcases List.mem_cons.1 ht with rfl|ht
    ·exact hc
    ·exact hd t ht
   ·simp+decide (disch:=first|exact D1 hh4|fail) only[go_sem,↓reduceIte,hh4]
  ·simp+decide (disch:=first|exact D3 h7 e hx|fail) only[go_sem,↓reduceIte,h7,e,hx]
   refine Qan (fun _=> ?_) (fun h=>by omega)
   simp+decide (disch:=first|exact D3 h7 e hx|fail) only[go_sem,↓reduceIte,h7,e,hx]
   refine Qa hP (Qp1 htp.m hm (by omega)) rfl rfl rfl ?_
   simp+decide (disch:=first|exact D3 h7 e hx|fail) only[go_sem,↓reduceIte,h7,e,hx]
   refine Qb (fun hc2=> ?_) (fun hc2=> ?_)
   ·have hxm:x.2=m:=(Qqv htp.l hl).1 hc2
    have hx0:=hnz _ (List.getElem_mem hi)
    rw[hx]at hx0
    have hfin:Qic p (rv n a d) m=p.take i++(if x.1+rv n a d=0 then []else [(x.1+rv n a d,m)])++p.drop (i+1):=by
     have hall':p=p.take i++(x.1,m)::p.drop (i+1):=by rw[<-hxm];exact hall
     rw[Qic]
     split
     ·rename_i h0
      have e0:x.1+0=x.1:=Rat.add_zero _
      rw[h0,Qca,e0,if_neg hx0]
      simpa using hall'
     ·conv=>lhs;rw[hall']
      exact Q2r (fun t ht=>by rw[<-hxm];exact hts t ht)
    have htl:(p.take i).length<=p.length:=List.length_take_le' _ _
    have hdl:(p.drop (i+1)).length<=p.length:=by rw[List.length_drop];omega
    have hra:=Qtp x.1 (rv n a d)
    have hxr:=Qcq (q:=x.1) (k:=2^32) (by omega)
    have hadd:=Qrr (k:=2^32) hxr (show Raw (2^32) n a d from⟨hr.la,hr.ld,by have:=hr.sa;omega,by have:=hr.sd;omega,by omega⟩) (by omega)
    rw[Qdi]at hadd
    simp+decide (disch:=first|exact D4 h7 e hx hh4|fail) only[go_sem,↓reduceIte,h7,e,hx,hh4]
    refine Qfx ?_ ?_
    all_goals
     simp+decide (disch:=first|exact D4 h7 e hx hh4|fail) only[go_sem,↓reduceIte,h7,e,hx,hh4]
     refine Qa hP hadd rfl rfl rfl ?_
     simp+decide (disch:=first|exact D4 h7 e hx hh4|fail) only[go_sem,↓reduceIte,h7,e,hx,hh4]
     refine Qa hP (Qw4 (a:=x.1+rv n a d) (by omega)) rfl rfl rfl ?_
     simp+decide (disch:=first|exact D4 h7 e hx hh4|fail) only[go_sem,↓reduceIte,h7,e,hx,hh4]
     refine Qb (fun hz=> ?_) (fun hz=> ?_)
     ·rw[if_neg (fun h=>hz (Qbq.2 h))]at hfin
      simp+decide (disch:=first|exact D4 h7 e hx hh4|fail) only[go_sem,↓reduceIte,h7,e,hx,hh4]
      rw[Qao (f:=PV.term) (y:=(x.1+rv n a d,m)) (xs:=p.take i) (ty':=127) (fz:=false) T0 Tr0 (by omega) rfl (by omega) (by omega)]
      simp+decide (disch:=first|exact D4 h7 e hx hh4|fail) only[go_sem,↓reduceIte,h7,e,hx,hh4]
      rw[Qde (f:=PV.term) (xs:=p.take i++[(x.1+rv n a d,m)]) (ys:=p.drop (i+1)) T0 (by simp<;>omega) (by omega) (by omega) (by omega)]
      simp+decide (disch:=first|exact E0|fail) only[go_sem,↓reduceIte,Q7,List.contains_cons,List.contains_nil,List.flatMap_cons,List.flatMap_nil,List.append_nil]
      refine Qc ?_ rfl
      rw[List.take_of_length_le (by simp<;>omega),hfin]
     ·rw[if_pos (Qbq.1 (Decidable.not_not.1 hz)),List.append_nil]at hfin
      simp+decide (disch:=first|exact D4 h7 e hx hh4|fail) only[go_sem,↓reduceIte,h7,e,hx,hh4]
      rw[Qde (f:=PV.term) (xs:=p.take i) (ys:=p.drop (i+1)) T0 (by simp<;>omega) (by omega) (by omega) (by omega)]
      simp+decide (disch:=first|exact E0|fail) only[go_sem,↓reduceIte,Q7,List.contains_cons,List.contains_nil,List.flatMap_cons,List.flatMap_nil,List.append_nil]
      refine Qc ?_ rfl
      rw[List.take_of_length_le (by simp<;>omega),hfin]
   ·have hgt:Qy p [(rv n a d,m)]=p.take (i+1)++(rv n a d,m)::p.drop (i+1):=by
     have:=Qvk (m:=m) (c:=rv n a d) (u:=p.take (i+1)) (v:=p.drop (i+1)) (fun t ht=>by
      rw[htk]at ht
      rcases List.mem_append.1 ht with ht|ht
      ·exact Qdf (hts t ht) (by omega)
      ·simp only[List.mem_singleton]at ht;subst ht;omega) hd
     rwa[List.take_append_drop]at this
    have htl:(p.take (i+1)).length<=p.length:=List.length_take_le' _ _
    have hdl:(p.drop (i+1)).length<=p.length:=by rw[List.length_drop];omega
    simp+decide (disch:=first|exact D2 h7 hh4|fail) only[go_sem,↓reduceIte,h7,hh4]
    refine Qa hP (Qif hr (by omega)) rfl rfl rfl ?_
    simp+decide (disch:=first|exact D2 h7 hh4|fail) only[go_sem,↓reduceIte,h7,hh4]
    refine Qb (fun hz=> ?_) (fun hz=> ?_)
    ·have hz':¬rv n a d=0:=fun h=>hz (Qbq.2 h)
     simp+decide (disch:=first|exact D2 h7 hh4|fail) only[go_sem,↓reduceIte,h7,hh4]
     refine Qa hP (Qek hr (by omega)) rfl rfl rfl ?_
     simp+decide (disch:=first|exact D2 h7 hh4|fail) only[go_sem,↓reduceIte,h7,hh4]
     rw[Qao (f:=PV.term) (y:=(rv n a d,m)) (xs:=p.take (i+1)) (ty':=127) (fz:=false) T0 Tr0 (by omega) rfl (by omega) (by omega)]
     simp+decide (disch:=first|exact D2 h7 hh4|fail) only[go_sem,↓reduceIte,h7,hh4]
     rw[Qde (f:=PV.term) (xs:=p.take (i+1)++[(rv n a d,m)]) (ys:=p.drop (i+1)) T0 (by simp<;>omega) (by omega) (by omega) (by omega)]
     simp+decide (disch:=first|exact E0|fail) only[go_sem,↓reduceIte,Q7,List.contains_cons,List.contains_nil,List.flatMap_cons,List.flatMap_nil,List.append_nil]
     refine Qc ?_ rfl
     rw[List.take_of_length_le (by simp<;>omega),Qic,if_neg hz',hgt]
     simp
    ·have hz':rv n a d=0:=Qbq.1 (Decidable.not_not.1 hz)
     simp+decide (disch:=first|exact D2 h7 hh4|fail) only[go_sem,↓reduceIte,h7,hh4]
     rw[Qde (f:=PV.term) (xs:=p.take (i+1)) (ys:=p.drop (i+1)) T0 (by simp<;>omega) (by omega) (by omega) (by omega)]
     simp+decide (disch:=first|exact E0|fail) only[go_sem,↓reduceIte,Q7,List.contains_cons,List.contains_nil,List.flatMap_cons,List.flatMap_nil,List.append_nil]
     refine Qc ?_ rfl
     rw[List.take_of_length_le (by simp<;>omega),Qic,if_pos hz',Qca,List.take_append_drop]
 ·obtain rfl:j=0:=by omega
  have hgt:Qy p [(rv n a d,m)]=[]++(rv n a d,m)::p:=Qvk (m:=m) (c:=rv n a d) (u:=[]) (v:=p) (by simp) (by simpa using hd)
  simp+decide (disch:=first|exact D1 h7|fail) only[go_sem,↓reduceIte,h7]
  rw[Q1k (by omega)]
  simp+decide (disch:=first|exact D2 h7 hh4|fail) only[go_sem,↓reduceIte,h7,hh4]
  refine Qa hP (Qif hr (by omega)) rfl rfl rfl ?_
  simp+decide (disch:=first|exact D2 h7 hh4|fail) only[go_sem,↓reduceIte,h7,hh4]
  refine Qb (fun hz=> ?_) (fun hz=> ?_)
  ·have hz':¬rv n a d=0:=fun h=>hz (Qbq.2 h)
   simp+decide (disch:=first|exact D2 h7 hh4|fail) only[go_sem,↓reduceIte,h7,hh4]
   refine Qa hP (Qek hr (by omega)) rfl rfl rfl ?_
   simp+decide (disch:=first|exact D2 h7 hh4|fail) only[go_sem,↓reduceIte,h7,hh4]
   rw[Qao (f:=PV.term) (y:=(rv n a d,m)) (xs:=([]:List Tm)) (ty':=127) (fz:=false) T0 Tr0 (by omega) (n:=0) rfl (by omega) (by omega)]
   simp+decide (disch:=first|exact D2 h7 hh4|fail) only[go_sem,↓reduceIte,h7,hh4]
   rw[Qde (f:=PV.term) (xs:=([]:List Tm)++[(rv n a d,m)]) (ys:=p) T0 (by simp<;>omega) (by omega) (by omega) (by omega)]
   simp+decide (disch:=first|exact E0|fail) only[go_sem,↓reduceIte,Q7,List.contains_cons,List.contains_nil,List.flatMap_cons,List.flatMap_nil,List.append_nil]
   refine Qc ?_ rfl
   rw[List.take_of_length_le (by simp<;>omega),Qic,if_neg hz',hgt]
   simp
  ·have hz':rv n a d=0:=Qbq.1 (Decidable.not_not.1 hz)
   simp+decide (disch:=first|exact D2 h7 hh4|fail) only[go_sem,↓reduceIte,h7,hh4]
   rw[Qde (f:=PV.term) (xs:=([]:List Tm)) (ys:=p) T0 (by simp<;>omega) (by omega) (by omega) (by omega)]
   simp+decide (disch:=first|exact E0|fail) only[go_sem,↓reduceIte,Q7,List.contains_cons,List.contains_nil,List.flatMap_cons,List.flatMap_nil,List.append_nil]
   refine Qc ?_ rfl
   rw[List.take_of_length_le (by simp<;>omega),Qic,if_pos hz',Qca]
end Go.Proofs.YtonfajmchebkeaaGreat
namespace Go.Proofs.YtonfajmchebkeaaGreat
open Go Go.FW
set_option linter.unusedSimpArgs false
set_option linter.unusedVariables false
set_option maxRecDepth 100000
theorem Qvt{a b c d:Nat}(h:a<=c)(h2:b<=d):a*b<=c*d:=Nat.mul_le_mul h h2
theorem Qp9{p q:List Tm}{n m:Nat}(hp:Prd m p)(hq:Sml q)(hn:n<=64)(hm:m<=512):Qd Tryz.prog 79 [PV.poly p,PV.poly q,.int .i64 n] (· =PV.pe (Qlk q p n)):=by
 have hql:=hq.l
 have bq:=hq.PB.mono (K':=2^18) (E':=2^17) (by omega) (by omega)
 refine Qf Qk Tryz.func79 rfl Qamr (by simp[c79]) fun C hP=> ?_;simp only[c79,Zo,Zg,Zm,Zc,Zf,Zl,Zh,Zs,Zi,Zb,Zk,Zn,Zu,Zq,Zr,Zz]
 simp+decide (disch:=first|exact D0|fail) only[go_sem,↓reduceIte]
 refine Q6 (by repeat (first|exact Qx|exact Qp|exact Qq|exact Qr|exact Qt|apply Qo|apply Qw|apply Q4|apply Qac|apply Qad|apply Qm|apply Q5)) [(0,0),(6,7),(9,17)] [] (fun r J hp=>∃k P,r=n-k/\k<=n/\Prd (m+k) P/\Qcm q (n-k) P=Qcm q n p/\J 0=PV.poly P/\J 9= .int .i64 (k:Nat)) n ?_ ?_
 ·refine⟨0,p,rfl,by omega,hp,rfl,?_⟩
  simp+decide (disch:=first|exact D0|fail) only[go_sem,↓reduceIte]
  rfl
 rintro _ J h ⟨k,P,rfl,hk,hP2,hgo,h0,h9⟩
 simp+decide (disch:=first|exact D1 h9|fail) only[go_sem,↓reduceIte,h9]
 refine Qb (fun hg=> ?_) (fun hg=> ?_)
 ·have hk':k<n:=by omega
  have bP:=hP2.PB (by omega)
  have lP:=hP2.l
  have hst:=Q0q (q:=q) (P:=P) hk'
  have m1:=Qvt lP hql
  have m2:min P.length q.length*(2^18+2^18)<=64*(2^18+2^18):=Nat.mul_le_mul_right _ (by omega)
  have hnx:=hP2.mul hq
  simp+decide (disch:=first|exact D2 h0 h9|fail) only[go_sem,↓reduceIte,h0,h9]
  refine Qa hP (Qkg bP bq (by omega) (by omega) (by omega) (by omega) (by omega) (by omega)) rfl rfl rfl ?_
  generalize Qu P q=P' at *
  simp+decide (disch:=first|exact D2 h0 h9|fail) only[go_sem,↓reduceIte,h0,h9]
  refine Qb (fun hc=> ?_) (fun hc=> ?_)
  ·simp+decide (disch:=first|exact D0|fail) only[go_sem,↓reduceIte]
   refine Qc5 (r:=PV.pe (Qlk q p n)) ?_ rfl rfl Qfz (Qz _)
   unfold Qlk
   rw[<-hgo,hst,if_pos (by omega)];rfl
  ·simp+decide (disch:=first|exact D2 h0 h9|fail) only[go_sem,↓reduceIte,h0,h9]
   rw[if_neg (by omega)]at hst
   refine Qi (n-(k+1)) (by omega) ⟨k+1,P',rfl,by omega,hnx (by omega),by rw[<-hgo,hst],?_⟩
   simp+decide (disch:=first|exact D0|fail) only[go_sem,↓reduceIte]
 ·obtain rfl:k=n:=by omega
  simp+decide (disch:=first|exact D1 h0|fail) only[go_sem,↓reduceIte,h0]
  refine Qc5 (r:=PV.pe (Qlk q p k)) ?_ rfl rfl (Qz _) (Qz _)
  unfold Qlk
  rw[<-hgo,Nat.sub_self];rfl
theorem Qnd{cs ls:List (List Tm)}(h1:∀c∈cs,Big c)(h2:∀c∈ls,Sml c)(hl:cs.length<=8)(hll:ls.length<2^40):Qd Tryz.prog 45 [PV.polys cs,PV.polys ls] (· =PV.pe (Qcg cs ls)):=by
 refine Qf Qk Tryz.func45 rfl Qams (by simp[c45]) fun C hP=> ?_;simp only[c45,Zo,Zg,Zm,Zc,Zf,Zl,Zh,Zs,Zi,Zb,Zk,Zn,Zu,Zq,Zr,Zz]
 simp+decide (disch:=first|exact D0|fail) only[go_sem,↓reduceIte]
 refine Qb (fun hne=> ?_) (fun hne=> ?_)
 ·simp+decide (disch:=first|exact D0|fail) only[go_sem,↓reduceIte]
  refine Qc5 (r:=PV.pe (Qcg cs ls)) ?_ rfl rfl Qfz (Qz _)
  unfold Qcg
  rw[if_neg (by omega)]
 have he:cs.length=ls.length:=by omega
 have hzl:(cs.zip ls).length=ls.length:=by rw[List.length_zip];omega
 have hcr:Qcg cs ls=Qgd (Qfm (cs.zip ls) []):=by unfold Qcg;rw[if_pos he]
 simp+decide (disch:=first|exact D0|fail) only[go_sem,↓reduceIte]
 refine Qks 6 4 T0 ?_
 refine Q6 (by repeat (first|exact Qx|exact Qp|exact Qq|exact Qr|exact Qt|apply Qo|apply Qw|apply Q4|apply Qac|apply Qad|apply Qm|apply Q5)) [(4,7),(15,32)] [] (fun r J hp=>∃i,r=ls.length-i/\i<=ls.length/\(Qcf (cs.zip ls) i).length<=4000/\Qfm ((cs.zip ls).drop i) (Qcf (cs.zip ls) i)=Qfm (cs.zip ls) []/\J 6=PV.poly (Qcf (cs.zip ls) i)/\J 15= .int .i64 (i:Nat)) ls.length ?_ ?_
 ·refine⟨0,rfl,by omega,by simp[Qcf],rfl,?_⟩
  simp+decide (disch:=first|exact D0|fail) only[go_sem,↓reduceIte]
  exact⟨rfl,rfl⟩
 rintro _ J h ⟨i,rfl,hi,hlen,hgo,h6,h15⟩
 simp+decide (disch:=first|exact D1 h15|fail) only[go_sem,↓reduceIte,h15]
 refine Qb (fun hg=> ?_) (fun hg=> ?_)
 ·have hi':i<ls.length:=by omega
  have hic:i<cs.length:=by omega
  have hst:=Qrx (l:=cs.zip ls) (i:=i) (by omega)
  have hs:=Qg1 (l:=cs.zip ls) (i:=i) (by omega)
  rw[Qajh he hic]at hs
  obtain⟨b1,n1⟩:=Q25 h1 h2 hl (i:=i) (by omega)
  have c1:=h1 _ (List.getElem_mem hic)
  have c2:=h2 _ (List.getElem_mem hi')
  have b2:=c1.PB
  have b3:=c2.PB.mono (K':=2^23) (E':=2^14) (by omega) (by omega)
  have l2:=c1.l
  have l3:=c2.l
  simp only at hs
  rw[<-hgo]
  have m1:=Qvt l2 l3
  have m2:min (cs[i]).length (ls[i]).length*(2^23+2^23)<=64*(2^23+2^23):=Nat.mul_le_mul_right _ (by omega)
  generalize hx:cs[i]=x at *
  generalize hy:ls[i]=y at *
  have bm:=Qn9 b2 b3
  have bmin:min x.length y.length*(2^23+2^23)<=2^31:=by omega
  have b4:=bm.1.mono (K':=2^31) (E':=2^15) bmin (by omega)
  have l4:=bm.2
  have hmm:=Qkg b2 b3 (by omega) (by omega) (by omega) (by omega) (by omega) (by omega)
  generalize Qu x y=z at *
  have b5:=b1.mono (K':=2^31) (E':=2^15) (by omega) (by omega)
  generalize hS:Qcf (cs.zip ls) i=s at *
  generalize hS':Qcf (cs.zip ls) (i+1)=s' at *
  simp+decide (disch:=first|exact D4 h6 h15 hx hy|fail) only[go_sem,↓reduceIte,h6,h15,hx,hy]
  refine Qa hP hmm rfl rfl rfl ?_
  simp+decide (disch:=first|exact D2 h6 h15|fail) only[go_sem,↓reduceIte,h6,h15]
  refine Qa hP (Qow b5 b4 (by omega) (by omega) (by omega) (by omega)) rfl rfl rfl ?_
  rw[<-hs]
  simp+decide (disch:=first|exact D2 h6 h15|fail) only[go_sem,↓reduceIte,h6,h15]
  refine Qb (fun hc=> ?_) (fun hc=> ?_)
  ·simp+decide (disch:=first|exact D0|fail) only[go_sem,↓reduceIte]
   refine Qc5 (r:=PV.pe (Qcg cs ls)) ?_ rfl rfl Qfz (Qz _)
   rw[hcr,<-hgo,hst,if_pos (by omega)];rfl
  ·simp+decide (disch:=first|exact D2 h6 h15|fail) only[go_sem,↓reduceIte,h6,h15]
   rw[if_neg (by omega)]at hst
   refine Qi (ls.length-(i+1)) (by omega) ⟨i+1,rfl,by omega,?_⟩
   rw[hS']
   refine⟨by omega,by rw[<-hst,hgo],?_⟩
   simp+decide (disch:=first|exact D0|fail) only[go_sem,↓reduceIte]
 ·obtain rfl:i=ls.length:=by omega
  simp+decide (disch:=first|exact D1 h6|fail) only[go_sem,↓reduceIte,h6]
  refine Qc5 (r:=PV.pe (Qcg cs ls)) ?_ rfl rfl (Qz _) (Qz _)
  rw[hcr,<-hgo,List.drop_of_length_le (by omega)];rfl
theorem Qae5:Qd Tryz.prog 78 [.int .i64 1] (· =PV.rat 1):=Qp0 (by omega) (by omega)
theorem Qne{fs:List (List Tm)}{ps:List Int}(h1:∀c∈fs,Sml c)(hl:fs.length<=8)(hpl:ps.length<2^40):Qd Tryz.prog 31 [PV.polys fs,PV.mono ps] (· =PV.pe (Qda fs ps)):=by
 have hone:=Qzn
 refine Qf Qk Tryz.func31 rfl Qamt (by simp[c31]) fun C hP=> ?_;simp only[c31,Zo,Zg,Zm,Zc,Zf,Zl,Zh,Zs,Zi,Zb,Zk,Zn,Zu,Zq,Zr,Zz]
 simp+decide (disch:=first|exact D0|fail) only[go_sem,↓reduceIte]
 refine Qb (fun hne=> ?_) (fun hne=> ?_)
 ·simp+decide (disch:=first|exact D0|fail) only[go_sem,↓reduceIte]
  refine Qc5 (r:=PV.pe (Qda fs ps)) ?_ rfl rfl Qfz (Qz _)
  unfold Qda
  rw[if_neg (by omega)]
 have he:fs.length=ps.length:=by omega
 simp+decide (disch:=first|exact D0|fail) only[go_sem,↓reduceIte]
 refine Q6 (by repeat (first|exact Qx|exact Qp|exact Qq|exact Qr|exact Qt|apply Qo|apply Qw|apply Q4|apply Qac|apply Qad|apply Qm|apply Q5)) [(4,5),(7,7),(19,29)] [] (fun r J hp=>∃i,r=ps.length-i/\i<=ps.length/\(∀j (hj:j<ps.length),j<i->0<=ps[j]/\ps[j]<=64)/\J 19= .int .i64 (i:Nat)) ps.length ?_ ?_
 ·refine⟨0,rfl,by omega,by omega,?_⟩
  simp+decide (disch:=first|exact D0|fail) only[go_sem,↓reduceIte]
  rfl
 rintro _ J h ⟨i,rfl,hi,hall,h19⟩
 simp+decide (disch:=first|exact D1 h19|fail) only[go_sem,↓reduceIte,h19]
 refine Qb (fun hg=> ?_) (fun hg=> ?_)
 ·have hi':i<ps.length:=by omega
  have hbad:=Q8p hi'
  have hadd:(0<=ps[i]/\ps[i]<=64)->∀j (hj:j<ps.length),j<i+1->0<=ps[j]/\ps[j]<=64:=fun h j hj hji=>by
   by_cases e:j=i
   ·subst e;exact h
   ·exact hall j hj (by omega)
  generalize hx:ps[i]=x at *
  simp+decide (disch:=first|exact D2 h19 hx|fail) only[go_sem,↓reduceIte,h19,hx]
  refine Qaa (fun h6=> ?_) (fun h6=> ?_)
  ·simp+decide (disch:=first|exact D2 h19 hx|fail) only[go_sem,↓reduceIte,h19,hx]
   refine Qc5 (r:=PV.pe (Qda fs ps)) ?_ rfl rfl Qfz (Qz _)
   rw[Qxc he (hbad (by omega))]
  simp+decide (disch:=first|exact D2 h19 hx|fail) only[go_sem,↓reduceIte,h19,hx]
  refine Qb (fun h7=> ?_) (fun h7=> ?_)
  ·simp+decide (disch:=first|exact D2 h19 hx|fail) only[go_sem,↓reduceIte,h19,hx]
   refine Qc5 (r:=PV.pe (Qda fs ps)) ?_ rfl rfl Qfz (Qz _)
   rw[Qxc he (hbad (by omega))]
  simp+decide (disch:=first|exact D1 h19|fail) only[go_sem,↓reduceIte,h19]
  refine Qi (ps.length-(i+1)) (by omega) ⟨i+1,rfl,by omega,hadd (by omega),?_⟩
  simp+decide (disch:=first|exact D0|fail) only[go_sem,↓reduceIte]
 obtain rfl:i=ps.length:=by omega
 have hok:=Q8q fun j hj=>hall j hj hj
 have hpr:=Q0r he hok
 simp+decide (disch:=first|exact D0|fail) only[go_sem,↓reduceIte]
 refine Qa hP Qae5 rfl rfl rfl ?_
 simp+decide (disch:=first|exact D0|fail) only[go_sem,↓reduceIte]
 refine Qa hP (Q8u (k:=4) (by omega) (by omega)) rfl rfl rfl ?_
 simp+decide (disch:=first|exact D0|fail) only[go_sem,↓reduceIte]
 refine Q6 (by repeat (first|exact Qx|exact Qp|exact Qq|exact Qr|exact Qt|apply Qo|apply Qw|apply Q4|apply Qac|apply Qad|apply Qm|apply Q5)) [(4,5),(8,11),(34,54)] [] (fun r J hp=>∃i m P,r=fs.length-i/\i<=fs.length/\m<=64*i/\Prd m P/\Qfn ((Qb6 fs ps).drop i) P=Qfn (Qb6 fs ps) (Qbj 1)/\J 8=PV.poly P/\J 34= .int .i64 (i:Nat)) fs.length ?_ ?_
 ·refine⟨0,0,_,rfl,by omega,by omega,Prd.one,rfl,?_⟩
  simp+decide (disch:=first|exact D0|fail) only[go_sem,↓reduceIte]
  rfl
 rintro _ J2 h2 ⟨i,m,P,rfl,hi,hm,hPr,hgo,h8,h34⟩
 simp+decide (disch:=first|exact D1 h34|fail) only[go_sem,↓reduceIte,h34]
 refine Qb (fun hg=> ?_) (fun hg=> ?_)
 ·have hi':i<fs.length:=by omega
  have hip:i<ps.length:=by omega
  have hpw:=Qxb hok hip
  have hst:=Q1y (l:=Qb6 fs ps) (i:=i) (p:=P) (by rw[Qiy he];exact hi')
  rw[Qo1 he hi']at hst
  have hsm:=h1 _ (List.getElem_mem hi')
  have hrk:=Qki hsm (ps[i]).toNat m P
  simp only at hst
  obtain⟨n,hn⟩:∃n:Nat,ps[i]=n:=⟨(ps[i]).toNat,by omega⟩
  rw[hn,Int.toNat_natCast]at hst hrk
  have hn64:n<=64:=by omega
  have hcall:=Qp9 hPr hsm hn64 (by omega)
  generalize hx:fs[i]=x at *
  simp+decide (disch:=first|exact D4 h34 h8 hx hn|fail) only[go_sem,↓reduceIte,h34,h8,hx,hn]
  refine Qa hP hcall rfl rfl rfl ?_
  unfold Qlk
  cases hr:Qcm x n P with
  |none=>
   rw[hr]at hst
   simp+decide (disch:=first|omega|rfl|(simp+decide only[go_sem,↓reduceIte,h34,Qgd]<;>rfl)|fail) only[go_sem,↓reduceIte,h34,Qgd]
   refine Qc5 (r:=PV.pe (Qda fs ps)) ?_ rfl rfl Qfz (Qz _)
   rw[hpr,<-hgo,hst];rfl
  |some P'=>
   rw[hr]at hst
   simp+decide (disch:=first|omega|rfl|(simp+decide only[go_sem,↓reduceIte,h34,Qgd]<;>rfl)|fail) only[go_sem,↓reduceIte,h34,Qgd]
   refine Qi (fs.length-(i+1)) (by omega) ⟨i+1,m+n,P',rfl,by omega,by omega,hrk P' hPr hr,by rw[<-hgo,hst];rfl,?_⟩
   simp+decide (disch:=first|exact D0|fail) only[go_sem,↓reduceIte]
 ·obtain rfl:i=fs.length:=by omega
  simp+decide (disch:=first|exact D1 h8|fail) only[go_sem,↓reduceIte,h8]
  refine Qc5 (r:=PV.pe (Qda fs ps)) ?_ rfl rfl (Qz _) (Qz _)
  rw[hpr,<-hgo,List.drop_of_length_le (by rw[Qiy he];omega)];rfl
end Go.Proofs.YtonfajmchebkeaaGreat
namespace Go.Proofs.YtonfajmchebkeaaGreat
open Go Go.FW
set_option linter.unusedSimpArgs false
set_option linter.unusedVariables false
set_option maxRecDepth 100000
theorem Qxy{n:Bool}{a d:List Nat}{k:Nat}(hr:Raw k n a d)(hk:k<=2^32):Qd Tryz.prog 107 [PV.rr n a d] (· =PV.poly (Qbj (rv n a d))):=by
 have hadd:=(Qrz (p:=[]) (m:=[]) (K:=1) (E:=1) (PB.nil _ _) trivial (by simp[NZ]) hr hk ⟨by simp,by simp,by simp⟩ (by simp) (by omega) (by omega) (by simp)).le (args':=[.nilS,PV.rr n a d,.nilS]) ⟨trivial,Qz _,trivial,trivial⟩
 have e:Qic [] (rv n a d) []=Qbj (rv n a d):=by rw[Qic,Qei];rfl
 rw[e]at hadd
 refine Qf Qk Tryz.func107 rfl Qahz (by simp[c107]) fun C hP=> ?_;simp only[c107,Zo,Zg,Zm,Zc,Zf,Zl,Zh,Zs,Zi,Zb,Zk,Zn,Zu,Zq,Zr,Zz]
 simp+decide (disch:=first|exact D0|fail) only[go_sem,↓reduceIte]
 refine Qa hP hadd rfl rfl rfl ?_
 simp+decide (disch:=first|exact D0|fail) only[go_sem,↓reduceIte]
 exact Qc rfl rfl
end Go.Proofs.YtonfajmchebkeaaGreat
namespace Go.Proofs.YtonfajmchebkeaaGreat
open Go Go.FW
set_option linter.unusedSimpArgs false
set_option linter.unusedVariables false
set_option maxRecDepth 100000
theorem Q5c{a:Rat}{k:Nat}(h:rs a<=k)(hk:k<=2^32):Qd Tryz.prog 107 [PV.rat a] (· =PV.poly (Qbj a)):=by
 have:=Qxy (Qcq h) hk
 rwa[Qdi]at this
end Go.Proofs.YtonfajmchebkeaaGreat
namespace Go.Proofs.YtonfajmchebkeaaGreat
open Go Go.FW
set_option linter.unusedSimpArgs false
set_option linter.unusedVariables false
set_option maxRecDepth 100000
theorem Qam8:Qd Tryz.prog 37 [.int .i64 1] (· =PV.rat 1):=Qt9 (by omega) (by omega)
theorem Q5d{m:Nat}{P q:List Tm}(hPr:Prd m P)(hq:Sml q)(hm:m<=1024):Qd Tryz.prog 41 [PV.poly P,PV.poly q] (· =PV.poly (Qu P q)):=by
 have hql:=hq.l
 have bq:=hq.PB.mono (K':=2^18) (E':=2^17) (by omega) (by omega)
 have bP:=hPr.PB hm
 have lP:=hPr.l
 have m1:=Qvt hql lP
 have:=Q1w bP bq hPr.n.z hq.n.z (by omega) (by omega) (by omega) (by omega) (by omega)
 rwa[Qacq hPr.n hq.n]at this
end Go.Proofs.YtonfajmchebkeaaGreat
namespace Go.Proofs.YtonfajmchebkeaaGreat
open Go Go.FW
set_option linter.unusedSimpArgs false
set_option linter.unusedVariables false
set_option maxRecDepth 100000
theorem Qaeg{fs:List (List Tm)}{ps:List Int}{n:Int}{cs hs:List (List Tm)}{g P:List Tm}{e:Int}(h:Qda fs ps=(P,e)):Qfo fs ps n cs hs g=if e=0 then
  if fs.any List.isEmpty then 3
  else if n<1∨64<n then 2
  else if cs.length=hs.length then
   match Qcm g n.toNat P with
   |none=>4
   |some l=>if(Qcg cs hs).2=0 then(if l=(Qcg cs hs).1 then 0 else 17)else(Qcg cs hs).2
  else 16
 else e:=by unfold Qfo;rw[h];rfl
theorem Qaji{fs:List (List Tm)}{i:Nat}(h:i<fs.length)(h0:fs[i].length=0):fs.any List.isEmpty=true:=by
 rw[List.any_eq_true]
 exact⟨_,List.getElem_mem h,by rw[List.length_eq_zero_iff.1 h0];rfl⟩
theorem Qam9{fs:List (List Tm)}(h:∀j (hj:j<fs.length),fs[j].length≠0):fs.any List.isEmpty=false:=by
 rw[List.any_eq_false]
 intro x hx
 obtain⟨j,hj,rfl⟩:=List.getElem_of_mem hx
 intro e
 exact h j hj (by rw[List.isEmpty_iff.1 e];rfl)
theorem Qih{fs:List (List Tm)}{ps:List Int}{n:Int}{cs hs:List (List Tm)}{g:List Tm}(hf:∀c∈fs,Sml c)(hfl:fs.length<=8)(hpl:ps.length<2^40)(hc:∀c∈cs,Big c)(hcl:cs.length<=8)(hh:∀c∈hs,Sml c)(hhl:hs.length<2^40)(hg:Sml g):
  Qd Tryz.prog 35 [PV.cert fs ps n cs,PV.polys hs,PV.poly g] (· = .int .i64 (Qfo fs ps n cs hs g)):=by
 have c1:=Qne hf hfl hpl
 have c2:=Qnd hc hh hcl hhl
 obtain⟨b1,_,l1⟩:=Qaef hc hh hcl
 obtain⟨⟨P,e⟩,hR⟩:∃r,r=Qda fs ps:=⟨_,rfl⟩
 have hck:=Qaeg (n:=n) (cs:=cs) (hs:=hs) (g:=g) hR.symm
 have hPr:=Q8s (ps:=ps) hf hfl
 rw[<-hR]at hPr
 rw[<-hR]at c1
 obtain⟨⟨s,e2⟩,hC⟩:∃r,r=Qcg cs hs:=⟨_,rfl⟩
 rw[<-hC]at c2 hck b1 l1
 simp only at c1 c2 hck hPr b1 l1
 refine Qf Qk Tryz.func35 rfl Qamu (by simp[c35]) fun C hP=> ?_;simp only[c35,Zo,Zg,Zm,Zc,Zf,Zl,Zh,Zs,Zi,Zb,Zk,Zn,Zu,Zq,Zr,Zz]
 simp+decide (disch:=first|exact D0|fail) only[go_sem,↓reduceIte]
 refine Qa hP c1 rfl rfl rfl ?_
 simp+decide (disch:=first|exact D0|fail) only[go_sem,↓reduceIte]
 refine Qb (fun h1=> ?_) (fun h1=> ?_)
 ·simp+decide (disch:=first|exact D0|fail) only[go_sem,↓reduceIte]
  exact Qc (congrArg (PV.int .i64) (by rw[hck,if_neg (by omega)])) rfl
 obtain rfl:e=0:=by omega
 obtain⟨m,hm,hPm⟩:=hPr rfl
 rw[if_pos rfl]at hck
 simp+decide (disch:=first|exact D0|fail) only[go_sem,↓reduceIte]
 refine Q6 (by repeat (first|exact Qx|exact Qp|exact Qq|exact Qr|exact Qt|apply Qo|apply Qw|apply Q4|apply Qac|apply Qad|apply Qm|apply Q5)) [(6,6),(10,10),(26,33)] [] (fun r J hp=>∃i,r=fs.length-i/\i<=fs.length/\(∀j (hj:j<fs.length),j<i->fs[j].length≠0)/\J 26= .int .i64 (i:Nat)/\hp 3=some ⟨4,79,[PV.cert fs ps n cs],false⟩) fs.length ?_ ?_
 ·refine⟨0,rfl,by omega,by omega,?_⟩
  simp+decide (disch:=first|exact D0|fail) only[go_sem,↓reduceIte]
  rfl
 rintro _ J h ⟨i,rfl,hi,hall,h26,hb⟩
 simp+decide (disch:=first|exact D1 h26|fail) only[go_sem,↓reduceIte,h26]
 refine Qb (fun hg2=> ?_) (fun hg2=> ?_)
 ·have hi':i<fs.length:=by omega
  have hany:=Qaji hi'
  have hadd:fs[i].length≠0->∀j (hj:j<fs.length),j<i+1->fs[j].length≠0:=fun h j hj hji=>by
   by_cases e:j=i
   ·subst e;exact h
   ·exact hall j hj (by omega)
  generalize hx:fs[i]=x at *
  simp+decide (disch:=first|exact D2 h26 hx|fail) only[go_sem,↓reduceIte,h26,hx]
  refine Qb (fun h0=> ?_) (fun h0=> ?_)
  ·simp+decide (disch:=first|exact D0|fail) only[go_sem,↓reduceIte]
   exact Qc (congrArg (PV.int .i64) (by rw[hck,hany (by omega)];rfl)) rfl
  simp+decide (disch:=first|exact D1 h26|fail) only[go_sem,↓reduceIte,h26]
  refine Qi (fs.length-(i+1)) (by omega) ⟨i+1,rfl,by omega,hadd (by omega),?_⟩
  simp+decide (disch:=first|exact D1 hb|fail) only[go_sem,↓reduceIte,hb]
 obtain rfl:i=fs.length:=by omega
 rw[Qam9 fun j hj=>hall j hj hj]at hck
 simp only[Bool.false_eq_true,if_false]at hck
 simp+decide (disch:=first|exact D1 hb|fail) only[go_sem,↓reduceIte,hb]
 refine Qaa (fun h2=> ?_) (fun h2=> ?_)
 ·simp+decide (disch:=first|exact D1 hb|fail) only[go_sem,↓reduceIte,hb]
  exact Qc (congrArg (PV.int .i64) (by rw[hck,if_pos (by omega)])) rfl
 simp+decide (disch:=first|exact D1 hb|fail) only[go_sem,↓reduceIte,hb]
 refine Qb (fun h3=> ?_) (fun h3=> ?_)
 ·simp+decide (disch:=first|exact D1 hb|fail) only[go_sem,↓reduceIte,hb]
  exact Qc (congrArg (PV.int .i64) (by rw[hck,if_pos (by omega)])) rfl
 rw[if_neg (by omega)]at hck
 obtain⟨k,rfl⟩:∃k:Nat,n=k:=⟨n.toNat,by omega⟩
 rw[Int.toNat_natCast]at hck
 simp+decide (disch:=first|exact D1 hb|fail) only[go_sem,↓reduceIte,hb]
 refine Qb (fun h4=> ?_) (fun h4=> ?_)
 ·simp+decide (disch:=first|exact D1 hb|fail) only[go_sem,↓reduceIte,hb]
  exact Qc (congrArg (PV.int .i64) (by rw[hck,if_neg (by omega)])) rfl
 rw[if_pos (by omega)]at hck
 have c3:=Qp9 hPm hg (n:=k) (by omega) hm
 have hrk:=Qki hg k m P
 simp+decide (disch:=first|exact D1 hb|fail) only[go_sem,↓reduceIte,hb]
 refine Qa hP c3 rfl rfl rfl ?_
 unfold Qlk
 cases hr:Qcm g k P with
 |none=>
  rw[hr]at hck
  simp+decide (disch:=first|omega|rfl|(simp+decide only[go_sem,↓reduceIte,hb,Qgd]<;>rfl)|fail) only[go_sem,↓reduceIte,hb,Qgd]
  exact Qc (congrArg (PV.int .i64) hck.symm) rfl
 | some L=>
  have hL:=hrk L hPm hr
  rw[hr]at hck
  simp only at hck
  have bL:=(hL.PB (by omega)).mono (K':=268435456) (E':=131072) (by omega) (by omega)
  have lL:=hL.l
  have b2:=b1.mono (K':=268435456) (E':=131072) (by omega) (by omega)
  simp+decide (disch:=first|omega|rfl|(simp+decide only[go_sem,↓reduceIte,hb,Qgd]<;>rfl)|fail) only[go_sem,↓reduceIte,hb,Qgd]
  refine Qa hP c2 rfl rfl rfl ?_
  simp+decide (disch:=first|exact D1 hb|fail) only[go_sem,↓reduceIte,hb]
  refine Qb (fun h5=> ?_) (fun h5=> ?_)
  ·simp+decide (disch:=first|exact D1 hb|fail) only[go_sem,↓reduceIte,hb]
   exact Qc (congrArg (PV.int .i64) (by rw[hck,if_neg (by omega)])) rfl
  rw[if_pos (by omega)]at hck
  simp+decide (disch:=first|exact D1 hb|fail) only[go_sem,↓reduceIte,hb]
  refine Qa hP (Q0e bL b2 (by omega) (by omega) (by omega) (by omega)) rfl rfl rfl ?_
  by_cases hq:L=s
  ·rw[if_pos hq]at hck
   simp+decide (disch:=first|exact D1 hq|fail) only[go_sem,↓reduceIte,hq]
   exact Qc (congrArg (PV.int .i64) hck.symm) rfl
  ·rw[if_neg hq]at hck
   simp+decide (disch:=first|exact D1 hq|fail) only[go_sem,↓reduceIte,hq]
   exact Qc (congrArg (PV.int .i64) hck.symm) rfl
end Go.Proofs.YtonfajmchebkeaaGreat
namespace Go.Proofs.YtonfajmchebkeaaGreat
open Go Go.FW
set_option linter.unusedSimpArgs false
set_option linter.unusedVariables false
set_option maxRecDepth 100000
def PolL(l:List (List Tm)):Prop:=(∀p∈l,PB 1073741824 1048576 p/\p.length<=8589934592)/\l.length<2^40
theorem Q0s{α:Type}{a b:List α}(h:a.length=b.length)(h2:∀j (h1:j<a.length) (h2:j<b.length),a[j]=b[j]):a=b:=List.ext_getElem h h2
theorem Qajj{α:Type}{a b:List α}{j:Nat}(h1:j<a.length)(h2:j<b.length)(h:a[j]≠b[j]):a≠b:=fun e=>h (by subst e;rfl)
theorem Q26{α:Type}{a b:List α}(h:¬a.length=b.length):a≠b:=fun e=>h (by rw[e])
theorem Q5e{a b:List (List Tm)}(ha:PolL a)(hb:PolL b):Qd Tryz.prog 76 [PV.polys a,PV.polys b] (· = .bool (decide (a=b))):=by
 have la:=ha.2
 have lb:=hb.2
 refine Qf Qk Tryz.func76 rfl Qamy (by simp[c76]) fun C hP=> ?_;simp only[c76,Zo,Zg,Zm,Zc,Zf,Zl,Zh,Zs,Zi,Zb,Zk,Zn,Zu,Zq,Zr,Zz]
 simp+decide (disch:=first|exact D0|fail) only[go_sem,↓reduceIte]
 refine Q6 (by repeat (first|exact Qx|exact Qp|exact Qq|exact Qr|exact Qt|apply Qo|apply Qw|apply Q4|apply Qac|apply Qad|apply Qm|apply Q5)) [(4,27)] [] (fun m J hp=>∃i,m=a.length-i/\i<=a.length/\i<=b.length/\(∀j (h1:j<a.length) (h2:j<b.length),j<i->a[j]=b[j])/\J 5= .int .i64 (i:Nat)) a.length ?_ ?_
 ·refine⟨0,rfl,by omega,by omega,by omega,?_⟩
  simp+decide (disch:=first|exact D0|fail) only[go_sem,↓reduceIte]
  rfl
 rintro _ J h ⟨i,rfl,hi,hib0,h1,h5⟩
 simp+decide (disch:=first|exact D1 h5|fail) only[go_sem,↓reduceIte,h5]
 refine Qan (fun hg=> ?_) (fun hg=> ?_)
 ·have hi':i<a.length:=by omega
  simp+decide (disch:=first|exact D1 h5|fail) only[go_sem,↓reduceIte,h5]
  refine Qb (fun hg2=> ?_) (fun hg2=> ?_)
  ·have hib1:i<b.length:=by omega
   have hib:i<b.length:=by omega
   obtain⟨g1,g2⟩:=ha.1 _ (List.getElem_mem hi')
   obtain⟨g3,g4⟩:=hb.1 _ (List.getElem_mem hib)
   have hne:=Qajj hi' hib
   have hadd:a[i]=b[i]->∀j (h1:j<a.length) (h2:j<b.length),j<i+1->a[j]=b[j]:=fun h j hj hj2 hji=>by
    by_cases e:j=i
    ·subst e;exact h
    ·exact h1 j hj hj2 (by omega)
   generalize hx:a[i]=x at *
   generalize hy:b[i]=y at *
   simp+decide (disch:=first|exact D3 h5 hx hy|fail) only[go_sem,↓reduceIte,h5,hx,hy]
   refine Qa hP (Qj3 g1 g3 (by omega) (by omega) (by omega) (by omega)) rfl rfl rfl ?_
   by_cases e:x=y
   ·simp+decide (disch:=first|exact D2 h5 e|fail) only[go_sem,↓reduceIte,h5,e]
    refine Qi (a.length-(i+1)) (by omega) ⟨i+1,rfl,by omega,by omega,hadd e,?_⟩
    simp+decide (disch:=first|exact D0|fail) only[go_sem,↓reduceIte]
   ·simp+decide (disch:=first|exact D2 h5 e|fail) only[go_sem,↓reduceIte,h5,e]
    exact Qc (by rw[decide_eq_false (hne e)]) rfl
  ·
   simp+decide (disch:=first|exact D1 h5|fail) only[go_sem,↓reduceIte,h5]
   refine Qc ?_ rfl
   by_cases e:a.length=b.length
   ·rw[decide_eq_true (Q0s e fun j g1 g2=>h1 j g1 g2 (by omega)),decide_eq_true (by omega)]
   ·rw[decide_eq_false (Q26 e),decide_eq_false (by omega)]
 ·
  simp+decide (disch:=first|exact D1 h5|fail) only[go_sem,↓reduceIte,h5]
  refine Qc ?_ rfl
  by_cases e:a.length=b.length
  ·rw[decide_eq_true (Q0s e fun j g1 g2=>h1 j g1 g2 (by omega)),decide_eq_true (by omega)]
  ·rw[decide_eq_false (Q26 e),decide_eq_false (by omega)]
end Go.Proofs.YtonfajmchebkeaaGreat
namespace Go.Proofs.YtonfajmchebkeaaGreat
open Go Go.FW
set_option linter.unusedSimpArgs false
set_option linter.unusedVariables false
set_option maxRecDepth 100000
end Go.Proofs.YtonfajmchebkeaaGreat
namespace Go.Proofs.YtonfajmchebkeaaGreat
open Go Go.FW
set_option linter.unusedSimpArgs false
set_option linter.unusedVariables false
set_option maxRecDepth 100000
theorem Qaei(v:Nat)(n:Int)(h:n=((n.toNat:Nat):Int)):(List.replicate (v+1) (0:Int)).set v n=Qid v n.toNat:=by
 unfold Qid
 rw[<-h]
 induction v with
 |zero=>rfl
 |succ v ih=>rw[List.replicate_succ,List.set_cons_succ,ih];rfl
end Go.Proofs.YtonfajmchebkeaaGreat
namespace Go.Proofs.YtonfajmchebkeaaGreat
open Go Go.FW
set_option linter.unusedSimpArgs false
set_option linter.unusedVariables false
set_option maxRecDepth 100000
end Go.Proofs.YtonfajmchebkeaaGreat
namespace Go.Proofs.YtonfajmchebkeaaGreat
open Go Go.FW
set_option linter.unusedSimpArgs false
set_option linter.unusedVariables false
set_option maxRecDepth 100000
end Go.Proofs.YtonfajmchebkeaaGreat
namespace Go.Proofs.YtonfajmchebkeaaGreat
open Go Go.FW
set_option linter.unusedSimpArgs false
set_option linter.unusedVariables false
set_option maxRecDepth 100000
end Go.Proofs.YtonfajmchebkeaaGreat
namespace Go.Proofs.YtonfajmchebkeaaGreat
open Go Go.FW
set_option linter.unusedSimpArgs false
set_option linter.unusedVariables false
set_option maxRecDepth 100000
theorem Qvu{k:Nat}{a b:List Int}(ha:MB k a)(hb:MB k b):Qd Tryz.prog 218 [PV.mono a,PV.mono b] (· = .bool (Qgc a b)):=by
 have h1:=ha.len
 have h2:=hb.len
 refine Qf Qk Tryz.func218 rfl Qaix (by simp[c218]) fun C hP=> ?_;simp only[c218,Zo,Zg,Zm,Zc,Zf,Zl,Zh,Zs,Zi,Zb,Zk,Zn,Zu,Zq,Zr,Zz]
 simp+decide (disch:=first|exact D0|fail) only[go_sem,↓reduceIte]
 refine Q6 (by repeat (first|exact Qx|exact Qp|exact Qq|exact Qr|exact Qt|apply Qo|apply Qw|apply Q4|apply Qac|apply Qad|apply Qm|apply Q5)) [(4,6),(9,19)] [] (fun n J hp=>∃i,n=a.length-i/\i<=a.length/\(∀j,j<i->eN a j<=eN b j)/\J 9= .int .i64 (i:Nat)) a.length ?_ ?_
 ·refine⟨0,rfl,by omega,by omega,?_⟩
  simp+decide (disch:=first|exact D0|fail) only[go_sem,↓reduceIte]
  rfl
 rintro _ J h ⟨i,rfl,hi,hj,h9⟩
 simp+decide (disch:=first|exact D1 h9|fail) only[go_sem,↓reduceIte,h9]
 refine Qb (fun hg=> ?_) (fun hg=> ?_)
 ·have hi':i<a.length:=by omega
  have he:=Qc0 hi'
  have hf:=Q48 (b:=b) hi'
  generalize hx:a[i]=x at *
  simp+decide (disch:=first|exact D2 h9 hx|fail) only[go_sem,↓reduceIte,h9,hx]
  refine Qa hP (Qju (by omega)) rfl rfl rfl ?_
  simp+decide (disch:=first|exact D2 h9 hx|fail) only[go_sem,↓reduceIte,h9,hx]
  refine Qb (fun hc=> ?_) (fun hc=> ?_)
  ·simp+decide (disch:=first|exact D0|fail) only[go_sem,↓reduceIte]
   exact Qc (congrArg PV.bool (hf (by omega)).symm) rfl
  ·simp+decide (disch:=first|exact D1 h9|fail) only[go_sem,↓reduceIte,h9]
   refine Qi (a.length-(i+1)) (by omega) ⟨i+1,rfl,by omega,fun j hji=> ?_,?_⟩
   ·by_cases e:j=i
    ·subst e;omega
    ·exact hj j (by omega)
   ·simp+decide (disch:=first|exact D0|fail) only[go_sem,↓reduceIte]
 ·obtain rfl:i=a.length:=by omega
  simp+decide (disch:=first|exact D0|fail) only[go_sem,↓reduceIte]
  exact Qc (congrArg PV.bool (Q8m hj).symm) rfl
theorem Q1z{x y:Int}(h1: -9223372036854775808<=x-y)(h2:x-y<=9223372036854775807):Qd Tryz.prog 221 [.int .i64 x,.int .i64 y] (· = .int .i64 (x-y)):=by
 refine Qf Qk Tryz.func221 rfl Qaiz (by simp[c221]) fun C hP=> ?_;simp only[c221,Zo,Zg,Zm,Zc,Zf,Zl,Zh,Zs,Zi,Zb,Zk,Zn,Zu,Zq,Zr,Zz]
 simp+decide (disch:=first|exact D0|fail) only[go_sem,↓reduceIte]
 exact Qc rfl rfl
theorem Q5f{k:Nat}{a b:List Int}(ha:MB k a)(hb:MB k b)(hk:k<=1099511627776):Qd Tryz.prog 167 [PV.mono a,PV.mono b] (· =if Qgc b a=true then .tup [PV.mono (Qb5 a b),.bool true]else .tup [PV.mono [],.bool false]):=by
 have h1:=ha.len
 have h2:=hb.len
 have hz:=Qbu (· - ·) a b
 refine Qf Qk Tryz.func167 rfl Qaiy (by simp[c167]) fun C hP=> ?_;simp only[c167,Zo,Zg,Zm,Zc,Zf,Zl,Zh,Zs,Zi,Zb,Zk,Zn,Zu,Zq,Zr,Zz]
 simp+decide (disch:=first|exact D0|fail) only[go_sem,↓reduceIte]
 refine Qa hP (Qvu hb ha) rfl rfl rfl ?_
 cases hd:Qgc b a
 ·simp+decide (disch:=first|exact D0|fail) only[go_sem,↓reduceIte]
  exact Qc5 rfl rfl rfl Qaa1 (Qz _)
 ·simp+decide (disch:=first|exact D0|fail) only[go_sem,↓reduceIte]
  refine Qa hP (Qm7 (f:=221) (g:=(· - ·)) (by omega) (by omega) (fun i=>Q1z (by have:=ha.eN i;have:=hb.eN i;omega) (by have:=ha.eN i;have:=hb.eN i;omega))) rfl rfl rfl ?_
  simp+decide (disch:=first|exact D0|fail) only[go_sem,↓reduceIte]
  refine Qa hP (Qrs (by omega)) rfl rfl rfl ?_
  simp+decide (disch:=first|exact D0|fail) only[go_sem,↓reduceIte]
  exact Qc5 rfl rfl rfl (Qz _) (Qz _)
theorem Q8v{x y:Int}(hx:nl x.natAbs<2^38)(hy:nl y.natAbs<2^38)(h0:y≠0):Qd Tryz.prog 217 [PV.zz x,PV.zz y] (· = .tup [PV.rat ((x:Rat)/(y:Rat)),.int .i64 0]):=by
 have hv:=Que x y h0
 have hr:=Qpw (n:=decide (x<0) !=decide (y<0)) (a:=dig x.natAbs) (d:=dig y.natAbs) (Qj _) (Qj _) hx hy
 rw[rv,Q2,hv]at hr
 have hs:=Qi9 (n:=decide (y<0)) (a:=dig y.natAbs) (Qj _) (by show nl _<_;omega)
 rw[Qfy]at hs
 generalize(x:Rat)/(y:Rat)=Q at *
 refine Qf Qk Tryz.func217 rfl Qag6 (by simp[c217]) fun C hP=> ?_;simp only[c217,Zo,Zg,Zm,Zc,Zf,Zl,Zh,Zs,Zi,Zb,Zk,Zn,Zu,Zq,Zr,Zz]
 simp+decide (disch:=first|exact D0|fail) only[go_sem,↓reduceIte]
 refine Qa hP hs rfl rfl rfl ?_
 simp+decide (disch:=first|exact D0|fail) only[go_sem,↓reduceIte]
 refine Qb (fun h=>absurd (Qzf.1 h) h0) (fun _=> ?_)
 simp+decide (disch:=first|exact D0|fail) only[go_sem,↓reduceIte]
 refine Qa hP hr rfl rfl rfl ?_
 simp+decide (disch:=first|exact D0|fail) only[go_sem,↓reduceIte]
 refine Qh7 ?_
 simp+decide (disch:=first|exact D0|fail) only[go_sem,↓reduceIte]
 exact Qc5 rfl rfl rfl (Qz _) (Qz _)
theorem Q8w{n m:Bool}{a d b c:List Nat}{k:Nat}(hp:Raw k n a d)(hq:Raw k m b c)(hk:k<2^34)(h0:rv m b c≠0):Qd Tryz.prog 165 [PV.rr n a d,PV.rr m b c] (· = .tup [PV.rat (rv n a d/rv m b c),.int .i64 0]):=by
 refine Qf Qk Tryz.func165 rfl Qag7 (by simp[c165]) fun C hP=> ?_;simp only[c165,Zo,Zg,Zm,Zc,Zf,Zl,Zh,Zs,Zi,Zb,Zk,Zn,Zu,Zq,Zr,Zz]
 simp+decide (disch:=first|exact D0|fail) only[go_sem,↓reduceIte]
 refine Qcs hP (Qd8 hp.la hp.ld hp.k1 hp.sa hp.sd (by omega)) rfl rfl rfl ?_
 rintro _ ⟨n',a',d',rfl,g1,g2,g3,g4,g5,g6⟩
 simp+decide (disch:=first|exact D0|fail) only[go_sem,↓reduceIte]
 refine Qcs hP (Qd8 hq.la hq.ld hq.k1 hq.sa hq.sd (by omega)) rfl rfl rfl ?_
 rintro _ ⟨m',b',c',rfl,e1,e2,e3,e4,e5,e6⟩
 simp+decide (disch:=first|exact D0|fail) only[go_sem,↓reduceIte]
 have hza:nl (zv n' a').natAbs<=k:=by rw[Qbg];exact Nat.le_trans (Qar g1) g3
 have hzb:nl (zv m' b').natAbs<=k:=by rw[Qbg];exact Nat.le_trans (Qar e1) e3
 have hvd:nl (val d')<=k:=Nat.le_trans (Qar g2) g4
 have hvc:nl (val c')<=k:=Nat.le_trans (Qar e2) e4
 have h3:=Qa2 (zv n' a') (val c')
 have h6:=Qa2 (zv m' b') (val d')
 rw[Int.natAbs_natCast]at h3 h6
 have hzb0:zv m' b'≠0:=fun h=>h0 (by rw[<-e6,rv,h,Rat.zero_mkRat])
 have hne:zv m' b'*(val d':Int)≠0:=Int.mul_ne_zero hzb0 (by omega)
 have hfin:=Qam3 (n:=n') (a:=a') (m:=m') (b:=b') g5 e5 hzb0
 rw[g6,e6]at hfin
 have hm1:=Qd7 (n:=n') (m:=false) g1 e2 (by omega) (by omega)
 have hm2:=Qd7 (n:=m') (m:=false) e1 g2 (by omega) (by omega)
 rw[Qgo]at hm1 hm2
 refine Qa hP (Qe1 c') rfl rfl rfl ?_
 simp+decide (disch:=first|exact D0|fail) only[go_sem,↓reduceIte]
 refine Qa hP hm1 rfl rfl rfl ?_
 simp+decide (disch:=first|exact D0|fail) only[go_sem,↓reduceIte]
 refine Qa hP (Qe1 d') rfl rfl rfl ?_
 simp+decide (disch:=first|exact D0|fail) only[go_sem,↓reduceIte]
 refine Qa hP hm2 rfl rfl rfl ?_
 generalize zv n' a'*(val c':Int)=X at *
 generalize zv m' b'*(val d':Int)=Y at *
 simp+decide (disch:=first|exact D0|fail) only[go_sem,↓reduceIte]
 refine Qa hP (Q8v (x:=X) (y:=Y) (by omega) (by omega) hne) rfl rfl rfl ?_
 rw[hfin]
 generalize rv n a d/rv m b c=Q at *
 simp+decide (disch:=first|exact D0|fail) only[go_sem,↓reduceIte]
 refine Qh7 ?_
 simp+decide (disch:=first|exact D0|fail) only[go_sem,↓reduceIte]
 exact Qc5 rfl rfl rfl (Qz _) (Qz _)
theorem Qae6{a b:Rat}{k:Nat}(ha:rs a<=k)(hb:rs b<=k)(hk:k<2^34)(h0:b≠0):Qd Tryz.prog 165 [PV.rat a,PV.rat b] (· = .tup [PV.rat (a/b),.int .i64 0]):=by
 have:=Q8w (Qcq ha) (Qcq hb) hk (by rw[Qdi];exact h0)
 rwa[Qdi,Qdi]at this
end Go.Proofs.YtonfajmchebkeaaGreat
namespace Go.Proofs.YtonfajmchebkeaaGreat
open Go Go.FW
set_option linter.unusedSimpArgs false
set_option linter.unusedVariables false
set_option maxRecDepth 100000
end Go.Proofs.YtonfajmchebkeaaGreat
namespace Go.Proofs.YtonfajmchebkeaaGreat
open Go Go.FW
set_option linter.unusedSimpArgs false
set_option linter.unusedVariables false
set_option maxRecDepth 100000
theorem Qps(a b:List Int):Qa9 0 a b=Qah a b:=by unfold Qa9;rw[if_neg (by simp)]
theorem Qxz{p q:List Tm}{K E L k0:Nat}(np:Nrm p)(nq:Nrm q)(bq:PB K E q)(hq:q≠[])(hlq:q.length<=2^20)(hb:∀k,k<=k0->PB K E (exP q p k)/\(exP q p k).length<=L)(hgo:∀k,k<k0->Qfd q (exP q p k))(hst:¬Qfd q (exP q p k0))
  (hK:K<=2^25) (hK2:2<=K) (hE:E<=2^36) (hL:L<=2^34) (hk0:k0<=2^34):Qd Tryz.prog 89 [PV.poly p,PV.poly q] (· =exR q p k0):=by
 have hql:0<q.length:=List.length_pos_iff.2 hq
 have hqh:=Qm8 hql
 have hqm:=bq _ (Qau hq)
 have hq0:=nq.z _ (Qau hq)
 have hcq:=hqm.c
 have hrr:PV.le (.agg [.bool false,.nilS,.nilS]) (.agg [.bool false,.nilS,.nilS]):=Qz _
 refine Qf Qk Tryz.func89 rfl Qaml (by simp[c89]) fun C hP=> ?_;simp only[c89,Zo,Zg,Zm,Zc,Zf,Zl,Zh,Zs,Zi,Zb,Zk,Zn,Zu,Zq,Zr,Zz]
 simp+decide (disch:=first|exact D0|fail) only[go_sem,↓reduceIte]
 refine Qb (fun h=>absurd h (by omega)) (fun _=> ?_)
 simp+decide (disch:=first|exact D0|fail) only[go_sem,↓reduceIte]
 refine Qiq 6 900 4 127 (by omega) T0 ?_
 refine Q6 (by repeat (first|exact Qx|exact Qp|exact Qq|exact Qr|exact Qt|apply Qo|apply Qw|apply Q4|apply Qac|apply Qad|apply Qm|apply Q5)) [(0,0),(4,12),(16,76)] [9,52,55,900] (fun n J hp=>∃k,n=k0-k/\k<=k0/\J 0=PV.poly (exP q p k)/\J 6= .ms 900 k/\hp 900=some ⟨4,127,(exQ q p k).map PV.term,false⟩) k0 ?_ ?_
 ·refine⟨0,rfl,by omega,?_⟩
  simp+decide (disch:=first|exact D0|fail) only[go_sem,↓reduceIte]
  exact⟨rfl,rfl⟩
 rintro _ J h ⟨k,rfl,hk,hj0,h6,hh⟩
 obtain⟨bP,lP⟩:=hb k hk
 have hQl:=Qqz q p k
 simp+decide (disch:=first|exact D1 hj0|fail) only[go_sem,↓reduceIte,hj0]
 refine Qb (fun hg=> ?_) (fun hg=> ?_)
 ·have hPl:0<(exP q p k).length:=by omega
  have hP0:exP q p k≠[]:=List.length_pos_iff.1 hPl
  have hPh:=Qm8 hPl
  have hPm:=bP _ (Qau hP0)
  have hcp:=hPm.c
  have hQuo:=Q5f hPm.m hqm.m (by omega)
  have hDiv:=Qae6 (a:=(hdT (exP q p k)).1) (b:=(hdT q).1) (k:=K) (by omega) (by omega) (by omega) hq0
  simp+decide (disch:=first|exact D3 hj0 hPh hqh|fail) only[go_sem,↓reduceIte,hj0,hPh,hqh]
  refine Qa hP hQuo rfl rfl rfl ?_
  cases hd:Qgc (hdT q).2 (hdT (exP q p k)).2
  ·have hk0':k=k0:=by
    apply Decidable.byContradiction;intro hne
    have:=(hgo k (by omega)).2
    rw[hd]at this;cases this
   subst hk0'
   have hres:exR q p k= .tup [PV.poly [],.bool false]:=by rw[exR,if_neg hP0]
   generalize(hdT (exP q p k)).1/(hdT q).1=a at *
   simp+decide (disch:=first|exact D3 hj0 hPh hqh|fail) only[go_sem,↓reduceIte,hj0,hPh,hqh]
   refine Qfx ?_ ?_
   all_goals
    simp+decide (disch:=first|exact D3 hj0 hPh hqh|fail) only[go_sem,↓reduceIte,hj0,hPh,hqh]
    refine Qa hP hDiv rfl rfl rfl ?_
    simp+decide (disch:=first|exact D3 hj0 hPh hqh|fail) only[go_sem,↓reduceIte,hj0,hPh,hqh]
    exact Qc5 hres rfl rfl Qfz (Qz _)
  ·have hkl:k<k0:=by
    apply Decidable.byContradiction;intro hne
    obtain rfl:k=k0:=by omega
    exact hst ⟨hP0,hd⟩
   obtain⟨bN,lN⟩:=hb (k+1) hkl
   have hgk:=hgo k hkl
   have hlt:=Q0i bP bq (Qna np nq k) nq hq hgk
   have htT:=Qam5 bP bq nq hq hgk
   have hTe:exT q (exP q p k)=((hdT (exP q p k)).1/(hdT q).1,Qb5 (hdT (exP q p k)).2 (hdT q).2):=rfl
   have hPe:exP q p (k+1)=Qlb (exP q p k) (Qu [exT q (exP q p k)] q):=rfl
   have hQe:exQ q p (k+1)=exQ q p k++[exT q (exP q p k)]:=rfl
   have hQl1:=Qqz q p (k+1)
   rw[show exN q (exP q p k)=exP q p (k+1)from rfl]at hlt
   rw[hTe]at htT hPe hQe
   generalize(hdT (exP q p k)).1/(hdT q).1=a at *
   generalize Qb5 (hdT (exP q p k)).2 (hdT q).2=m at *
   have hQe0:=hQe
   generalize hPe0:exP q p (k+1)=P' at *
   have b1:PB (K+K) E [(a,m)]:=fun t ht=>by
    obtain rfl:t=(a,m):=by simpa using ht
    exact htT
   obtain⟨b2,l2⟩:=Qn9 b1 (bq.mono (K':=K+K) (by omega) (Nat.le_refl _))
   have hmin:min [(a,m)].length q.length*(K+K+(K+K))<=1*(K+K+(K+K)):=Nat.mul_le_mul_right _ (by simp;omega)
   have l2':(Qu [(a,m)] q).length<=q.length:=by simpa using l2
   simp+decide (disch:=first|exact D3 hj0 hPh hqh|fail) only[go_sem,↓reduceIte,hj0,hPh,hqh]
   refine Qfx ?_ ?_
   ·
    simp+decide (disch:=first|exact D3 hj0 hPh hqh|fail) only[go_sem,↓reduceIte,hj0,hPh,hqh]
    refine Qa hP hDiv rfl rfl rfl ?_
    simp+decide (disch:=first|exact D4 hj0 hPh hqh h6|fail) only[go_sem,↓reduceIte,hj0,hPh,hqh,h6]
    rw[Qao (f:=PV.term) (y:=(a,m)) (xs:=exQ q p k) (ty':=127) (fz:=false) (T1 hh) Tr0 (by omega) hQl.symm (by omega) (by omega)]
    simp+decide (disch:=first|exact D4 hj0 hPh hqh h6|fail) only[go_sem,↓reduceIte,hj0,hPh,hqh,h6]
    refine Qcj hP (Qkg b1 (bq.mono (K':=K+K) (by omega) (Nat.le_refl _)) (by omega) (by simp) (by omega) (by simp;omega) (by omega) (by omega)) Ur0 rfl ?_
    simp+decide (disch:=first|exact D4 hj0 hPh hqh h6|fail) only[go_sem,↓reduceIte,hj0,hPh,hqh,h6]
    refine Qa hP (Qud (K:=4*K) (E:=E+E) (bP.mono (by omega) (by omega)) (b2.mono (by omega) (by omega)) (by omega) (by omega) (by omega) (by omega) (by omega)) rfl rfl rfl ?_
    rw[<-hPe]
    simp+decide (disch:=first|exact D4 hj0 hPh hqh h6|fail) only[go_sem,↓reduceIte,hj0,hPh,hqh,h6]
    refine Qan (fun hn=> ?_) (fun hn=> ?_)
    ·have hnl:0<P'.length:=by omega
     have hnh:=Qm8 hnl
     have hnm:=bN _ (Qau (List.length_pos_iff.1 hnl))
     have hlt':=hlt _ (Qau (List.length_pos_iff.1 hnl))
     have hge:¬0<=Qah (hdT P').2 (hdT (exP q p k)).2:=by omega
     simp+decide (disch:=first|exact D5 hj0 hPh hqh h6 hnh|fail) only[go_sem,↓reduceIte,hj0,hPh,hqh,h6,hnh]
     refine Qa hP (Qov (o:=0) hnm.m hPm.m (by omega)) rfl rfl rfl ?_
     rw[Qps]
     simp+decide (disch:=first|exact D5 hj0 hPh hqh h6 hge|fail) only[go_sem,↓reduceIte,hj0,hPh,hqh,h6,hge]
     refine Qi (k0-(k+1)) (by omega) ⟨k+1,rfl,by omega,?_⟩
     rw[show FW.exQ q p (k+1)=exQ q p k++[(a,m)]from hQe0,show FW.exP q p (k+1)=P' from hPe0]
     simp+decide (disch:=first|exact E0|fail) only[go_sem,↓reduceIte,Q7,List.contains_cons,List.contains_nil,List.flatMap_cons,List.flatMap_nil,List.append_nil]
    ·simp+decide (disch:=first|exact D4 hj0 hPh hqh h6|fail) only[go_sem,↓reduceIte,hj0,hPh,hqh,h6]
     refine Qi (k0-(k+1)) (by omega) ⟨k+1,rfl,by omega,?_⟩
     rw[show FW.exQ q p (k+1)=exQ q p k++[(a,m)]from hQe0,show FW.exP q p (k+1)=P' from hPe0]
     simp+decide (disch:=first|exact E0|fail) only[go_sem,↓reduceIte,Q7,List.contains_cons,List.contains_nil,List.flatMap_cons,List.flatMap_nil,List.append_nil]
   ·
    simp+decide (disch:=first|exact D3 hj0 hPh hqh|fail) only[go_sem,↓reduceIte,hj0,hPh,hqh]
    refine Qa hP hDiv rfl rfl rfl ?_
    simp+decide (disch:=first|exact D4 hj0 hPh hqh h6|fail) only[go_sem,↓reduceIte,hj0,hPh,hqh,h6]
    rw[Qao (f:=PV.term) (y:=(a,m)) (xs:=exQ q p k) (ty':=127) (fz:=false) (T1 hh) Tr0 (by omega) hQl.symm (by omega) (by omega)]
    simp+decide (disch:=first|exact D4 hj0 hPh hqh h6|fail) only[go_sem,↓reduceIte,hj0,hPh,hqh,h6]
    refine Qcj hP (Qkg b1 (bq.mono (K':=K+K) (by omega) (Nat.le_refl _)) (by omega) (by simp) (by omega) (by simp;omega) (by omega) (by omega)) Ur0 rfl ?_
    simp+decide (disch:=first|exact D4 hj0 hPh hqh h6|fail) only[go_sem,↓reduceIte,hj0,hPh,hqh,h6]
    refine Qa hP (Qud (K:=4*K) (E:=E+E) (bP.mono (by omega) (by omega)) (b2.mono (by omega) (by omega)) (by omega) (by omega) (by omega) (by omega) (by omega)) rfl rfl rfl ?_
    rw[<-hPe]
    simp+decide (disch:=first|exact D4 hj0 hPh hqh h6|fail) only[go_sem,↓reduceIte,hj0,hPh,hqh,h6]
    refine Qan (fun hn=> ?_) (fun hn=> ?_)
    ·have hnl:0<P'.length:=by omega
     have hnh:=Qm8 hnl
     have hnm:=bN _ (Qau (List.length_pos_iff.1 hnl))
     have hlt':=hlt _ (Qau (List.length_pos_iff.1 hnl))
     have hge:¬0<=Qah (hdT P').2 (hdT (exP q p k)).2:=by omega
     simp+decide (disch:=first|exact D5 hj0 hPh hqh h6 hnh|fail) only[go_sem,↓reduceIte,hj0,hPh,hqh,h6,hnh]
     refine Qa hP (Qov (o:=0) hnm.m hPm.m (by omega)) rfl rfl rfl ?_
     rw[Qps]
     simp+decide (disch:=first|exact D5 hj0 hPh hqh h6 hge|fail) only[go_sem,↓reduceIte,hj0,hPh,hqh,h6,hge]
     refine Qi (k0-(k+1)) (by omega) ⟨k+1,rfl,by omega,?_⟩
     rw[show FW.exQ q p (k+1)=exQ q p k++[(a,m)]from hQe0,show FW.exP q p (k+1)=P' from hPe0]
     simp+decide (disch:=first|exact E0|fail) only[go_sem,↓reduceIte,Q7,List.contains_cons,List.contains_nil,List.flatMap_cons,List.flatMap_nil,List.append_nil]
    ·simp+decide (disch:=first|exact D4 hj0 hPh hqh h6|fail) only[go_sem,↓reduceIte,hj0,hPh,hqh,h6]
     refine Qi (k0-(k+1)) (by omega) ⟨k+1,rfl,by omega,?_⟩
     rw[show FW.exQ q p (k+1)=exQ q p k++[(a,m)]from hQe0,show FW.exP q p (k+1)=P' from hPe0]
     simp+decide (disch:=first|exact E0|fail) only[go_sem,↓reduceIte,Q7,List.contains_cons,List.contains_nil,List.flatMap_cons,List.flatMap_nil,List.append_nil]
 ·have hP0:exP q p k=[]:=List.length_eq_zero_iff.1 (by omega)
  have hk0':k=k0:=by
   apply Decidable.byContradiction;intro hne
   exact(hgo k (by omega)).1 hP0
  subst hk0'
  simp+decide (disch:=first|exact E2 h6 hh|fail) only[go_sem,↓reduceIte,h6,hh,Q7,List.contains_cons,List.contains_nil,List.flatMap_cons,List.flatMap_nil,List.append_nil]
  exact Qc5 (by rw[exR,if_pos hP0]) rfl rfl (by simp[List.take_of_length_le,hQl,Qz]) (Qz _)
end Go.Proofs.YtonfajmchebkeaaGreat
namespace Go.FW
open Go
set_option maxRecDepth 100000
structure Sm4(q:List Tm):Prop where
 n:Nrm q
 b:PB 3 4 q
 m:ML 4 q
 l:q.length<=6
structure Cf(j:Nat)(p:List Tm):Prop where
 d:∃D N:Nat,0<D/\0<N/\nl D<=31+120000*j/\nl N<=13+75000*j/\Dn D p/\n1 p<=(N:Rat)
 w:∀t∈p,psi t.2<=6560
 pos:Pos p
 ml:ML 4 p
 n:Nrm p
theorem Sm4.sz{q:List Tm}(h:Sm4 q):SZ 19 11 4 q:=(SZ.of h.b h.l).mono (by omega) (by omega) (by omega)
theorem Sm4.sml{q:List Tm}(h:Sm4 q):Sml q:=⟨h.sz.mono (by omega) (by omega) (by omega),by have:=h.l;omega,h.n⟩
theorem Sm4.cf{q:List Tm}(h:Sm4 q):Cf 0 q:=by
 obtain⟨⟨D,N,h1,h2,h3,h4,h5,h6⟩,_⟩:=h.sz
 refine⟨⟨D,N,h1,h2,by omega,by omega,h5,h6⟩,fun t ht=> ?_,fun t ht i=>((h.b t ht).m.eN i).1,h.m,h.n⟩
 have c0:=(h.b t ht).m.eN 0;have c1:=(h.b t ht).m.eN 1;have c2:=(h.b t ht).m.eN 2;have c3:=(h.b t ht).m.eN 3
 simp only[psi];omega
theorem Q27(x:Nat):∃n,n=x:=⟨x,rfl⟩
theorem Q0t{n0 a w n:Nat}(e:n0=a*w^n)(h:0<a)(h2:0<w):0<n0:=by rw[e];exact Nat.mul_pos h (Nat.pow_pos h2)
theorem Qae7{w:Rat}(hw:1<=w){N:Nat}:∀ {p:List Tm},(∀t∈p,psi t.2<=N)->nW w p<=n1 p*w^N
 | [],_=>by simp only[nW,n1];grind
 |t::p,h=>by
  have ih:=Qae7 hw (N:=N) (p:=p) fun s hs=>h s (List.mem_cons_of_mem _ hs)
  have h1:=Q0k hw (h t (List.mem_cons_self ..))
  have h2:=Rat.mul_le_mul_of_nonneg_left h1 (Qby t.1)
  simp only[nW,n1];grind
theorem Qaej{p:List Tm}{N w n n0:Nat}(hw:(1:Rat)<=(w:Rat))(hn:n1 p<=(N:Rat))(hp:∀t∈p,psi t.2<=n)(e:n0=N*w^n):nW (w:Rat) p<=(n0:Rat):=by
 have h1:=Qae7 hw hp
 have h2:=Rat.mul_le_mul_of_nonneg_right hn (Qe3 (show(0:Rat)<=(w:Rat)by grind) n)
 rw[e,Rat.natCast_mul,Rat.natCast_pow]
 exact Rat.le_trans h1 h2
theorem Q8x{D d f n:Nat}(e:D=d*f^n):(D:Rat)=(d:Rat)*(f:Rat)^n:=by rw[e,Rat.natCast_mul,Rat.natCast_pow]
theorem Q5g(f:Rat){a b n:Nat}(h:n=a+b+1):f^n=f^a*f^b*f:=by rw[h,Rat.pow_succ,Qho]
theorem Qaek{x y D d A B f:Rat}(hD:D=d*(A*B*f)):x/y*D=x*(d*A)*B*(f/y):=by rw[hD];grind
theorem Qae8{M:Rat}:∀ {l:List Tm},(∀t∈l,Qbd t.1<=M)->n1 l<=(l.length:Rat)*M
 | [],_=>by
  show(0:Rat)<=((0:Nat):Rat)*M
  have:((0:Nat):Rat)=0:=rfl
  rw[this];grind
 |t::l,h=>by
  have ih:=Qae8 (M:=M) (l:=l) fun s hs=>h s (List.mem_cons_of_mem _ hs)
  have h1:=h t (List.mem_cons_self ..)
  rw[List.length_cons,Rat.natCast_add]
  have:((1:Nat):Rat)=1:=rfl
  simp only[n1];rw[this];grind
theorem Q28{q p:List Tm}{t:Tm}:∀ {k:Nat},t∈exQ q p k->∃i,i<k/\t=exT q (exP q p i)
 |0,h=>by cases h
 | k+1,h=>by
  rcases List.mem_append.1 (show t∈exQ q p k++[exT q (exP q p k)]from h)with h|h
  ·obtain⟨i,h1,h2⟩:=Q28 h
   exact⟨i,by omega,h2⟩
  ·exact⟨k,by omega,by simpa using h⟩
theorem Qaoj{y:Tm}{q:List Tm}:IsI (((Qp7 y q:Nat):Rat)/y.1):=by
 have h3:=Qli y.1
 have h4:((y.1.num.natAbs:Nat):Rat)/y.1=(y.1.den:Rat)∨((y.1.num.natAbs:Nat):Rat)/y.1= -(y.1.den:Rat)∨y.1=0:=by
  rw[<-h3];unfold Qbd;grind
 have e:((Qp7 y q:Nat):Rat)/y.1=(Qhp q:Rat)*(((y.1.num.natAbs:Nat):Rat)/y.1):=by
  unfold Qp7;rw[Rat.natCast_mul];grind
 rw[e]
 rcases h4 with h4|h4|h4
 ·rw[h4];exact(IsI.nat _).mul (IsI.nat _)
 ·rw[h4];exact(IsI.nat _).mul (IsI.nat _).neg
 ·rw[h4,Rat.div_def,Rat.inv_zero,Rat.mul_zero,Rat.mul_zero];exact⟨0,rfl⟩
theorem Qael{x y:Rat}(hy:y≠0):Qbd (x/y)<=Qbd x*(y.den:Rat):=by
 have h1:=Qli y
 have h2:(1:Rat)<=((y.num.natAbs:Nat):Rat):=Qcr (a:=1) (by
  have:y.num≠0:=fun e=>hy (Rat.num_eq_zero.1 e)
  omega)
 have h3:Qbd x=Qbd (x/y)*Qbd y:=by rw[<-Qhn];congr 1;grind
 have h4:=Rat.mul_le_mul_of_nonneg_left h2 (Qby (x/y))
 rw[<-h1]at h4
 rw[h3];grind
theorem Q8y {j : Nat} {p q : List Tm} (hp:Cf j p) (hq:Sm4 q) (h0:q≠[]) (hj:j<=16):
    ∃k0,k0<=8589934592/\(∀k,k<=k0->FW.PB 4194304 6560 (exP q p k)/\(exP q p k).length<=4294967296)/\(∀k,k<k0->Qfd q (exP q p k))/\¬Qfd q (exP q p k0)/\Cf (j+1) (exQ q p k0):=by
  obtain⟨y,q,rfl⟩:∃y q',q=y::q':=by
    cases q with
    |nil=>exact absurd rfl h0
    |cons y q=>exact⟨y,q,rfl⟩
  have nq:=hq.n
  have bq:=hq.b.mono (K':=3) (E':=8) (by omega) (by omega)
  have hQ:=qok bq nq hq.m
  have hy0:=nq.z y (by simp)
  obtain⟨w,hw⟩:∃w,w=exW y q:=⟨_,rfl⟩
  obtain⟨f,hf⟩:∃f,f=Qp7 y q:=⟨_,rfl⟩
  have hFy:=Qaoj (y:=y) (q:=q)
  obtain⟨⟨d,N,hd0,hN0,hdl,hNl,hDn,hn1⟩,hw4,hpos,hml,np⟩:=hp
  obtain⟨n0,hn0⟩:=Q27 (N*w^6560)
  have hw0:0<w:=by rw[hw];unfold exW;omega
  have hf0:0<f:=by
    rw[hf];unfold Qp7
    refine Nat.mul_pos (Qso q) ?_
    have:y.1.num≠0:=fun e=>hy0 (Rat.num_eq_zero.1 e)
    omega
  have hn00:0<n0:=Q0t hn0 hN0 hw0
  rw[<-hw,<-hf]at hQ
  rw[<-hf]at hFy
  have lq:=hq.l
  rw[List.length_cons]at lq
  have a3:=Q2z (PB.cons.1 bq).2
  have a4:=Q20 (PB.cons.1 bq).2
  have a5:=(PB.cons.1 bq).1.c
  unfold rs at a5
  have b1:=Qb1 (Qhp q) y.1.num.natAbs
  have b2:=Qb1 (Qdy q) y.1.den
  have b3:=Qmy (Qdy q*y.1.den) 1
  rw[Qez]at b3
  have e1:nl w=nl (Qdy q*y.1.den+1):=by rw[hw];rfl
  have e2:nl f=nl (Qhp q*y.1.num.natAbs):=by rw[hf];rfl
  have hwl:nl w<=11:=by omega
  have hfl:nl f<=18:=by omega
  have b4:=Qug w 6560
  have b5:=Qug f 6560
  have b8:=Qb1 d (f^6560)
  have b9:=Qb1 n0 (d*f^6560)
  have b6:=Qb1 N (w^6560)
  rw[<-hn0]at b6
  have hn0l:nl n0<=13+75000*j+72161:=by omega
  have hsz:nl (n0*(d*f^6560))<4194304:=by omega
  have hw1:(1:Rat)<=(w:Rat):=Qcr (a:=1) (by omega)
  have hE0:ExI d f w n0 p:=by
    refine⟨fun t ht=>⟨hw4 t ht,?_⟩,?_,hpos,hml,np⟩
    · have h1:=(hDn t ht).mul ((IsI.nat f).pow (6560-psi t.2))
      rw[<-Rat.mul_assoc];exact h1
    · exact Qaej hw1 hn1 hw4 hn0
  have hPB:∀ {r:List Tm},ExI d f w n0 r->FW.PB 4194304 6560 r:=fun h=>h.PB hd0 hf0 hw0 hn00 hsz
  have hinv:∀k,(∀j,j<k->Qfd (y::q) (exP (y::q) p j))->ExI d f w n0 (exP (y::q) p k):=by
    intro k
    induction k with
    |zero=>intro _;exact hE0
    | succ k ih=>
      intro hg
      have h1:=ih (fun j hj=>hg j (by omega))
      exact h1.step hQ (hPB h1) bq nq (hg k (by omega))
  have hdec:∀k,(∀j,j<k->Qfd (y::q) (exP (y::q) p j))->Qfd (y::q) (exP (y::q) p k)->c4 (hdT (exP (y::q) p k)).2+k<=c4 (hdT p).2:=by
    intro k
    induction k with
    |zero=>intro _ _;simp only[exP,Nat.add_zero,Nat.le_refl]
    | succ k ih=>
      intro hg hgk
      have i1:=hinv k (fun j hj=>hg j (by omega))
      have i2:=hinv (k+1) hg
      have h1:=ih (fun j hj=>hg j (by omega)) (hg k (by omega))
      have h2:=Q0i (hPB i1) (bq.mono (by omega) (by omega)) i1.nrm nq (by simp) (hg k (by omega)) _ (Qau hgk.1)
      have m1:=Qau (hg k (by omega)).1
      have m2:=Qau hgk.1
      have h3:=Qae3 (i2.pos _ m2) (i1.pos _ m1) (i2.ml _ m2) (i1.ml _ m1) (i2.i _ m2).1 (i1.i _ m1).1 h2
      omega
  have hex:∀n,(∃k0,k0<=n/\(∀k,k<k0->Qfd (y::q) (exP (y::q) p k))/\¬Qfd (y::q) (exP (y::q) p k0))∨∀k,k<=n->Qfd (y::q) (exP (y::q) p k):=by
    intro n
    induction n with
    | zero=>
      by_cases h:Qfd (y::q) (exP (y::q) p 0)
      · exact .inr fun k hk => by obtain rfl:k=0:=by omega
                                  exact h
      · exact .inl ⟨0,by omega,fun k hk=>by omega,h⟩
    | succ n ih=>
      rcases ih with⟨k0,h1,h2,h3⟩|h
      · exact .inl ⟨k0,by omega,h2,h3⟩
      · by_cases hn:Qfd (y::q) (exP (y::q) p (n+1))
        · refine .inr fun k hk=> ?_
          rcases Nat.lt_or_eq_of_le hk with h4|h4
          · exact h k (by omega)
          · rw[h4];exact hn
        · exact .inl ⟨n+1,Nat.le_refl _,fun k hk=>h k (by omega),hn⟩
  rcases hex 8589934592 with⟨k0,h1,h2,h3⟩|h
  · have hk:∀k,k<=k0->ExI d f w n0 (exP (y::q) p k):=fun k hk=>hinv k fun j hj=>h2 j (by omega)
    have hQn:=Q2x (K:=4194304) (E:=6560) (bq.mono (by omega) (by omega)) np nq (by simp) (fun k h=>hPB (hk k h)) h2 k0 (Nat.le_refl _)
    refine⟨k0,h1,fun k h=>⟨hPB (hk k h),(hk k h).len⟩,h2,h3,?_⟩
    have hT:∀t∈exQ (y::q) p k0,∃x:Tm,psi x.2<=6560/\IsI (x.1*((d:Rat)*(f:Rat)^(6560-psi x.2)))/\Qbd x.1<=(n0:Rat)/\(∀i,0<=eN (Qb5 x.2 y.2) i)/\x.2.length<=4/\psi (Qb5 x.2 y.2)<=psi x.2/\t=(x.1/y.1,Qb5 x.2 y.2):=fun t ht=>by
      obtain⟨i,hi,rfl⟩:=Q28 ht
      have hg:=h2 i hi
      have hI:=hk i (by omega)
      have hm:=Qau hg.1
      obtain⟨g1,g2⟩:=hI.i _ hm
      have hxm:=(hPB hI _ hm).m
      have hym:=(bq y (by simp)).m
      have hqp:=Q0l hxm hym hg.2
      refine⟨hdT (exP (y::q) p i),g1,g2,Rat.le_trans (Q0m hw1 hm) hI.n,hqp,hI.ml _ hm,?_,rfl⟩
      have hmm:Qak (Qb5 (hdT (exP (y::q) p i)).2 y.2) y.2=(hdT (exP (y::q) p i)).2:=Qhm hxm hym (hPB hI _ hm).l hg.2
      have hpsi:=Qnb hqp (hQ.pos y (by simp))
      rw[hmm]at hpsi
      omega
    have hy1:=Qug f 6561
    obtain⟨D',hD'⟩:=Q27 (d*f^6561)
    refine⟨⟨D',8589934592*(n0*y.1.den),Q0t hD' hd0 hf0,Nat.mul_pos (by omega) (Nat.mul_pos hn00 y.1.den_pos),?_,?_,fun t ht=> ?_,?_⟩,fun t ht=> ?_,fun t ht i=> ?_,fun t ht=> ?_,hQn.1⟩
    · have:=Qb1 d (f^6561);rw[<-hD']at this;omega
    · have g1:=Qb1 8589934592 (n0*y.1.den)
      have g2:=Qb1 n0 y.1.den
      have g3:nl 8589934592<=3:=by decide+kernel
      omega
    · obtain⟨x,x1,x2,_,_,_,_,rfl⟩:=hT t ht
      have g1:=(x2.mul ((IsI.nat f).pow (psi x.2))).mul hFy
      have e:x.1/y.1*((D':Nat):Rat)=x.1*((d:Rat)*(f:Rat)^(6560-psi x.2))*(f:Rat)^psi x.2*((f:Rat)/y.1):=by
        refine Qaek ?_
        rw[Q8x hD',Q5g (f:Rat) (show 6561=6560-psi x.2+psi x.2+1 by omega)]
      show IsI (x.1/y.1*_)
      rw[e];exact g1
    · have g:=Qae8 (M:=(n0:Rat)*(y.1.den:Rat)) (l:=exQ (y::q) p k0) fun t ht=>by
        obtain⟨x,_,_,x3,_,_,_,rfl⟩:=hT t ht
        have g1:=Qael (x:=x.1) hy0
        have g2:=Rat.mul_le_mul_of_nonneg_right x3 (Qcr (a:=0) (b:=y.1.den) (by omega))
        exact Rat.le_trans g1 g2
      rw[Qqz]at g
      have g2:=Rat.mul_le_mul_of_nonneg_right (Qcr h1) (show(0:Rat)<=(n0:Rat)*(y.1.den:Rat)from Rat.mul_nonneg (Qcr (a:=0) (by omega)) (Qcr (a:=0) (by omega)))
      rw[Rat.natCast_mul,Rat.natCast_mul]
      exact Rat.le_trans g g2
    · obtain⟨x,x1,_,_,_,_,x6,rfl⟩:=hT t ht
      simp only;omega
    · obtain⟨x,_,_,_,x4,_,_,rfl⟩:=hT t ht
      exact x4 i
    · obtain⟨x,_,_,_,_,x5,_,rfl⟩:=hT t ht
      have g1:=Qfj (Qfb (· - ·) x.2 y.2)
      rw[Qbu]at g1
      have:=hq.m y (by simp)
      show(Qb5 x.2 y.2).length<=4
      unfold Qb5;omega
  · exfalso
    have hg:=h 0 (by omega)
    have h1:=hdec 8589934592 (fun j hj=>h j (by omega)) (h _ (Nat.le_refl _))
    have h2:=Q5a (hE0.i _ (Qau hg.1)).1
    omega
def Qq1(q p:List Tm)(k0:Nat):Prop:=(∀k,k<k0->Qfd q (exP q p k))/\¬Qfd q (exP q p k0)
theorem Q5h{q p:List Tm}{a b:Nat}(ha:Qq1 q p a)(hb:Qq1 q p b):a=b:=by
 rcases Nat.lt_trichotomy a b with h|h|h
 ·exact absurd (hb.1 a h) ha.2
 ·exact h
 ·exact absurd (ha.1 b h) hb.2
open Classical in
noncomputable def exO (q p : List Tm) : Option (List Tm) := if h : ∃ k, Qq1 q p k then (if exP q p h.choose = [] then some (exQ q p h.choose) else none) else none
theorem Qnf{q p:List Tm}{k:Nat}(h:Qq1 q p k):exO q p=if exP q p k=[]then some (exQ q p k)else none:=by
 have hx:∃k,Qq1 q p k:=⟨k,h⟩
 have e:hx.choose=k:=Q5h hx.choose_spec h
 unfold exO
 rw[dif_pos hx,e]
def PV.exO:Option (List Tm)->PV
 |some s=> .tup [PV.poly s,.bool true]
 |none=> .tup [PV.poly [],.bool false]
theorem Qana{q p:List Tm}{k:Nat}(h:Qq1 q p k):exR q p k=PV.exO (FW.exO q p):=by
 rw[Qnf h]
 unfold exR
 split<;>rfl
theorem Q8z{j:Nat}{p q s:List Tm}(hp:Cf j p)(hq:Sm4 q)(h0:q≠[])(hj:j<=16)(h:exO q p=some s):Cf (j+1) s:=by
 obtain⟨k,_,_,h1,h2,h3⟩:=Q8y hp hq h0 hj
 rw[Qnf ⟨h1,h2⟩]at h
 split at h
 ·cases h;exact h3
 ·cases h
noncomputable def exL (q : List Tm) : List (List Tm) -> Option (List (List Tm))
 | [] => some []
 | p :: l => (exO q p).bind fun s => (exL q l).map (s :: ·)
theorem Q80{j:Nat}{q:List Tm}(hq:Sm4 q)(h0:q≠[])(hj:j<=16):∀ {l r:List (List Tm)},(∀p∈l,Cf j p)->exL q l=some r->∀s∈r,Cf (j+1) s
 | [],r,_,h=>by cases h;simp
 |p::l,r,hl,h=>by
  simp only[exL,Option.bind_eq_some_iff,Option.map_eq_some_iff]at h
  obtain⟨s,h1,t,h2,rfl⟩:=h
  intro x hx
  rcases List.mem_cons.1 hx with rfl|hx
  ·exact Q8z (hl p (List.mem_cons_self ..)) hq h0 hj h1
  ·exact Q80 hq h0 hj (fun y hy=>hl y (List.mem_cons_of_mem _ hy)) h2 x hx
theorem Qkt{q:List Tm}:∀ {l r:List (List Tm)},exL q l=some r->r.length=l.length
 | [],r,h=>by cases h;rfl
 |p::l,r,h=>by
  simp only[exL,Option.bind_eq_some_iff,Option.map_eq_some_iff]at h
  obtain⟨s,_,t,h2,rfl⟩:=h
  simp[Qkt h2]
theorem Qvv{q:List Tm}:∀ {l r:List (List Tm)},exL q l=some r->∀i (h:i<l.length) (h2:i<r.length),exO q l[i]=some r[i]
 | [],r,h,i,h1,_=>by simp at h1
 |p::l,r,h,i,h1,h2=>by
  simp only[exL,Option.bind_eq_some_iff,Option.map_eq_some_iff]at h
  obtain⟨s,h3,t,h4,rfl⟩:=h
  match i with
  |0=>exact h3
  |i+1=>exact Qvv h4 i (by simpa using h1) (by simpa using h2)
theorem Qsq{q:List Tm}:∀ {l:List (List Tm)} {i:Nat} (h:i<l.length),exO q l[i]=none->exL q l=none
 |p::l,0,_,e=>by
  simp only[List.getElem_cons_zero]at e
  simp[exL,e]
 |p::l,i+1,h,e=>by
  have:=Qsq (l:=l) (i:=i) (by simpa using h) (by simpa using e)
  simp[exL,this]
end Go.FW
namespace Go.FW
open Go
variable {C : Ctx} {ρ : Nat -> Option Nat} {fr fr' : Fr} {hp : HP} {w : World} {K R : Qg}
theorem Qui {P : Program} {f : FuncId} {fn : Func} {sf : SFn} {args : List PV} {Rr : PV -> Prop} (hm : P.follows .mixedOrders = true) (hf : P.funcs[f]? = some fn) (hname : (fn.name != "runtime.NumGoroutine") = true) (hc : Qe P fn = some sf.strip) (hn : args.length <= sf.n /\ sf.n <= 1000000)
  (hv:∀C:Ctx,C.P=P->C.N=sf.n->vc C (Qpx (Qdv sf.rs Rr)) [.c sf.body] (Qfh args) hp0):Qd P f args Rr:=by
 simp only[Qe,Option.bind_eq_some_iff,Option.map_eq_some_iff]at hc
 obtain⟨c,hb,sb,hcb,rs,hrs,hsf⟩:=hc
 obtain⟨n,rs',body⟩:=sf
 simp only[SFn.strip,SFn.mk.injEq]at hsf
 obtain⟨rfl,rfl,rfl⟩:=hsf
 refine⟨by simp[Qnr,hf,hb];simpa using hname,fun w X vals hX hsz hrep=> ?_⟩
 let C:Ctx:=Ctx.plain P fn.ntmps w X hX hn.2
 refine calls_of_wp hf hb ?_
 have hsz':(vals++Array.replicate (fn.ntmps-vals.size) undef).size=fn.ntmps:=by simp at hn ⊢;omega
 have hsim:Sim C (Qfh args) hp0 (vals++Array.replicate (fn.ntmps-vals.size) undef) w:=by
  refine⟨fun _=>none,hsz',Ext.refl _ _,(fun _ _ h=>by cases h),by simp[hp0],by simp[hp0],fun i=> ?_⟩
  unfold Qfh
  cases hi:args[i]? with
  |none=>trivial
  | some p=>
   simp only[Option.getD_some]
   have hil:i<vals.size:=by rw[hsz];exact(List.getElem?_eq_some_iff.1 hi).1
   have hr:=hrep i p hi
   have e:(vals++Array.replicate (fn.ntmps-vals.size) undef).getD i undef=vals.getD i undef:=by
    rw[Qb7,if_pos hil]
   rw[e]
   refine Ql.ofData (hr.mono (fun _ _ _=>rfl) (fun b _ hn hx=> ?_) (Nat.le_refl _))
   rcases hx with hx|⟨_,_,h1,_⟩
   ·exact hn hx
   ·simp[hp0]at h1
 have fin:∀(fr:Fr)(hp:HP)(a:Act)(w':World),a.defers=[]->Sim C fr hp a.tmps w'->Qpx (Qdv rs Rr) fr hp->
   a.defers=[]/\∃v,(results fn a.tmps).run P w'= .ok v w'/\∃v' r,Ending.returned v= .returned v'/\Ext Qbf w w'/\Qcu w' X r v'/\Rr r:=by
  rintro fr hp a w' hd hs0 ⟨fr1,hp1,hw,hr⟩
  obtain⟨ρ,hs⟩:=hw C _ _ hs0
  obtain⟨v,r,h1,h2,h3⟩:=Qv9 (C:=C) rfl hrs hs hr
  exact⟨hd,v,h1,v,r,rfl,Ctx.plain_ext hs.ext,h2,h3⟩
 exact Qq8 (C:=C) (R:=Qpx (Qdv rs Rr)) hm c body [] _ (Qfh args) hp0 _ w hcb ⟨fun fr hp a w' hd hs hv=>(by rw[Qk5]at hv;exact fin fr hp a w' hd hs hv),fun id sk' he=>(by simp[FW.Qaj]at he),fin⟩ rfl hsim (hv C rfl rfl)
theorem Q81 {P : Program} {f : FuncId} {fn : Func} {sf : SFn} {args : List PV} {Rr : PV -> Prop} (hm : P.follows .mixedOrders = true) (hf : P.funcs[f]? = some fn) (hname : (fn.name != "runtime.NumGoroutine") = true) (hc : Qe P fn = some sf.strip) (hn : args.length <= sf.n /\ sf.n <= 1000000)
  (hv:∀C:Ctx,C.P=P->vc C (Qpx (Qdv sf.rs Rr)) [.c sf.body] (Qfh args) hp0):Qd P f args Rr:=
 Qui hm hf hname hc hn fun C h _=>hv C h
theorem Qajk{ty w i d:Nat}{fz:Bool}{f:Nat->Rat}(h:i<w):ldM (some ⟨3,ty,Qmm PV.rat f w,fz⟩) 3 true i 0 d fr hp K=K (upd fr d (PV.rat (f i))) hp:=by
 rw[Qpk (by rw[Q1j];exact h) (by omega) (by simp),Qacn];rfl
theorem Qanb:(Qok (.tup [])=True)/\(∀(k:IntKind)(n:Int),Qok (.int k n)=True)/\(∀b:Bool,Qok (.bool b)=True)/\(∀(e:Nat)(xs:List PV),Qok (.sl e xs)=True)/\(∀cs:List PV,Qok (.agg cs)=True)/\(∀cs:List PV,Qok (.tup cs)=True):=by
 refine⟨?_,?_,?_,?_,?_,?_⟩<;>intros<;>simp[Qok,PV.refs,PV.sref,rnP,rn1]
attribute [go_sem] Qanb Qajk
end Go.FW
namespace Go.FW
open Go
variable {C : Ctx} {ρ : Nat -> Option Nat} {fr fr' : Fr} {hp : HP} {w : World} {K R : Qg}
def ldX(p:PV)(γ n:Nat)(ag:Bool)(i o d:Nat)(fr:Fr)(hp:HP)(K:Qg):Prop:=match p with
 | .nst γ' e _ xs=>γ'=γ/\∃h:i<xs.length,o+n<=e/\(ag=false->n=1)/\K (upd fr d (ldN ag n o (xs[i]'h))) hp
 |_=>False
theorem Qanc{γ n i o d:Nat}{ag:Bool}:ldK n ag (.np γ i o) d fr hp K=ldX (fr γ) γ n ag i o d fr hp K:=by
 simp only[ldK,ldX]
 cases fr γ<;>rfl
def stX(p:PV)(h:Option HB)(v:Option (List PV))(γ n i o:Nat)(fr:Fr)(hp:HP)(K:Qg):Prop:=match p with
 | .nst γ' e ty xs=>γ'=γ/\(∃hb,h=some hb/\hb.fz=false)/\∃h:i<xs.length,o+n<=e/\match v with
   |some cs=>cs.length=n/\K (upd (Qd0 γ fr) γ (.nst γ e ty (xs.set i (Qep (Qky (xs[i]'h).ncells o cs))))) hp
   |none=>False
 |_=>False
theorem Qand{γ n i o:Nat}{v:PV}:stK n (.np γ i o) v fr hp K=stX (fr γ) (hp γ) (stN v) γ n i o fr hp K:=by
 simp only[stK,stX]
 cases fr γ<;>rfl
theorem Qaok{γ e ty n o d:Nat}{ag:Bool}{x:PV}(h1:o+n<=e)(h2:ag=true∨n=1):ldX (.nst γ e ty [x]) γ n ag 0 o d fr hp K=K (upd fr d (ldN ag n o x)) hp:=by
 have:(ag=false->n=1):=fun h=>h2.resolve_left (by simp[h])
 simp[ldX,h1]
 exact fun _=>this
theorem Qaol{γ e ty n o e0 ty0:Nat}{x:PV}{xs0 cs:List PV}(h1:o+n<=e)(h2:cs.length=n):stX (.nst γ e ty [x]) (some ⟨e0,ty0,xs0,false⟩) (some cs) γ n 0 o fr hp K=K (upd (Qd0 γ fr) γ (.nst γ e ty [Qep (Qky x.ncells o cs)])) hp:=by
 simp[stX,h1,h2]
theorem Qaom{γ ty B n w r d:Nat}{π:Nat->Nat}(h:r<n):ldX (.nst γ 1 ty (Qeo (Qej B n w π))) γ 1 false r 0 d fr hp K=K (upd fr d (.ms (B+π r) w)) hp:=by
 have hl:r<(Qeo (Qej B n w π)).length:=by simpa[Qeo,Qej]using h
 simp only[ldX,hl,exists_true_left,true_and,Nat.le_refl,Nat.zero_add,implies_true]
 simp[ldN,Qeo,Qej,PV.ncells,PV.cells]
theorem Qaon{γ ty B n w r m e0 ty0:Nat}{π:Nat->Nat}{xs0:List PV}(h:r<n):stX (.nst γ 1 ty (Qeo (Qej B n w π))) (some ⟨e0,ty0,xs0,false⟩) (some [.ms (B+m) w]) γ 1 r 0 fr hp K=K (upd (Qd0 γ fr) γ (.nst γ 1 ty (Qeo (Qej B n w fun x=>if x=r then m else π x)))) hp:=by
 have hl:r<(Qeo (Qej B n w π)).length:=by simpa[Qeo,Qej]using h
 have e:(Qej B n w π).set r (B+m,w)=Qej B n w fun x=>if x=r then m else π x:=by
  refine List.ext_getElem (by simp[Qej]) fun j h1 h2=> ?_
  rw[List.getElem_set,Qzz,Qzz]
  split
  ·rename_i e;subst e;simp
  ·rename_i e;rw[if_neg fun e2=>e e2.symm]
 rw[<-e]
 simp only[stX,hl,exists_true_left,true_and,Nat.le_refl,Nat.zero_add,Option.some.injEq,exists_eq_left',List.length_cons,List.length_nil]
 simp[Qep,Qky,Qeo,PV.ncells,PV.cells,List.map_set]
theorem stNs:
  (∀(γ o n:Nat),stN (.nso γ o n)=some [.nso γ o n])/\
  (∀(k:IntKind)(n:Int),stN (.int k n)=some [.int k n])/\
  (∀(b:Bool),stN (.bool b)=some [.bool b])/\
  (stN .nilS=some [.nilS])/\
  (∀(e:Nat)(xs:List PV),stN (.sl e xs)=some [.sl e xs])/\
  (∀(cs:List PV),stN (.pt cs)=some [.pt cs])/\
  (∀(cs:List PV),stN (.agg cs)=some cs):=by
 refine⟨?_,?_,?_,?_,?_,?_,?_⟩<;>intros<;>rfl
theorem Qane{β o n:Nat}(h:1000000<=β):stN (.mso β o n)=some [.mso β o n]:=by simp[stN,isB,h]
theorem Qajl{cs:List PV}:stN (.rag cs)=if cs.all PV.notU then some cs else none:=rfl
theorem Qaoo:(∀(k:IntKind)(n:Int),(PV.int k n).notU=true)/\(∀b:Bool,(PV.bool b).notU=true)/\(PV.nilS.notU=true)/\(∀(e:Nat)(xs:List PV),(PV.sl e xs).notU=true)/\(∀(β o n:Nat),(PV.mso β o n).notU=true)/\(∀(β o n:Nat),(PV.nso β o n).notU=true)/\(∀cs:List PV,(PV.pt cs).notU=true)/\(PV.undef.notU=false):=by
 refine⟨?_,?_,?_,?_,?_,?_,?_,?_⟩<;>intros<;>rfl
theorem Qaop:(∀(k:IntKind)(n:Int),(PV.int k n).isRefC=false)/\(∀b:Bool,(PV.bool b).isRefC=false)/\(PV.nilS.isRefC=false)/\(∀(e:Nat)(xs:List PV),(PV.sl e xs).isRefC=false)/\(∀(β o n:Nat),(PV.mso β o n).isRefC=true)/\(∀(β o n:Nat),(PV.nso β o n).isRefC=true)/\(∀cs:List PV,(PV.pt cs).isRefC=false)/\(PV.undef.isRefC=true):=by
 refine⟨?_,?_,?_,?_,?_,?_,?_,?_⟩<;>intros<;>rfl
theorem Q82{cs:List PV}(h:cs.any PV.isRefC=true):Qgs cs= .rag cs:=by simp[Qgs,h]
theorem Q83{cs:List PV}(h:cs.any PV.isRefC=false):Qgs cs= .agg cs:=by simp[Qgs,h]
theorem Qanf{a b:PV}{cs:List PV}:Qep (a::b::cs)=Qgs (a::b::cs):=rfl
theorem Qang{a:PV}:Qep [a]=a:=rfl
theorem Qaoq{n o:Nat}{x:PV}:ldN true n o x=Qgs ((x.ncells.drop o).take n):=rfl
theorem Qaor{n o:Nat}{x:PV}:ldN false n o x=(x.ncells.drop o).headD .undef:=rfl
theorem Qajm{l cs:List PV}{o:Nat}:Qky l o cs=l.take o++cs++l.drop (o+cs.length):=rfl
theorem Q5i{cs:List PV}:(PV.rag cs).ncells=cs:=rfl
theorem Q5j{cs:List PV}:(PV.agg cs).ncells=cs:=rfl
theorem Qaos{z:List PV}{ps:List (Nat×Nat×PV)}{d:Nat}(h:ps.any (fun p=>p.2.2.isNst)=true):Qga z ps d fr hp K=(Qhq z.length ps/\K (upd fr d (.rag (Qc2 z (ps.map fun p=>(p.1,(stN p.2.2).getD []))))) hp):=by
 simp only[Qga,if_pos h]
theorem Q10{len:Nat}:Qhq len []=True:=by simp[Qhq]
theorem Q0u{len o n:Nat}{v:PV}{ps:List (Nat×Nat×PV)}:Qhq len ((o,n,v)::ps)=((∃cs,stN v=some cs/\cs.length=n/\o+n<=len)/\Qhq len ps):=by simp[Qhq]
theorem Qanh:(∀(γ o n:Nat),(PV.nso γ o n).isNst=true)/\(∀(cs:List PV),(PV.rag cs).isNst=true)/\(∀(β o n:Nat),(PV.mso β o n).isNst=decide (2000000<=β))/\(∀(cs:List PV),(PV.agg cs).isNst=false)/\(∀(k:IntKind)(n:Int),(PV.int k n).isNst=false)/\(∀b:Bool,(PV.bool b).isNst=false)/\(PV.nilS.isNst=false)/\(∀(e:Nat)(xs:List PV),(PV.sl e xs).isNst=false):=by
 refine⟨?_,?_,?_,?_,?_,?_,?_,?_⟩<;>intros<;>rfl
theorem Qajn:(∀(β:Nat)(k:IntKind)(n:Int),Qdr β (.int k n)= .int k n)/\(∀(β:Nat)(b:Bool),Qdr β (.bool b)= .bool b)/\(∀β:Nat,Qdr β .nilS= .nilS)/\(∀(β e:Nat)(xs:List PV),Qdr β (.sl e xs)= .sl e xs)/\(∀(β γ o n:Nat),Qdr β (.mso γ o n)=if γ=β then .undef else .mso γ o n)/\(∀(β γ o n:Nat),Qdr β (.nso γ o n)=if γ=β then .undef else .nso γ o n):=by
 refine⟨?_,?_,?_,?_,?_,?_⟩<;>intros<;>rfl
theorem Qajo{β γ e ty:Nat}{x:PV}(h:γ≠β):Qbk β (.nst γ e ty [x])= .nst γ e ty [Qep (x.ncells.map (Qdr β))]:=by simp[Qbk,h]
theorem Qajp{β γ ty B n w:Nat}{π:Nat->Nat}(h:γ≠β)(h2:β<B):Qbk β (.nst γ 1 ty (Qeo (Qej B n w π)))= .nst γ 1 ty (Qeo (Qej B n w π)):=by
 simp only[Qbk,if_neg h]
 congr 1
 conv=>rhs;rw[<-List.map_id (Qeo (Qej B n w π))]
 refine List.map_congr_left fun x hx=> ?_
 obtain⟨y,hy,rfl⟩:=List.mem_map.1 hx
 obtain⟨r,hr,rfl⟩:=List.mem_map.1 hy
 simp only[PV.ncells,PV.cells,List.map_cons,List.map_nil,Qdr,Qep]
 rw[if_neg (by omega)];rfl
theorem mv_P{β δ γ ty B n w:Nat}{π:Nat->Nat}(hβ:β<1000000)(hB:2000000<=B)(hγ:2000000<=γ):rnP (mvN β δ) (.nst γ 1 ty (Qeo (Qej B n w π)))= .nst γ 1 ty (Qeo (Qej B n w π)):=by
 have e1:mvN β δ γ=γ:=by unfold mvN;rw[if_neg (by omega)]
 simp only[rnP,e1]
 congr 1
 conv=>rhs;rw[<-List.map_id (Qeo (Qej B n w π))]
 refine List.map_congr_left fun x hx=> ?_
 obtain⟨y,hy,rfl⟩:=List.mem_map.1 hx
 obtain⟨r,hr,rfl⟩:=List.mem_map.1 hy
 refine Qaht (.inr ⟨_,_,rfl⟩) fun β' n' h=> ?_
 cases h;unfold mvN;rw[if_neg (by omega)]
theorem Qaot{δ γ ty B n w:Nat}{π:Nat->Nat}(h:γ≠δ)(hδ:δ<B):Qdx δ (.nst γ 1 ty (Qeo (Qej B n w π)))= .nst γ 1 ty (Qeo (Qej B n w π)):=by
 simp only[Qdx,if_neg h]
 congr 1
 conv=>rhs;rw[<-List.map_id (Qeo (Qej B n w π))]
 refine List.map_congr_left fun x hx=> ?_
 obtain⟨y,hy,rfl⟩:=List.mem_map.1 hx
 obtain⟨r,hr,rfl⟩:=List.mem_map.1 hy
 simp only[PV.ncells,PV.cells,List.map_cons,List.map_nil,Qes,Qep]
 rw[if_neg (by omega)];rfl
theorem Q84{β:Nat}{cs:List PV}:Qam β (.rag cs)= .rag cs:=rfl
theorem Qaem{γ:Nat}{cs:List PV}:Qdx γ (.rag cs)= .rag (cs.map (Qes γ)):=rfl
theorem Q85{β:Nat}{cs:List PV}:Qbk β (.rag cs)= .rag (cs.map (Qdr β)):=rfl
theorem Qaou:(∀(γ:Nat)(k:IntKind)(n:Int),Qes γ (.int k n)= .int k n)/\(∀(γ:Nat)(b:Bool),Qes γ (.bool b)= .bool b)/\(∀γ:Nat,Qes γ .nilS= .nilS)/\(∀(γ e:Nat)(xs:List PV),Qes γ (.sl e xs)= .sl e xs)/\(∀(γ β o n:Nat),Qes γ (.mso β o n)=if β=γ then .nso γ o n else .mso β o n)/\(∀(γ β o n:Nat),Qes γ (.nso β o n)= .nso β o n):=by
 refine⟨?_,?_,?_,?_,?_,?_⟩<;>intros<;>rfl
theorem Qani{γ i o off d:Nat}:Qme off (.np γ i o) d fr hp K=K (upd fr d (.np γ i (o+off))) hp:=rfl
theorem Q86{γ γ' e ty:Nat}{xs:List PV}:Qdz γ (.nst γ' e ty xs)=if γ'=γ then .undef else .nst γ' e ty xs:=rfl
theorem Q87{γ:Nat}{cs:List PV}:Qdz γ (.rag cs)= .rag cs:=rfl
attribute [go_sem] Qani Q86 Q87 false_and List.all_cons List.all_nil Q84 Qaem Q85 Qaou exists_eq_left' Qanc Qand Qaok Qaol Qaom Qaon stNs Qane Qajl Qaoo Qaop Q82 Q83 Qanf Qang Qaoq Qaor Qajm Q5i Q5j Qaos Q10 Q0u Qanh Qajn Qajo Qajp mv_P Qaot
theorem Q29{p:PV}(h:Cln p):Qer p=p:=by
 obtain⟨h1,h2,h3,h4⟩:=h
 have h5:(p.refs.any isN||p.sref.any isS)=false:=by
  rw[Bool.or_eq_false_iff,List.any_eq_false,List.any_eq_false]
  exact⟨fun x hx=>by simp[h1 x hx],fun x hx=>by simp[h2 x hx]⟩
 unfold Qer
 split
 ·exact absurd rfl (h3 _ _ _ _)
 ·exact absurd rfl (h4 _)
 ·rw[h5];rfl
theorem Q5k{V W:List (Nat×Nat)}{B B':List Nat}{X Z F:Fr}(h:Qsc V W=true)(hB:(B'.all B.contains)=true):ovr V X (bse B' (ovr W Z (bse B F)))=ovr W (ovr V X (bse B' Z)) (bse B F):=by
 have e1:Qdm (ovr W Z (bse B F))=ovr W (Qdm Z) (bse B F):=by
  funext s
  show Qer (ovr W Z (bse B F) s)=_
  unfold ovr
  split
  ·rfl
  ·exact Q29 (Qm4 B F s)
 unfold bse
 rw[show Qdm (ovr W Z (Qae B (Qdm F)))=ovr W (Qdm Z) (Qae B (Qdm F))from e1,Q1l h hB]
theorem Q3a{γ e ty:Nat}{cs cs':List PV}(δ e' ty':Nat)(hfr:fr γ= .nst γ e ty [.rag cs])(h1:hp δ=none)(h2:2000000<=δ)(h3:0<e')(hl:cs'.length=cs.length)(hc:∀p∈cs.zip cs',p.2=p.1∨(p.1= .nilS/\p.2= .mso δ 0 0)):
  Wk fr hp (upd fr γ (.nst γ e ty [.rag cs'])) (Qn hp δ ⟨e',ty',[],false⟩):=by
 have h:=Qzy (fr:=fr) (hp:=hp) (γ:=γ) (e:=e) (ty:=ty) (xs:=[.rag cs]) (xs':=[.rag cs']) (fun x=>if x=δ then some (e',ty')else none) hfr (fun x y h=> ?_) rfl (fun i x x' k1 k2=> ?_)
 ·refine cast (congrArg (Wk fr hp (upd fr γ (.nst γ e ty [.rag cs']))) (funext fun x=> ?_)) h
  unfold Qn
  by_cases hx:x=δ
  ·subst hx;simp
  ·simp[hx]
 ·split at h
  ·rename_i hx;subst hx;cases h;exact⟨h1,h2,h3⟩
  ·cases h
 ·cases i with
  |succ i=>cases k1
  | zero=>
   cases k1;cases k2
   refine⟨hl,fun j y y' q1 q2=> ?_⟩
   have hz:(y,y')∈cs.zip cs':=by
    refine List.mem_of_getElem? (i:=j) ?_
    rw[List.getElem?_zip_eq_some]
    exact⟨q1,q2⟩
   rcases hc _ hz with h|⟨h,h'⟩
   ·exact .inl h
   ·exact .inr ⟨h,δ,(e',ty'),by simp,h'⟩
theorem Quj{V W:List (Nat×Nat)}{B:List Nat}{X Z F:Fr}(h:Qsc V W=true):ovr V X (Qdm (ovr W Z (Qae B (Qdm F))))=ovr W (ovr V X (Qdm Z)) (Qae B (Qdm F)):=by
 have e1:Qdm (ovr W Z (bse B F))=ovr W (Qdm Z) (bse B F):=by
  funext s
  show Qer (ovr W Z (bse B F) s)=_
  unfold ovr
  split
  ·rfl
  ·exact Q29 (Qm4 B F s)
 rw[show Qdm (ovr W Z (Qae B (Qdm F)))=ovr W (Qdm Z) (Qae B (Qdm F))from e1,Qir h]
theorem Q11{V W:List (Nat×Nat)}{X Z F:Fr}(h:Qsc V W=true):ovr V X (Qdm (ovr W Z (Qdm F)))=ovr W (ovr V X (Qdm Z)) (Qdm F):=by
 have:=Quj (V:=V) (W:=W) (B:=[]) (X:=X) (Z:=Z) (F:=F) h
 simpa only[Qck]using this
theorem Q88{γ:Nat}{F:Fr}:Qd0 γ (Qdm F)=Qdm F:=by
 have:=Qwv (γ:=γ) (B:=[]) (F:=F)
 simpa only[bse,Qck]using this
theorem Q89{β:Nat}{F:Fr}(h:2000000<=β):Qem β (Qdm F)=Qdm F:=by
 have:=Qwu (B:=[]) (F:=F) h
 simpa only[bse,Qck]using this
attribute [go_sem] Q88 Q89
theorem Qaov:(∀(k:IntKind)(n:Int),(PV.int k n).sref=[])/\(∀b:Bool,(PV.bool b).sref=[])/\(PV.nilS.sref=[])/\(PV.undef.sref=[])/\(∀(e:Nat)(xs:List PV),(PV.sl e xs).sref=[])/\(∀cs:List PV,(PV.agg cs).sref=[])/\(∀cs:List PV,(PV.tup cs).sref=[])/\(∀cs:List PV,(PV.pt cs).sref=[])/\
  (∀(β o n:Nat),(PV.mso β o n).sref=[])/\(∀(β o n:Nat),(PV.mp β o n).sref=[])/\(∀(β o n:Nat),(PV.nso β o n).sref=[β])/\(∀(β o n:Nat),(PV.np β o n).sref=[β]):=by
 refine⟨?_,?_,?_,?_,?_,?_,?_,?_,?_,?_,?_,?_⟩<;>intros<;>rfl
attribute [go_sem] Qaov
theorem Qaen{d w i:Nat}{k:IntKind}{f:Nat->Rat}(h:i<w):Qeq 3 (.sl 3 (Qmm PV.rat f w)) (.int k (i:Nat)) d fr hp K=K (upd fr d (.pt (PV.rat (f i)).cells)) hp:=by
 unfold Qmm
 rw[Qkn (by omega) (by simp;omega)]
 simp
theorem Qaeo{α:Type}{p:α->PV}{f:Nat->α}{w d e:Nat}:Qjx (.sl e (Qmm p f w)) d fr hp K=K (upd fr d (.int .i64 (w:Nat))) hp:=by
 simp[Qjx,Qmm]
attribute [go_sem] Qaen Qaeo
theorem Qajq{i c:Nat}(h:c<1600000):(1600000+i=c)=False:=by simp;omega
attribute [go_sem] Qajq
end Go.FW
namespace Go.FW
open Go
variable {C C' : Ctx} {ρ ρ' : Nat -> Option Nat} {fr fr' : Fr} {hp hp' : HP} {w : World} {K R : Qg}
theorem Qaep{γ e ty:Nat}{cs cs':List PV}(δ e' ty':Nat)(hfr:fr γ= .nst γ e ty [.agg cs])(h1:hp δ=none)(h2:2000000<=δ)(h3:0<e')(hl:cs'.length=cs.length)(hc:∀p∈cs.zip cs',p.2=p.1∨(p.1= .nilS/\p.2= .mso δ 0 0)):
  Wk fr hp (upd fr γ (.nst γ e ty [.rag cs'])) (Qn hp δ ⟨e',ty',[],false⟩):=by
 have h:=Qzy (fr:=fr) (hp:=hp) (γ:=γ) (e:=e) (ty:=ty) (xs:=[.agg cs]) (xs':=[.rag cs']) (fun x=>if x=δ then some (e',ty')else none) hfr (fun x y h=> ?_) rfl (fun i x x' k1 k2=> ?_)
 ·refine cast (congrArg (Wk fr hp (upd fr γ (.nst γ e ty [.rag cs']))) (funext fun x=> ?_)) h
  unfold Qn
  by_cases hx:x=δ
  ·subst hx;simp
  ·simp[hx]
 ·split at h
  ·rename_i hx;subst hx;cases h;exact⟨h1,h2,h3⟩
  ·cases h
 ·cases i with
  |succ i=>cases k1
  | zero=>
   cases k1;cases k2
   refine⟨hl,fun j y y' q1 q2=> ?_⟩
   have hz:(y,y')∈cs.zip cs':=by
    refine List.mem_of_getElem? (i:=j) ?_
    rw[List.getElem?_zip_eq_some]
    exact⟨q1,q2⟩
   rcases hc _ hz with h|⟨h,h'⟩
   ·exact .inl h
   ·exact .inr ⟨h,δ,(e',ty'),by simp,h'⟩
theorem Q3b{sk:List It}{r:RT}(s k:Nat)(l:List Nat){p D:PV}(h0:fr s=p)(h1:okDP fr k p)(h2:dsnP fr hp k p=D)(h3:rchP fr k p=l)(hv:vc C R (.o r::sk) (upd fr s D) (Qaf hp l)):vc C R (.o (.wk r)::sk) fr hp:=by
 subst h0
 subst h2
 subst h3
 exact Qkc (Qalr s k h1) hv
end Go.FW
namespace Go.FW
open Go
structure Qcy(hp:HP)(p:PV)(cs:List PV)(rs:List Nat):Prop where
 d:(Q8 hp p).isData=true
 c:(Q8 hp p).cells=cs
 r:p.refs=rs
 n:p.isNst=false
theorem Qcy.flat{hp:HP}{p:PV}(h:p.flat=true):Qcy hp p p.cells []:=by
 obtain⟨s1,s2,s3⟩:=Qey (hp:=hp) h
 exact⟨by rw[s1];exact s3,by rw[s1],s2,Qtn h⟩
theorem Qcy.own{hp:HP}{β m e ty:Nat}{xs:List PV}{fz:Bool}(hb:hp β=some ⟨e,ty,xs,fz⟩)(hm:m=xs.length)(hB:isB β=false:=by decide):Qcy hp (.ms β m) [.sl e xs] [β]:=by
 have s4:Q8 hp (.ms β m)= .sl e xs:=by simp[Q8,Qay,Qkx hB,hb,hm]
 exact⟨by rw[s4];rfl,by rw[s4];rfl,rfl,by simp[isB]at hB;simp[PV.isNst];omega⟩
theorem Q5l{fr:Fr}{hp:HP}{K:Qg}{z:List PV}{d o1 o2 o3 o4 n1 n2 n3 n4:Nat}{p1 p2 p3 p4:PV}{c1 c2 c3 c4:List PV}{r1 r2 r3 r4:List Nat}(h1:Qcy hp p1 c1 r1)(h2:Qcy hp p2 c2 r2)(h3:Qcy hp p3 c3 r3)(h4:Qcy hp p4 c4 r4):
  Qga z [(o1,n1,p1),(o2,n2,p2),(o3,n3,p3),(o4,n4,p4)] d fr hp K=((c1.length=n1/\o1+n1<=z.length)/\(c2.length=n2/\o2+n2<=z.length)/\(c3.length=n3/\o3+n3<=z.length)/\(c4.length=n4/\o4+n4<=z.length)/\K (upd fr d (.agg (Qc2 z [(o1,c1),(o2,c2),(o3,c3),(o4,c4)]))) (Qaf hp (r1++(r2++(r3++r4))))):=by
 unfold Qga Qqg Qyc
 rw[if_neg (by simp[h1.n,h2.n,h3.n,h4.n])]
 apply propext
 simp only[List.mem_cons,List.not_mem_nil,or_false,forall_eq_or_imp,forall_eq,h1.d,h2.d,h3.d,h4.d,h1.c,h2.c,h3.c,h4.c,h1.r,h2.r,h3.r,h4.r,true_and,List.map_cons,List.map_nil,List.flatMap_cons,List.flatMap_nil,List.append_nil,and_assoc]
theorem Qajr{fr:Fr}{hp:HP}{K:Qg}{ty i d:Nat}{fz:Bool}{l:List (List Tm)}(h:i<l.length):ldM (some ⟨1,ty,l.map PV.poly,fz⟩) 1 false i 0 d fr hp K=K (upd fr d (PV.poly (l[i]'h))) hp:=by
 have hi:i<(l.map PV.poly).length:=by simpa using h
 simp[ldM,h,ldV,PV.cells]
theorem Qajs{fr:Fr}{hp:HP}{ty β i:Nat}{v:List Tm}{l:List (List Tm)}{K:Qg}(h:i<l.length):stM (some ⟨1,ty,l.map PV.poly,false⟩) β 1 i 0 (PV.poly v) fr hp K=K fr (Qn hp β ⟨1,ty,(l.set i v).map PV.poly,false⟩):=by
 rw[Qpl (n:=1) (xs:=l.map PV.poly) (v:=PV.poly v) (by simpa using h) rfl rfl,List.map_set]
theorem Qaeq{fr:Fr}{hp:HP}{K:Qg}{e β m d ty:Nat}{xs:List PV}{fz:Bool}{k:IntKind}(hb:hp β=some ⟨e,ty,xs,fz⟩)(hm:0<m):Qeq e (.ms β m) (.int k 0) d fr hp K=K (upd fr d (.mp β 0 0)) hp:=by
 simp[Qeq,hb,hm]
end Go.FW
