/- Part 7 of the proof of IdealSound: G1, P8, U7, G2, U8, U10, G3, G4, G5, W1, W2, W3, W4, W5, W6, W7, W8, FwWF, FwNH, FwNI, FwNJ, FwWG. Own lemmas; no conditions. -/
import Derived.Test.YtonfajmchebkeaaGreatIdealSoundPart6
set_option linter.unusedSimpArgs false
set_option linter.unnecessarySimpa false
set_option linter.unusedVariables false
namespace Go.Proofs.YtonfajmchebkeaaGreat
open Go Go.FW
set_option linter.unusedSimpArgs false
set_option linter.unusedVariables false
set_option maxRecDepth 100000
def smK(t:RTm):Bool:=decide (t.m.length<=4)&&(decide (t.a.length<=2)&&(decide (t.d.length<=2)&&t.m.all fun x=>decide (x<=4)))
def Qhc(l:List RTm):Bool:=decide (l.length<=6)&&(l.all smK&&Qfl l)
theorem Qmw{l:List RTm}{k:Nat}(hb:∀t∈l,RB k t)(hk1:1<=k)(hk:k<2^36)(hll:l.length<2^40):
  Qd Tryz.prog 34 [PV.rpoly l] (· = .bool (Qhc l)):=by
 have bad:∀i (h:i<l.length),smK l[i]=false->Qhc l=false:=fun i hi h=>by
  have:l.all smK=false:=by
   rw[List.all_eq_false];exact⟨_,List.getElem_mem hi,by simp[h]⟩
  simp[Qhc,this]
 refine Qf Ql Tryz.func34 rfl Qal0 (by simp[c34]) fun C hP=> ?_;simp only[c34,Zo,Zg,Zm,Zc,Zf,Zl,Zh,Zs,Zi,Zb,Zk,Zn,Zu,Zq,Zr,Zz]
 simp+decide (disch:=first|exact D0|fail) only[go_sem,↓reduceIte]
 refine Qb (fun hn=> ?_) (fun hn=> ?_)
 ·simp+decide (disch:=first|exact D0|fail) only[go_sem,↓reduceIte]
  exact Qc (by simp[Qhc,show ¬l.length<=6 by omega]) rfl
 have hn':l.length<=6:=by omega
 simp+decide (disch:=first|exact D0|fail) only[go_sem,↓reduceIte]
 refine Qz (by repeat (first|exact Qv|exact Qo|exact Qp|exact Qq|exact Qr|apply Qn|apply Qu|apply Q3|apply Q9|apply Qaa|apply Qk|apply Q2)) [(2,4),(8,60)] [] (fun m J hp=>∃i,m=l.length-i/\i<=l.length/\(∀j (h:j<l.length),j<i->smK l[j]=true)/\J 3= .int .i64 (i:Nat)) l.length ?_ ?_
 ·refine⟨0,rfl,by omega,by omega,?_⟩
  simp+decide (disch:=first|exact D0|fail) only[go_sem,↓reduceIte]
  rfl
 rintro _ J h ⟨i,rfl,hi,h1,h9⟩
 simp+decide (disch:=first|exact D1 h9|fail) only[go_sem,↓reduceIte,h9]
 refine Qb (fun hg=> ?_) (fun hg=> ?_)
 ·have hi':i<l.length:=by omega
  have hbt:=hb _ (List.getElem_mem hi')
  have hbad:=bad i hi'
  have hml:=hbt.l
  have hadd:smK l[i]=true->∀j (h:j<l.length),j<i+1->smK l[j]=true:=fun h j hj hji=>by
   by_cases e:j=i
   ·subst e;exact h
   ·exact h1 j hj (by omega)
  generalize hx:l[i]=x at *
  simp+decide (disch:=first|exact D2 h9 hx|fail) only[go_sem,↓reduceIte,h9,hx]
  refine Qaf (fun h2=> ?_) (fun h2=> ?_)
  ·simp+decide (disch:=first|exact D2 h9 hx|fail) only[go_sem,↓reduceIte,h9,hx]
   exact Qc (by rw[hbad (by simp[smK,show ¬x.m.length<=4 by omega])]) rfl
  simp+decide (disch:=first|exact D2 h9 hx|fail) only[go_sem,↓reduceIte,h9,hx]
  refine Qaf (fun h3=> ?_) (fun h3=> ?_)
  ·simp+decide (disch:=first|exact D2 h9 hx|fail) only[go_sem,↓reduceIte,h9,hx]
   exact Qc (by rw[hbad (by simp[smK,show ¬x.a.length<=2 by omega])]) rfl
  simp+decide (disch:=first|exact D2 h9 hx|fail) only[go_sem,↓reduceIte,h9,hx]
  refine Qb (fun h4=> ?_) (fun h4=> ?_)
  ·simp+decide (disch:=first|exact D2 h9 hx|fail) only[go_sem,↓reduceIte,h9,hx]
   exact Qc (by rw[hbad (by simp[smK,show ¬x.d.length<=2 by omega])]) rfl
  simp+decide (disch:=first|exact D2 h9 hx|fail) only[go_sem,↓reduceIte,h9,hx]
  refine Qz (by repeat (first|exact Qv|exact Qo|exact Qp|exact Qq|exact Qr|apply Qn|apply Qu|apply Q3|apply Q9|apply Qaa|apply Qk|apply Q2)) [(2,2),(4,4),(42,60)] [] (fun m J hp=>∃j,m=x.m.length-j/\j<=x.m.length/\(∀y∈x.m.take j,y<=4)/\J 4= .int .i64 (j:Nat)) x.m.length ?_ ?_
  ·refine⟨0,rfl,by omega,by simp,?_⟩
   simp+decide (disch:=first|exact D0|fail) only[go_sem,↓reduceIte]
   rfl
  rintro _ J2 h2' ⟨j,rfl,hj,h5,h10⟩
  simp+decide (disch:=first|exact D3 h9 h10 hx|fail) only[go_sem,↓reduceIte,h9,h10,hx]
  refine Qb (fun hg2=> ?_) (fun hg2=> ?_)
  ·have hj':j<x.m.length:=by omega
   have hmem:=List.getElem_mem hj'
   have htk:x.m.take (j+1)=x.m.take j++[x.m[j]]:=List.take_succ_eq_append_getElem hj'
   generalize hy:x.m[j]=y at *
   simp+decide (disch:=first|exact D4 h9 h10 hx hy|fail) only[go_sem,↓reduceIte,h9,h10,hx,hy]
   refine Qb (fun h6=> ?_) (fun h6=> ?_)
   ·simp+decide (disch:=first|exact D3 h9 h10 hx|fail) only[go_sem,↓reduceIte,h9,h10,hx]
    refine Qc ?_ rfl
    rw[hbad]
    have:(x.m.all fun x=>decide (x<=4))=false:=by
     rw[List.all_eq_false];exact⟨y,hmem,by simp;omega⟩
    simp[smK,this]
   ·simp+decide (disch:=first|exact D3 h9 h10 hx|fail) only[go_sem,↓reduceIte,h9,h10,hx]
    refine Qh (x.m.length-(j+1)) (by omega) ⟨j+1,rfl,by omega,?_,?_⟩
    ·rw[htk]
     intro z hz
     rcases List.mem_append.1 hz with hz|hz
     ·exact h5 z hz
     ·simp at hz;omega
    ·simp+decide (disch:=first|exact D0|fail) only[go_sem,↓reduceIte]
  ·rw[List.take_of_length_le (by omega)]at h5
   have hsm:smK x=true:=by
    simp only[smK,Bool.and_eq_true,decide_eq_true_eq,List.all_eq_true]
    exact⟨by omega,by omega,by omega,h5⟩
   simp+decide (disch:=first|exact D2 h9 h10|fail) only[go_sem,↓reduceIte,h9,h10]
   simp (disch:=decide) only[Qca,Qhg]
   refine Qh (l.length-(i+1)) (by omega) ⟨i+1,rfl,by omega,hadd hsm,?_⟩
   simp+decide (disch:=first|exact D0|fail) only[go_sem,↓reduceIte]
 ·obtain rfl:i=l.length:=by omega
  have hall:l.all smK=true:=by
   rw[List.all_eq_true]
   intro t ht
   obtain⟨j,hj,rfl⟩:=List.getElem_of_mem ht
   exact h1 j hj hj
  simp+decide (disch:=first|exact D0|fail) only[go_sem,↓reduceIte]
  refine Qa hP (Qzw hb hk1 hk hll) rfl rfl rfl ?_
  simp+decide (disch:=first|exact D0|fail) only[go_sem,↓reduceIte]
  exact Qc (by simp[Qhc,hn',hall]) rfl
def Qk6(ls:List (List RTm)):Bool:=decide (ls.length<=4)&&ls.all Qhc
theorem Qim{ls:List (List RTm)}{k:Nat}(hb:∀l∈ls,(∀t∈l,RB k t)/\l.length<2^40)(hk1:1<=k)(hk:k<2^36)(hll:ls.length<2^40):
  Qd Tryz.prog 28 [.sl 1 (ls.map PV.rpoly)] (· = .bool (Qk6 ls)):=by
 refine Qf Ql Tryz.func28 rfl Qal1 (by simp[c28]) fun C hP=> ?_;simp only[c28,Zo,Zg,Zm,Zc,Zf,Zl,Zh,Zs,Zi,Zb,Zk,Zn,Zu,Zq,Zr,Zz]
 simp+decide (disch:=first|exact D0|fail) only[go_sem,↓reduceIte]
 refine Qb (fun hn=> ?_) (fun hn=> ?_)
 ·simp+decide (disch:=first|exact D0|fail) only[go_sem,↓reduceIte]
  exact Qc (by simp[Qk6,show ¬ls.length<=4 by omega]) rfl
 have hn':ls.length<=4:=by omega
 simp+decide (disch:=first|exact D0|fail) only[go_sem,↓reduceIte]
 refine Qz (by repeat (first|exact Qv|exact Qo|exact Qp|exact Qq|exact Qr|apply Qn|apply Qu|apply Q3|apply Q9|apply Qaa|apply Qk|apply Q2)) [(2,3),(7,18)] [] (fun m J hp=>∃i,m=ls.length-i/\i<=ls.length/\(∀j (h:j<ls.length),j<i->Qhc ls[j]=true)/\J 3= .int .i64 (i:Nat)) ls.length ?_ ?_
 ·refine⟨0,rfl,by omega,by omega,?_⟩
  simp+decide (disch:=first|exact D0|fail) only[go_sem,↓reduceIte]
  rfl
 rintro _ J h ⟨i,rfl,hi,h1,h3⟩
 simp+decide (disch:=first|exact D1 h3|fail) only[go_sem,↓reduceIte,h3]
 refine Qb (fun hg=> ?_) (fun hg=> ?_)
 ·have hi':i<ls.length:=by omega
  have hbt:=hb _ (List.getElem_mem hi')
  have hmem:=List.getElem_mem hi'
  have hadd:Qhc ls[i]=true->∀j (h:j<ls.length),j<i+1->Qhc ls[j]=true:=fun h j hj hji=>by
   by_cases e:j=i
   ·subst e;exact h
   ·exact h1 j hj (by omega)
  generalize hx:ls[i]=x at *
  simp+decide (disch:=first|exact D2 h3 hx|fail) only[go_sem,↓reduceIte,h3,hx]
  refine Qa hP (Qmw hbt.1 hk1 hk hbt.2) rfl rfl rfl ?_
  simp+decide (disch:=first|exact D1 h3|fail) only[go_sem,↓reduceIte,h3]
  cases hs:Qhc x
  ·simp+decide (disch:=first|exact D2 h3 hs|fail) only[go_sem,↓reduceIte,h3,hs]
   refine Qc ?_ rfl
   have:ls.all Qhc=false:=by
    rw[List.all_eq_false];exact⟨x,hmem,by simp[hs]⟩
   simp[Qk6,this]
  ·simp+decide (disch:=first|exact D2 h3 hs|fail) only[go_sem,↓reduceIte,h3,hs]
   refine Qh (ls.length-(i+1)) (by omega) ⟨i+1,rfl,by omega,hadd hs,?_⟩
   simp+decide (disch:=first|exact D0|fail) only[go_sem,↓reduceIte]
 ·obtain rfl:i=ls.length:=by omega
  simp+decide (disch:=first|exact D0|fail) only[go_sem,↓reduceIte]
  refine Qc ?_ rfl
  have:ls.all Qhc=true:=by
   rw[List.all_eq_true]
   intro t ht
   obtain⟨j,hj,rfl⟩:=List.getElem_of_mem ht
   exact h1 j hj hj
  simp[Qk6,this,hn']
structure Qiy where
 fs:List (List RTm)
 ps:List Int
 n:Int
 cs:List (List RTm)
abbrev PV.rcert(c:Qiy):PV:= .agg [.sl 1 (c.fs.map PV.rpoly),PV.mono c.ps,.int .i64 c.n,.sl 1 (c.cs.map PV.rpoly)]
structure RC(k:Nat)(c:Qiy):Prop where
 f:∀l∈c.fs,(∀t∈l,RB k t)/\l.length<2^40
 g:∀l∈c.cs,(∀t∈l,RB k t)/\l.length<2^40
 fl:c.fs.length<2^40
 cl:c.cs.length<2^40
 pl:c.ps.length<2^40
def Qse(c:Qiy):Bool:=Qk6 c.fs&&(Qk6 c.cs&&decide (c.ps.length<=6))
theorem Q4t{c:Qiy}{k:Nat}(hb:RC k c)(hk1:1<=k)(hk:k<2^36):Qd Tryz.prog 33 [PV.rcert c] (· = .bool (Qse c)):=by
 have h1:=Qim hb.f hk1 hk hb.fl
 have h2:=Qim hb.g hk1 hk hb.cl
 have h3:=hb.pl
 refine Qf Ql Tryz.func33 rfl Qal2 (by simp[c33]) fun C hP=> ?_;simp only[c33,Zo,Zg,Zm,Zc,Zf,Zl,Zh,Zs,Zi,Zb,Zk,Zn,Zu,Zq,Zr,Zz]
 simp+decide (disch:=first|exact D0|fail) only[go_sem,↓reduceIte]
 refine Qa hP h1 rfl rfl rfl ?_
 cases e1:Qk6 c.fs
 ·simp+decide (disch:=first|exact D0|fail) only[go_sem,↓reduceIte]
  exact Qc (by simp[Qse,e1]) rfl
 simp+decide (disch:=first|exact D0|fail) only[go_sem,↓reduceIte]
 refine Qa hP h2 rfl rfl rfl ?_
 cases e2:Qk6 c.cs
 ·simp+decide (disch:=first|exact D0|fail) only[go_sem,↓reduceIte]
  exact Qc (by simp[Qse,e2]) rfl
 simp+decide (disch:=first|exact D0|fail) only[go_sem,↓reduceIte]
 exact Qc (by simp only[Qse,e1,e2,Bool.true_and];exact congrArg PV.bool (decide_eq_decide.2 ⟨fun h=>by omega,fun h=>by omega⟩)) rfl
end Go.Proofs.YtonfajmchebkeaaGreat
namespace Go.Proofs.YtonfajmchebkeaaGreat
open Go Go.FW
set_option linter.unusedSimpArgs false
set_option linter.unusedVariables false
set_option maxRecDepth 100000
theorem Q79{a:Rat}{k:Nat}(h:rs a<=k)(hk:k<2^36):Qd Tryz.prog 77 [PV.rat a] (· =PV.poly (Qbj a)):=by
 have:=Qzu (Qck h) hk
 rwa[Qc7]at this
end Go.Proofs.YtonfajmchebkeaaGreat
namespace Go.Proofs.YtonfajmchebkeaaGreat
open Go Go.FW
set_option linter.unusedSimpArgs false
set_option linter.unusedVariables false
set_option maxRecDepth 100000
theorem Qrm{p:List Tm}{n:Bool}{a d:List Nat}{m:List Int}{K E k:Nat}(hp:PB K E p)(hs:Qbf p)(hnz:NZ p)(hr:Raw k n a d)(hk:k<=2^32)(hm:MB E m)(hl:m.getLast? ≠some 0)(hK:K<=2^32)(hE:E<=2^38)(hlp:p.length<=2^36):
  Qd Tryz.prog 104 [PV.poly p,PV.rr n a d,PV.mono m] (· =PV.poly (Qh2 p (rv n a d) m)):=by
 have hrr:=hr.rs
 refine Qf Ql Tryz.func104 rfl Qahh (by simp[c104]) fun C hP=> ?_;simp only[c104,Zo,Zg,Zm,Zc,Zf,Zl,Zh,Zs,Zi,Zb,Zk,Zn,Zu,Zq,Zr,Zz]
 simp+decide (disch:=first|exact D0|fail) only[go_sem,↓reduceIte]
 refine Qz (by repeat (first|exact Qv|exact Qo|exact Qp|exact Qq|exact Qr|apply Qn|apply Qu|apply Q3|apply Q9|apply Qaa|apply Qk|apply Q2)) [(7,7),(12,26)] [] (fun k J hp=>k<=p.length/\(∀t∈p.drop k,Qah t.2 m<0)/\J 7= .int .i64 (k:Nat)/\hp 4=some ⟨3,32,[PV.rr n a d],false⟩) p.length ?_ ?_
 ·refine⟨by omega,by simp,?_⟩
  simp+decide (disch:=first|exact D0|fail) only[go_sem,↓reduceIte]
 rintro j J h ⟨hj,hd,h7,hh4⟩
 simp+decide (disch:=first|exact D1 h7|fail) only[go_sem,↓reduceIte,h7]
 refine Qaj (fun hg=> ?_) (fun hg=> ?_)
 ·obtain⟨i,rfl⟩:∃i,j=i+1:=⟨j-1,by omega⟩
  have e:((i+1:Nat):Int)-1=i:=by omega
  have hi:i<p.length:=by omega
  have htp:=hp.get hi
  have hdr:p.drop i=p[i]::p.drop (i+1):=List.drop_eq_getElem_cons hi
  have htk:p.take (i+1)=p.take i++[p[i]]:=List.take_succ_eq_append_getElem hi
  have hts:=Qzg hs hi
  have hall:p=p.take i++p[i]::p.drop (i+1):=by rw[<-hdr,List.take_append_drop]
  have c1:=htp.c
  generalize hx:p[i]=x at *
  simp+decide (disch:=first|exact D3 h7 e hx|fail) only[go_sem,↓reduceIte,h7,e,hx]
  refine Qa hP (Qpk htp.m hm (by omega)) rfl rfl rfl ?_
  simp+decide (disch:=first|exact D3 h7 e hx|fail) only[go_sem,↓reduceIte,h7,e,hx]
  refine Qb (fun hc=> ?_) (fun hc=> ?_)
  ·simp+decide (disch:=first|exact D3 h7 e hx|fail) only[go_sem,↓reduceIte,h7,e,hx]
   refine Qh i (by omega) ⟨by omega,?_,?_⟩
   ·rw[hdr]
    intro t ht
    rcases List.mem_cons.1 ht with rfl|ht
    ·exact hc
    ·exact hd t ht
   ·simp+decide (disch:=first|exact D1 hh4|fail) only[go_sem,↓reduceIte,hh4]
  ·simp+decide (disch:=first|exact D3 h7 e hx|fail) only[go_sem,↓reduceIte,h7,e,hx]
   refine Qaj (fun _=> ?_) (fun h=>by omega)
   simp+decide (disch:=first|exact D3 h7 e hx|fail) only[go_sem,↓reduceIte,h7,e,hx]
   refine Qa hP (Qpk htp.m hm (by omega)) rfl rfl rfl ?_
   simp+decide (disch:=first|exact D3 h7 e hx|fail) only[go_sem,↓reduceIte,h7,e,hx]
   refine Qb (fun hc2=> ?_) (fun hc2=> ?_)
   ·have hxm:x.2=m:=(Qqi htp.l hl).1 hc2
    have hx0:=hnz _ (List.getElem_mem hi)
    rw[hx]at hx0
    have hfin:Qh2 p (rv n a d) m=p.take i++(if x.1+rv n a d=0 then []else [(x.1+rv n a d,m)])++p.drop (i+1):=by
     have hall':p=p.take i++(x.1,m)::p.drop (i+1):=by rw[<-hxm];exact hall
     rw[Qh2]
     split
     ·rename_i h0
      have e0:x.1+0=x.1:=Rat.add_zero _
      rw[h0,Qb6,e0,if_neg hx0]
      simpa using hall'
     ·conv=>lhs;rw[hall']
      exact Q17 (fun t ht=>by rw[<-hxm];exact hts t ht)
    have htl:(p.take i).length<=p.length:=List.length_take_le' _ _
    have hdl:(p.drop (i+1)).length<=p.length:=by rw[List.length_drop];omega
    have hra:=Qmn x.1 (rv n a d)
    have hxr:=Qck (q:=x.1) (k:=2^32) (by omega)
    have hadd:=Qre (k:=2^32) hxr (show Raw (2^32) n a d from⟨hr.la,hr.ld,by have:=hr.sa;omega,by have:=hr.sd;omega,by omega⟩) (by omega)
    rw[Qc7]at hadd
    simp+decide (disch:=first|exact D4 h7 e hx hh4|fail) only[go_sem,↓reduceIte,h7,e,hx,hh4]
    refine Qfi ?_ ?_
    all_goals
     simp+decide (disch:=first|exact D4 h7 e hx hh4|fail) only[go_sem,↓reduceIte,h7,e,hx,hh4]
     refine Qa hP hadd rfl rfl rfl ?_
     simp+decide (disch:=first|exact D4 h7 e hx hh4|fail) only[go_sem,↓reduceIte,h7,e,hx,hh4]
     refine Qa hP (Qlt (a:=x.1+rv n a d) (by omega)) rfl rfl rfl ?_
     simp+decide (disch:=first|exact D4 h7 e hx hh4|fail) only[go_sem,↓reduceIte,h7,e,hx,hh4]
     refine Qb (fun hz=> ?_) (fun hz=> ?_)
     ·rw[if_neg (fun h=>hz (Qbc.2 h))]at hfin
      simp+decide (disch:=first|exact D4 h7 e hx hh4|fail) only[go_sem,↓reduceIte,h7,e,hx,hh4]
      rw[Qam (f:=PV.term) (y:=(x.1+rv n a d,m)) (xs:=p.take i) (ty':=127) (fz:=false) T0 Tr0 (by omega) rfl (by omega) (by omega)]
      simp+decide (disch:=first|exact D4 h7 e hx hh4|fail) only[go_sem,↓reduceIte,h7,e,hx,hh4]
      rw[Qc5 (f:=PV.term) (xs:=p.take i++[(x.1+rv n a d,m)]) (ys:=p.drop (i+1)) T0 (by simp<;>omega) (by omega) (by omega) (by omega)]
      simp+decide (disch:=first|exact E0|fail) only[go_sem,↓reduceIte,Q6,List.contains_cons,List.contains_nil,List.flatMap_cons,List.flatMap_nil,List.append_nil]
      refine Qc ?_ rfl
      rw[List.take_of_length_le (by simp<;>omega),hfin]
     ·rw[if_pos (Qbc.1 (Decidable.not_not.1 hz)),List.append_nil]at hfin
      simp+decide (disch:=first|exact D4 h7 e hx hh4|fail) only[go_sem,↓reduceIte,h7,e,hx,hh4]
      rw[Qc5 (f:=PV.term) (xs:=p.take i) (ys:=p.drop (i+1)) T0 (by simp<;>omega) (by omega) (by omega) (by omega)]
      simp+decide (disch:=first|exact E0|fail) only[go_sem,↓reduceIte,Q6,List.contains_cons,List.contains_nil,List.flatMap_cons,List.flatMap_nil,List.append_nil]
      refine Qc ?_ rfl
      rw[List.take_of_length_le (by simp<;>omega),hfin]
   ·have hgt:Qx p [(rv n a d,m)]=p.take (i+1)++(rv n a d,m)::p.drop (i+1):=by
     have:=Qu5 (m:=m) (c:=rv n a d) (u:=p.take (i+1)) (v:=p.drop (i+1)) (fun t ht=>by
      rw[htk]at ht
      rcases List.mem_append.1 ht with ht|ht
      ·exact Qc6 (hts t ht) (by omega)
      ·simp only[List.mem_singleton]at ht;subst ht;omega) hd
     rwa[List.take_append_drop]at this
    have htl:(p.take (i+1)).length<=p.length:=List.length_take_le' _ _
    have hdl:(p.drop (i+1)).length<=p.length:=by rw[List.length_drop];omega
    simp+decide (disch:=first|exact D2 h7 hh4|fail) only[go_sem,↓reduceIte,h7,hh4]
    refine Qa hP (Qh5 hr (by omega)) rfl rfl rfl ?_
    simp+decide (disch:=first|exact D2 h7 hh4|fail) only[go_sem,↓reduceIte,h7,hh4]
    refine Qb (fun hz=> ?_) (fun hz=> ?_)
    ·have hz':¬rv n a d=0:=fun h=>hz (Qbc.2 h)
     simp+decide (disch:=first|exact D2 h7 hh4|fail) only[go_sem,↓reduceIte,h7,hh4]
     refine Qa hP (Qd6 hr (by omega)) rfl rfl rfl ?_
     simp+decide (disch:=first|exact D2 h7 hh4|fail) only[go_sem,↓reduceIte,h7,hh4]
     rw[Qam (f:=PV.term) (y:=(rv n a d,m)) (xs:=p.take (i+1)) (ty':=127) (fz:=false) T0 Tr0 (by omega) rfl (by omega) (by omega)]
     simp+decide (disch:=first|exact D2 h7 hh4|fail) only[go_sem,↓reduceIte,h7,hh4]
     rw[Qc5 (f:=PV.term) (xs:=p.take (i+1)++[(rv n a d,m)]) (ys:=p.drop (i+1)) T0 (by simp<;>omega) (by omega) (by omega) (by omega)]
     simp+decide (disch:=first|exact E0|fail) only[go_sem,↓reduceIte,Q6,List.contains_cons,List.contains_nil,List.flatMap_cons,List.flatMap_nil,List.append_nil]
     refine Qc ?_ rfl
     rw[List.take_of_length_le (by simp<;>omega),Qh2,if_neg hz',hgt]
     simp
    ·have hz':rv n a d=0:=Qbc.1 (Decidable.not_not.1 hz)
     simp+decide (disch:=first|exact D2 h7 hh4|fail) only[go_sem,↓reduceIte,h7,hh4]
     rw[Qc5 (f:=PV.term) (xs:=p.take (i+1)) (ys:=p.drop (i+1)) T0 (by simp<;>omega) (by omega) (by omega) (by omega)]
     simp+decide (disch:=first|exact E0|fail) only[go_sem,↓reduceIte,Q6,List.contains_cons,List.contains_nil,List.flatMap_cons,List.flatMap_nil,List.append_nil]
     refine Qc ?_ rfl
     rw[List.take_of_length_le (by simp<;>omega),Qh2,if_pos hz',Qb6,List.take_append_drop]
 ·obtain rfl:j=0:=by omega
  have hgt:Qx p [(rv n a d,m)]=[]++(rv n a d,m)::p:=Qu5 (m:=m) (c:=rv n a d) (u:=[]) (v:=p) (by simp) (by simpa using hd)
  simp+decide (disch:=first|exact D1 h7|fail) only[go_sem,↓reduceIte,h7]
  rw[Q0z (by omega)]
  simp+decide (disch:=first|exact D2 h7 hh4|fail) only[go_sem,↓reduceIte,h7,hh4]
  refine Qa hP (Qh5 hr (by omega)) rfl rfl rfl ?_
  simp+decide (disch:=first|exact D2 h7 hh4|fail) only[go_sem,↓reduceIte,h7,hh4]
  refine Qb (fun hz=> ?_) (fun hz=> ?_)
  ·have hz':¬rv n a d=0:=fun h=>hz (Qbc.2 h)
   simp+decide (disch:=first|exact D2 h7 hh4|fail) only[go_sem,↓reduceIte,h7,hh4]
   refine Qa hP (Qd6 hr (by omega)) rfl rfl rfl ?_
   simp+decide (disch:=first|exact D2 h7 hh4|fail) only[go_sem,↓reduceIte,h7,hh4]
   rw[Qam (f:=PV.term) (y:=(rv n a d,m)) (xs:=([]:List Tm)) (ty':=127) (fz:=false) T0 Tr0 (by omega) (n:=0) rfl (by omega) (by omega)]
   simp+decide (disch:=first|exact D2 h7 hh4|fail) only[go_sem,↓reduceIte,h7,hh4]
   rw[Qc5 (f:=PV.term) (xs:=([]:List Tm)++[(rv n a d,m)]) (ys:=p) T0 (by simp<;>omega) (by omega) (by omega) (by omega)]
   simp+decide (disch:=first|exact E0|fail) only[go_sem,↓reduceIte,Q6,List.contains_cons,List.contains_nil,List.flatMap_cons,List.flatMap_nil,List.append_nil]
   refine Qc ?_ rfl
   rw[List.take_of_length_le (by simp<;>omega),Qh2,if_neg hz',hgt]
   simp
  ·have hz':rv n a d=0:=Qbc.1 (Decidable.not_not.1 hz)
   simp+decide (disch:=first|exact D2 h7 hh4|fail) only[go_sem,↓reduceIte,h7,hh4]
   rw[Qc5 (f:=PV.term) (xs:=([]:List Tm)) (ys:=p) T0 (by simp<;>omega) (by omega) (by omega) (by omega)]
   simp+decide (disch:=first|exact E0|fail) only[go_sem,↓reduceIte,Q6,List.contains_cons,List.contains_nil,List.flatMap_cons,List.flatMap_nil,List.append_nil]
   refine Qc ?_ rfl
   rw[List.take_of_length_le (by simp<;>omega),Qh2,if_pos hz',Qb6]
end Go.Proofs.YtonfajmchebkeaaGreat
namespace Go.Proofs.YtonfajmchebkeaaGreat
open Go Go.FW
set_option linter.unusedSimpArgs false
set_option linter.unusedVariables false
set_option maxRecDepth 100000
theorem Qvi{a b c d:Nat}(h:a<=c)(h2:b<=d):a*b<=c*d:=Nat.mul_le_mul h h2
theorem Qpv{p q:List Tm}{n m:Nat}(hp:Prd m p)(hq:Sml q)(hn:n<=64)(hm:m<=512):Qd Tryz.prog 79 [PV.poly p,PV.poly q,.int .i64 n] (· =PV.pe (Qk5 q p n)):=by
 have hql:=hq.l
 have bq:=hq.PB.mono (K':=2^18) (E':=2^17) (by omega) (by omega)
 refine Qf Ql Tryz.func79 rfl Qal3 (by simp[c79]) fun C hP=> ?_;simp only[c79,Zo,Zg,Zm,Zc,Zf,Zl,Zh,Zs,Zi,Zb,Zk,Zn,Zu,Zq,Zr,Zz]
 simp+decide (disch:=first|exact D0|fail) only[go_sem,↓reduceIte]
 refine Qz (by repeat (first|exact Qv|exact Qo|exact Qp|exact Qq|exact Qr|apply Qn|apply Qu|apply Q3|apply Q9|apply Qaa|apply Qk|apply Q2)) [(0,0),(6,7),(9,17)] [] (fun r J hp=>∃k P,r=n-k/\k<=n/\Prd (m+k) P/\Qci q (n-k) P=Qci q n p/\J 0=PV.poly P/\J 9= .int .i64 (k:Nat)) n ?_ ?_
 ·refine⟨0,p,rfl,by omega,hp,rfl,?_⟩
  simp+decide (disch:=first|exact D0|fail) only[go_sem,↓reduceIte]
  rfl
 rintro _ J h ⟨k,P,rfl,hk,hP2,hgo,h0,h9⟩
 simp+decide (disch:=first|exact D1 h9|fail) only[go_sem,↓reduceIte,h9]
 refine Qb (fun hg=> ?_) (fun hg=> ?_)
 ·have hk':k<n:=by omega
  have bP:=hP2.PB (by omega)
  have lP:=hP2.l
  have hst:=Qz8 (q:=q) (P:=P) hk'
  have m1:=Qvi lP hql
  have m2:min P.length q.length*(2^18+2^18)<=64*(2^18+2^18):=Nat.mul_le_mul_right _ (by omega)
  have hnx:=hP2.mul hq
  simp+decide (disch:=first|exact D2 h0 h9|fail) only[go_sem,↓reduceIte,h0,h9]
  refine Qa hP (Qj4 bP bq (by omega) (by omega) (by omega) (by omega) (by omega) (by omega)) rfl rfl rfl ?_
  generalize Qad P q=P' at *
  simp+decide (disch:=first|exact D2 h0 h9|fail) only[go_sem,↓reduceIte,h0,h9]
  refine Qb (fun hc=> ?_) (fun hc=> ?_)
  ·simp+decide (disch:=first|exact D0|fail) only[go_sem,↓reduceIte]
   refine Qct (r:=PV.pe (Qk5 q p n)) ?_ rfl rfl Qfk (Qy _)
   unfold Qk5
   rw[<-hgo,hst,if_pos (by omega)];rfl
  ·simp+decide (disch:=first|exact D2 h0 h9|fail) only[go_sem,↓reduceIte,h0,h9]
   rw[if_neg (by omega)]at hst
   refine Qh (n-(k+1)) (by omega) ⟨k+1,P',rfl,by omega,hnx (by omega),by rw[<-hgo,hst],?_⟩
   simp+decide (disch:=first|exact D0|fail) only[go_sem,↓reduceIte]
 ·obtain rfl:k=n:=by omega
  simp+decide (disch:=first|exact D1 h0|fail) only[go_sem,↓reduceIte,h0]
  refine Qct (r:=PV.pe (Qk5 q p k)) ?_ rfl rfl (Qy _) (Qy _)
  unfold Qk5
  rw[<-hgo,Nat.sub_self];rfl
theorem Qmx{cs ls:List (List Tm)}(h1:∀c∈cs,Big c)(h2:∀c∈ls,Sml c)(hl:cs.length<=8)(hll:ls.length<2^40):Qd Tryz.prog 45 [PV.polys cs,PV.polys ls] (· =PV.pe (Qcg cs ls)):=by
 refine Qf Ql Tryz.func45 rfl Qal4 (by simp[c45]) fun C hP=> ?_;simp only[c45,Zo,Zg,Zm,Zc,Zf,Zl,Zh,Zs,Zi,Zb,Zk,Zn,Zu,Zq,Zr,Zz]
 simp+decide (disch:=first|exact D0|fail) only[go_sem,↓reduceIte]
 refine Qb (fun hne=> ?_) (fun hne=> ?_)
 ·simp+decide (disch:=first|exact D0|fail) only[go_sem,↓reduceIte]
  refine Qct (r:=PV.pe (Qcg cs ls)) ?_ rfl rfl Qfk (Qy _)
  unfold Qcg
  rw[if_neg (by omega)]
 have he:cs.length=ls.length:=by omega
 have hzl:(cs.zip ls).length=ls.length:=by rw[List.length_zip];omega
 have hcr:Qcg cs ls=Qg9 (Qgc (cs.zip ls) []):=by unfold Qcg;rw[if_pos he]
 simp+decide (disch:=first|exact D0|fail) only[go_sem,↓reduceIte]
 refine Qkc 6 4 T0 ?_
 refine Qz (by repeat (first|exact Qv|exact Qo|exact Qp|exact Qq|exact Qr|apply Qn|apply Qu|apply Q3|apply Q9|apply Qaa|apply Qk|apply Q2)) [(4,7),(15,32)] [] (fun r J hp=>∃i,r=ls.length-i/\i<=ls.length/\(Qce (cs.zip ls) i).length<=4000/\Qgc ((cs.zip ls).drop i) (Qce (cs.zip ls) i)=Qgc (cs.zip ls) []/\J 6=PV.poly (Qce (cs.zip ls) i)/\J 15= .int .i64 (i:Nat)) ls.length ?_ ?_
 ·refine⟨0,rfl,by omega,by simp[Qce],rfl,?_⟩
  simp+decide (disch:=first|exact D0|fail) only[go_sem,↓reduceIte]
  exact⟨rfl,rfl⟩
 rintro _ J h ⟨i,rfl,hi,hlen,hgo,h6,h15⟩
 simp+decide (disch:=first|exact D1 h15|fail) only[go_sem,↓reduceIte,h15]
 refine Qb (fun hg=> ?_) (fun hg=> ?_)
 ·have hi':i<ls.length:=by omega
  have hic:i<cs.length:=by omega
  have hst:=Qrk (l:=cs.zip ls) (i:=i) (by omega)
  have hs:=Qh6 (l:=cs.zip ls) (i:=i) (by omega)
  rw[Qaiy he hic]at hs
  obtain⟨b1,n1⟩:=Q2n h1 h2 hl (i:=i) (by omega)
  have c1:=h1 _ (List.getElem_mem hic)
  have c2:=h2 _ (List.getElem_mem hi')
  have b2:=c1.PB
  have b3:=c2.PB.mono (K':=2^23) (E':=2^14) (by omega) (by omega)
  have l2:=c1.l
  have l3:=c2.l
  simp only at hs
  rw[<-hgo]
  have m1:=Qvi l2 l3
  have m2:min (cs[i]).length (ls[i]).length*(2^23+2^23)<=64*(2^23+2^23):=Nat.mul_le_mul_right _ (by omega)
  generalize hx:cs[i]=x at *
  generalize hy:ls[i]=y at *
  have bm:=Qth b2 b3
  have bmin:min x.length y.length*(2^23+2^23)<=2^31:=by omega
  have b4:=bm.1.mono (K':=2^31) (E':=2^15) bmin (by omega)
  have l4:=bm.2
  have hmm:=Qj4 b2 b3 (by omega) (by omega) (by omega) (by omega) (by omega) (by omega)
  generalize Qad x y=z at *
  have b5:=b1.mono (K':=2^31) (E':=2^15) (by omega) (by omega)
  generalize hS:Qce (cs.zip ls) i=s at *
  generalize hS':Qce (cs.zip ls) (i+1)=s' at *
  simp+decide (disch:=first|exact D4 h6 h15 hx hy|fail) only[go_sem,↓reduceIte,h6,h15,hx,hy]
  refine Qa hP hmm rfl rfl rfl ?_
  simp+decide (disch:=first|exact D2 h6 h15|fail) only[go_sem,↓reduceIte,h6,h15]
  refine Qa hP (Qog b5 b4 (by omega) (by omega) (by omega) (by omega)) rfl rfl rfl ?_
  rw[<-hs]
  simp+decide (disch:=first|exact D2 h6 h15|fail) only[go_sem,↓reduceIte,h6,h15]
  refine Qb (fun hc=> ?_) (fun hc=> ?_)
  ·simp+decide (disch:=first|exact D0|fail) only[go_sem,↓reduceIte]
   refine Qct (r:=PV.pe (Qcg cs ls)) ?_ rfl rfl Qfk (Qy _)
   rw[hcr,<-hgo,hst,if_pos (by omega)];rfl
  ·simp+decide (disch:=first|exact D2 h6 h15|fail) only[go_sem,↓reduceIte,h6,h15]
   rw[if_neg (by omega)]at hst
   refine Qh (ls.length-(i+1)) (by omega) ⟨i+1,rfl,by omega,?_⟩
   rw[hS']
   refine⟨by omega,by rw[<-hst,hgo],?_⟩
   simp+decide (disch:=first|exact D0|fail) only[go_sem,↓reduceIte]
 ·obtain rfl:i=ls.length:=by omega
  simp+decide (disch:=first|exact D1 h6|fail) only[go_sem,↓reduceIte,h6]
  refine Qct (r:=PV.pe (Qcg cs ls)) ?_ rfl rfl (Qy _) (Qy _)
  rw[hcr,<-hgo,List.drop_of_length_le (by omega)];rfl
theorem Qaeh:Qd Tryz.prog 78 [.int .i64 1] (· =PV.rat 1):=Qpj (by omega) (by omega)
theorem Qmy{fs:List (List Tm)}{ps:List Int}(h1:∀c∈fs,Sml c)(hl:fs.length<=8)(hpl:ps.length<2^40):Qd Tryz.prog 31 [PV.polys fs,PV.mono ps] (· =PV.pe (Qc4 fs ps)):=by
 have hone:=Qr1
 refine Qf Ql Tryz.func31 rfl Qal5 (by simp[c31]) fun C hP=> ?_;simp only[c31,Zo,Zg,Zm,Zc,Zf,Zl,Zh,Zs,Zi,Zb,Zk,Zn,Zu,Zq,Zr,Zz]
 simp+decide (disch:=first|exact D0|fail) only[go_sem,↓reduceIte]
 refine Qb (fun hne=> ?_) (fun hne=> ?_)
 ·simp+decide (disch:=first|exact D0|fail) only[go_sem,↓reduceIte]
  refine Qct (r:=PV.pe (Qc4 fs ps)) ?_ rfl rfl Qfk (Qy _)
  unfold Qc4
  rw[if_neg (by omega)]
 have he:fs.length=ps.length:=by omega
 simp+decide (disch:=first|exact D0|fail) only[go_sem,↓reduceIte]
 refine Qz (by repeat (first|exact Qv|exact Qo|exact Qp|exact Qq|exact Qr|apply Qn|apply Qu|apply Q3|apply Q9|apply Qaa|apply Qk|apply Q2)) [(4,5),(7,7),(19,29)] [] (fun r J hp=>∃i,r=ps.length-i/\i<=ps.length/\(∀j (hj:j<ps.length),j<i->0<=ps[j]/\ps[j]<=64)/\J 19= .int .i64 (i:Nat)) ps.length ?_ ?_
 ·refine⟨0,rfl,by omega,by omega,?_⟩
  simp+decide (disch:=first|exact D0|fail) only[go_sem,↓reduceIte]
  rfl
 rintro _ J h ⟨i,rfl,hi,hall,h19⟩
 simp+decide (disch:=first|exact D1 h19|fail) only[go_sem,↓reduceIte,h19]
 refine Qb (fun hg=> ?_) (fun hg=> ?_)
 ·have hi':i<ps.length:=by omega
  have hbad:=Q75 hi'
  have hadd:(0<=ps[i]/\ps[i]<=64)->∀j (hj:j<ps.length),j<i+1->0<=ps[j]/\ps[j]<=64:=fun h j hj hji=>by
   by_cases e:j=i
   ·subst e;exact h
   ·exact hall j hj (by omega)
  generalize hx:ps[i]=x at *
  simp+decide (disch:=first|exact D2 h19 hx|fail) only[go_sem,↓reduceIte,h19,hx]
  refine Qaf (fun h6=> ?_) (fun h6=> ?_)
  ·simp+decide (disch:=first|exact D2 h19 hx|fail) only[go_sem,↓reduceIte,h19,hx]
   refine Qct (r:=PV.pe (Qc4 fs ps)) ?_ rfl rfl Qfk (Qy _)
   rw[Qww he (hbad (by omega))]
  simp+decide (disch:=first|exact D2 h19 hx|fail) only[go_sem,↓reduceIte,h19,hx]
  refine Qb (fun h7=> ?_) (fun h7=> ?_)
  ·simp+decide (disch:=first|exact D2 h19 hx|fail) only[go_sem,↓reduceIte,h19,hx]
   refine Qct (r:=PV.pe (Qc4 fs ps)) ?_ rfl rfl Qfk (Qy _)
   rw[Qww he (hbad (by omega))]
  simp+decide (disch:=first|exact D1 h19|fail) only[go_sem,↓reduceIte,h19]
  refine Qh (ps.length-(i+1)) (by omega) ⟨i+1,rfl,by omega,hadd (by omega),?_⟩
  simp+decide (disch:=first|exact D0|fail) only[go_sem,↓reduceIte]
 obtain rfl:i=ps.length:=by omega
 have hok:=Q76 fun j hj=>hall j hj hj
 have hpr:=Qads he hok
 simp+decide (disch:=first|exact D0|fail) only[go_sem,↓reduceIte]
 refine Qa hP Qaeh rfl rfl rfl ?_
 simp+decide (disch:=first|exact D0|fail) only[go_sem,↓reduceIte]
 refine Qa hP (Q79 (k:=4) (by omega) (by omega)) rfl rfl rfl ?_
 simp+decide (disch:=first|exact D0|fail) only[go_sem,↓reduceIte]
 refine Qz (by repeat (first|exact Qv|exact Qo|exact Qp|exact Qq|exact Qr|apply Qn|apply Qu|apply Q3|apply Q9|apply Qaa|apply Qk|apply Q2)) [(4,5),(8,11),(34,54)] [] (fun r J hp=>∃i m P,r=fs.length-i/\i<=fs.length/\m<=64*i/\Prd m P/\Qfs ((Qha fs ps).drop i) P=Qfs (Qha fs ps) (Qbj 1)/\J 8=PV.poly P/\J 34= .int .i64 (i:Nat)) fs.length ?_ ?_
 ·refine⟨0,0,_,rfl,by omega,by omega,Prd.one,rfl,?_⟩
  simp+decide (disch:=first|exact D0|fail) only[go_sem,↓reduceIte]
  rfl
 rintro _ J2 h2 ⟨i,m,P,rfl,hi,hm,hPr,hgo,h8,h34⟩
 simp+decide (disch:=first|exact D1 h34|fail) only[go_sem,↓reduceIte,h34]
 refine Qb (fun hg=> ?_) (fun hg=> ?_)
 ·have hi':i<fs.length:=by omega
  have hip:i<ps.length:=by omega
  have hpw:=Qwv hok hip
  have hst:=Q1d (l:=Qha fs ps) (i:=i) (p:=P) (by rw[Qhb he];exact hi')
  rw[Qoj he hi']at hst
  have hsm:=h1 _ (List.getElem_mem hi')
  have hrk:=Qj6 hsm (ps[i]).toNat m P
  simp only at hst
  obtain⟨n,hn⟩:∃n:Nat,ps[i]=n:=⟨(ps[i]).toNat,by omega⟩
  rw[hn,Int.toNat_natCast]at hst hrk
  have hn64:n<=64:=by omega
  have hcall:=Qpv hPr hsm hn64 (by omega)
  generalize hx:fs[i]=x at *
  simp+decide (disch:=first|exact D4 h34 h8 hx hn|fail) only[go_sem,↓reduceIte,h34,h8,hx,hn]
  refine Qa hP hcall rfl rfl rfl ?_
  unfold Qk5
  cases hr:Qci x n P with
  |none=>
   rw[hr]at hst
   simp+decide (disch:=first|omega|rfl|(simp+decide only[go_sem,↓reduceIte,h34,Qg9]<;>rfl)|fail) only[go_sem,↓reduceIte,h34,Qg9]
   refine Qct (r:=PV.pe (Qc4 fs ps)) ?_ rfl rfl Qfk (Qy _)
   rw[hpr,<-hgo,hst];rfl
  |some P'=>
   rw[hr]at hst
   simp+decide (disch:=first|omega|rfl|(simp+decide only[go_sem,↓reduceIte,h34,Qg9]<;>rfl)|fail) only[go_sem,↓reduceIte,h34,Qg9]
   refine Qh (fs.length-(i+1)) (by omega) ⟨i+1,m+n,P',rfl,by omega,by omega,hrk P' hPr hr,by rw[<-hgo,hst];rfl,?_⟩
   simp+decide (disch:=first|exact D0|fail) only[go_sem,↓reduceIte]
 ·obtain rfl:i=fs.length:=by omega
  simp+decide (disch:=first|exact D1 h8|fail) only[go_sem,↓reduceIte,h8]
  refine Qct (r:=PV.pe (Qc4 fs ps)) ?_ rfl rfl (Qy _) (Qy _)
  rw[hpr,<-hgo,List.drop_of_length_le (by rw[Qhb he];omega)];rfl
end Go.Proofs.YtonfajmchebkeaaGreat
namespace Go.Proofs.YtonfajmchebkeaaGreat
open Go Go.FW
set_option linter.unusedSimpArgs false
set_option linter.unusedVariables false
set_option maxRecDepth 100000
theorem Qxe{n:Bool}{a d:List Nat}{k:Nat}(hr:Raw k n a d)(hk:k<=2^32):Qd Tryz.prog 107 [PV.rr n a d] (· =PV.poly (Qbj (rv n a d))):=by
 have hadd:=(Qrm (p:=[]) (m:=[]) (K:=1) (E:=1) (PB.nil _ _) trivial (by simp[NZ]) hr hk ⟨by simp,by simp,by simp⟩ (by simp) (by omega) (by omega) (by simp)).le (args':=[.nilS,PV.rr n a d,.nilS]) ⟨trivial,Qy _,trivial,trivial⟩
 have e:Qh2 [] (rv n a d) []=Qbj (rv n a d):=by rw[Qh2,Qd4];rfl
 rw[e]at hadd
 refine Qf Ql Tryz.func107 rfl Qahg (by simp[c107]) fun C hP=> ?_;simp only[c107,Zo,Zg,Zm,Zc,Zf,Zl,Zh,Zs,Zi,Zb,Zk,Zn,Zu,Zq,Zr,Zz]
 simp+decide (disch:=first|exact D0|fail) only[go_sem,↓reduceIte]
 refine Qa hP hadd rfl rfl rfl ?_
 simp+decide (disch:=first|exact D0|fail) only[go_sem,↓reduceIte]
 exact Qc rfl rfl
end Go.Proofs.YtonfajmchebkeaaGreat
namespace Go.Proofs.YtonfajmchebkeaaGreat
open Go Go.FW
set_option linter.unusedSimpArgs false
set_option linter.unusedVariables false
set_option maxRecDepth 100000
theorem Q4u{a:Rat}{k:Nat}(h:rs a<=k)(hk:k<=2^32):Qd Tryz.prog 107 [PV.rat a] (· =PV.poly (Qbj a)):=by
 have:=Qxe (Qck h) hk
 rwa[Qc7]at this
end Go.Proofs.YtonfajmchebkeaaGreat
namespace Go.Proofs.YtonfajmchebkeaaGreat
open Go Go.FW
set_option linter.unusedSimpArgs false
set_option linter.unusedVariables false
set_option maxRecDepth 100000
theorem Qamm:Qd Tryz.prog 37 [.int .i64 1] (· =PV.rat 1):=Qcp (by omega) (by omega)
theorem Qaei{m:Nat}{P q:List Tm}(hPr:Prd m P)(hq:Sml q)(hm:m<=1024):Qd Tryz.prog 41 [PV.poly P,PV.poly q] (· =PV.poly (Qad P q)):=by
 have hql:=hq.l
 have bq:=hq.PB.mono (K':=2^18) (E':=2^17) (by omega) (by omega)
 have bP:=hPr.PB hm
 have lP:=hPr.l
 have m1:=Qvi hql lP
 have:=Q1b bP bq hPr.n.z hq.n.z (by omega) (by omega) (by omega) (by omega) (by omega)
 rwa[Qab3 hPr.n hq.n]at this
end Go.Proofs.YtonfajmchebkeaaGreat
namespace Go.Proofs.YtonfajmchebkeaaGreat
open Go Go.FW
set_option linter.unusedSimpArgs false
set_option linter.unusedVariables false
set_option maxRecDepth 100000
theorem Qadu{fs:List (List Tm)}{ps:List Int}{n:Int}{cs hs:List (List Tm)}{g P:List Tm}{e:Int}(h:Qc4 fs ps=(P,e)):Qgd fs ps n cs hs g=if e=0 then
  if fs.any List.isEmpty then 3
  else if n<1∨64<n then 2
  else if cs.length=hs.length then
   match Qci g n.toNat P with
   |none=>4
   |some l=>if(Qcg cs hs).2=0 then(if l=(Qcg cs hs).1 then 0 else 17)else(Qcg cs hs).2
  else 16
 else e:=by unfold Qgd;rw[h];rfl
theorem Qaiz{fs:List (List Tm)}{i:Nat}(h:i<fs.length)(h0:fs[i].length=0):fs.any List.isEmpty=true:=by
 rw[List.any_eq_true]
 exact⟨_,List.getElem_mem h,by rw[List.length_eq_zero_iff.1 h0];rfl⟩
theorem Qamn{fs:List (List Tm)}(h:∀j (hj:j<fs.length),fs[j].length≠0):fs.any List.isEmpty=false:=by
 rw[List.any_eq_false]
 intro x hx
 obtain⟨j,hj,rfl⟩:=List.getElem_of_mem hx
 intro e
 exact h j hj (by rw[List.isEmpty_iff.1 e];rfl)
theorem Qpw{fs:List (List Tm)}{ps:List Int}{n:Int}{cs hs:List (List Tm)}{g:List Tm}(hf:∀c∈fs,Sml c)(hfl:fs.length<=8)(hpl:ps.length<2^40)(hc:∀c∈cs,Big c)(hcl:cs.length<=8)(hh:∀c∈hs,Sml c)(hhl:hs.length<2^40)(hg:Sml g):
  Qd Tryz.prog 35 [PV.cert fs ps n cs,PV.polys hs,PV.poly g] (· = .int .i64 (Qgd fs ps n cs hs g)):=by
 have c1:=Qmy hf hfl hpl
 have c2:=Qmx hc hh hcl hhl
 obtain⟨b1,_,l1⟩:=Qadt hc hh hcl
 obtain⟨⟨P,e⟩,hR⟩:∃r,r=Qc4 fs ps:=⟨_,rfl⟩
 have hck:=Qadu (n:=n) (cs:=cs) (hs:=hs) (g:=g) hR.symm
 have hPr:=Q78 (ps:=ps) hf hfl
 rw[<-hR]at hPr
 rw[<-hR]at c1
 obtain⟨⟨s,e2⟩,hC⟩:∃r,r=Qcg cs hs:=⟨_,rfl⟩
 rw[<-hC]at c2 hck b1 l1
 simp only at c1 c2 hck hPr b1 l1
 refine Qf Ql Tryz.func35 rfl Qal6 (by simp[c35]) fun C hP=> ?_;simp only[c35,Zo,Zg,Zm,Zc,Zf,Zl,Zh,Zs,Zi,Zb,Zk,Zn,Zu,Zq,Zr,Zz]
 simp+decide (disch:=first|exact D0|fail) only[go_sem,↓reduceIte]
 refine Qa hP c1 rfl rfl rfl ?_
 simp+decide (disch:=first|exact D0|fail) only[go_sem,↓reduceIte]
 refine Qb (fun h1=> ?_) (fun h1=> ?_)
 ·simp+decide (disch:=first|exact D0|fail) only[go_sem,↓reduceIte]
  exact Qc (congrArg (PV.int .i64) (by rw[hck,if_neg (by omega)])) rfl
 obtain rfl:e=0:=by omega
 obtain⟨m,hm,hPm⟩:=hPr rfl
 rw[if_pos rfl]at hck
 simp+decide (disch:=first|exact D0|fail) only[go_sem,↓reduceIte]
 refine Qz (by repeat (first|exact Qv|exact Qo|exact Qp|exact Qq|exact Qr|apply Qn|apply Qu|apply Q3|apply Q9|apply Qaa|apply Qk|apply Q2)) [(6,6),(10,10),(26,33)] [] (fun r J hp=>∃i,r=fs.length-i/\i<=fs.length/\(∀j (hj:j<fs.length),j<i->fs[j].length≠0)/\J 26= .int .i64 (i:Nat)/\hp 3=some ⟨4,79,[PV.cert fs ps n cs],false⟩) fs.length ?_ ?_
 ·refine⟨0,rfl,by omega,by omega,?_⟩
  simp+decide (disch:=first|exact D0|fail) only[go_sem,↓reduceIte]
  rfl
 rintro _ J h ⟨i,rfl,hi,hall,h26,hb⟩
 simp+decide (disch:=first|exact D1 h26|fail) only[go_sem,↓reduceIte,h26]
 refine Qb (fun hg2=> ?_) (fun hg2=> ?_)
 ·have hi':i<fs.length:=by omega
  have hany:=Qaiz hi'
  have hadd:fs[i].length≠0->∀j (hj:j<fs.length),j<i+1->fs[j].length≠0:=fun h j hj hji=>by
   by_cases e:j=i
   ·subst e;exact h
   ·exact hall j hj (by omega)
  generalize hx:fs[i]=x at *
  simp+decide (disch:=first|exact D2 h26 hx|fail) only[go_sem,↓reduceIte,h26,hx]
  refine Qb (fun h0=> ?_) (fun h0=> ?_)
  ·simp+decide (disch:=first|exact D0|fail) only[go_sem,↓reduceIte]
   exact Qc (congrArg (PV.int .i64) (by rw[hck,hany (by omega)];rfl)) rfl
  simp+decide (disch:=first|exact D1 h26|fail) only[go_sem,↓reduceIte,h26]
  refine Qh (fs.length-(i+1)) (by omega) ⟨i+1,rfl,by omega,hadd (by omega),?_⟩
  simp+decide (disch:=first|exact D1 hb|fail) only[go_sem,↓reduceIte,hb]
 obtain rfl:i=fs.length:=by omega
 rw[Qamn fun j hj=>hall j hj hj]at hck
 simp only[Bool.false_eq_true,if_false]at hck
 simp+decide (disch:=first|exact D1 hb|fail) only[go_sem,↓reduceIte,hb]
 refine Qaf (fun h2=> ?_) (fun h2=> ?_)
 ·simp+decide (disch:=first|exact D1 hb|fail) only[go_sem,↓reduceIte,hb]
  exact Qc (congrArg (PV.int .i64) (by rw[hck,if_pos (by omega)])) rfl
 simp+decide (disch:=first|exact D1 hb|fail) only[go_sem,↓reduceIte,hb]
 refine Qb (fun h3=> ?_) (fun h3=> ?_)
 ·simp+decide (disch:=first|exact D1 hb|fail) only[go_sem,↓reduceIte,hb]
  exact Qc (congrArg (PV.int .i64) (by rw[hck,if_pos (by omega)])) rfl
 rw[if_neg (by omega)]at hck
 obtain⟨k,rfl⟩:∃k:Nat,n=k:=⟨n.toNat,by omega⟩
 rw[Int.toNat_natCast]at hck
 simp+decide (disch:=first|exact D1 hb|fail) only[go_sem,↓reduceIte,hb]
 refine Qb (fun h4=> ?_) (fun h4=> ?_)
 ·simp+decide (disch:=first|exact D1 hb|fail) only[go_sem,↓reduceIte,hb]
  exact Qc (congrArg (PV.int .i64) (by rw[hck,if_neg (by omega)])) rfl
 rw[if_pos (by omega)]at hck
 have c3:=Qpv hPm hg (n:=k) (by omega) hm
 have hrk:=Qj6 hg k m P
 simp+decide (disch:=first|exact D1 hb|fail) only[go_sem,↓reduceIte,hb]
 refine Qa hP c3 rfl rfl rfl ?_
 unfold Qk5
 cases hr:Qci g k P with
 |none=>
  rw[hr]at hck
  simp+decide (disch:=first|omega|rfl|(simp+decide only[go_sem,↓reduceIte,hb,Qg9]<;>rfl)|fail) only[go_sem,↓reduceIte,hb,Qg9]
  exact Qc (congrArg (PV.int .i64) hck.symm) rfl
 | some L=>
  have hL:=hrk L hPm hr
  rw[hr]at hck
  simp only at hck
  have bL:=(hL.PB (by omega)).mono (K':=268435456) (E':=131072) (by omega) (by omega)
  have lL:=hL.l
  have b2:=b1.mono (K':=268435456) (E':=131072) (by omega) (by omega)
  simp+decide (disch:=first|omega|rfl|(simp+decide only[go_sem,↓reduceIte,hb,Qg9]<;>rfl)|fail) only[go_sem,↓reduceIte,hb,Qg9]
  refine Qa hP c2 rfl rfl rfl ?_
  simp+decide (disch:=first|exact D1 hb|fail) only[go_sem,↓reduceIte,hb]
  refine Qb (fun h5=> ?_) (fun h5=> ?_)
  ·simp+decide (disch:=first|exact D1 hb|fail) only[go_sem,↓reduceIte,hb]
   exact Qc (congrArg (PV.int .i64) (by rw[hck,if_neg (by omega)])) rfl
  rw[if_pos (by omega)]at hck
  simp+decide (disch:=first|exact D1 hb|fail) only[go_sem,↓reduceIte,hb]
  refine Qa hP (Qzv bL b2 (by omega) (by omega) (by omega) (by omega)) rfl rfl rfl ?_
  by_cases hq:L=s
  ·rw[if_pos hq]at hck
   simp+decide (disch:=first|exact D1 hq|fail) only[go_sem,↓reduceIte,hq]
   exact Qc (congrArg (PV.int .i64) hck.symm) rfl
  ·rw[if_neg hq]at hck
   simp+decide (disch:=first|exact D1 hq|fail) only[go_sem,↓reduceIte,hq]
   exact Qc (congrArg (PV.int .i64) hck.symm) rfl
end Go.Proofs.YtonfajmchebkeaaGreat
namespace Go.Proofs.YtonfajmchebkeaaGreat
open Go Go.FW
set_option linter.unusedSimpArgs false
set_option linter.unusedVariables false
set_option maxRecDepth 100000
def PolL(l:List (List Tm)):Prop:=(∀p∈l,PB 1073741824 1048576 p/\p.length<=8589934592)/\l.length<2^40
theorem Q0a{α:Type}{a b:List α}(h:a.length=b.length)(h2:∀j (h1:j<a.length) (h2:j<b.length),a[j]=b[j]):a=b:=List.ext_getElem h h2
theorem Qai0{α:Type}{a b:List α}{j:Nat}(h1:j<a.length)(h2:j<b.length)(h:a[j]≠b[j]):a≠b:=fun e=>h (by subst e;rfl)
theorem Q2o{α:Type}{a b:List α}(h:¬a.length=b.length):a≠b:=fun e=>h (by rw[e])
theorem Q4v{a b:List (List Tm)}(ha:PolL a)(hb:PolL b):Qd Tryz.prog 76 [PV.polys a,PV.polys b] (· = .bool (decide (a=b))):=by
 have la:=ha.2
 have lb:=hb.2
 refine Qf Ql Tryz.func76 rfl Qama (by simp[c76]) fun C hP=> ?_;simp only[c76,Zo,Zg,Zm,Zc,Zf,Zl,Zh,Zs,Zi,Zb,Zk,Zn,Zu,Zq,Zr,Zz]
 simp+decide (disch:=first|exact D0|fail) only[go_sem,↓reduceIte]
 refine Qz (by repeat (first|exact Qv|exact Qo|exact Qp|exact Qq|exact Qr|apply Qn|apply Qu|apply Q3|apply Q9|apply Qaa|apply Qk|apply Q2)) [(4,27)] [] (fun m J hp=>∃i,m=a.length-i/\i<=a.length/\i<=b.length/\(∀j (h1:j<a.length) (h2:j<b.length),j<i->a[j]=b[j])/\J 5= .int .i64 (i:Nat)) a.length ?_ ?_
 ·refine⟨0,rfl,by omega,by omega,by omega,?_⟩
  simp+decide (disch:=first|exact D0|fail) only[go_sem,↓reduceIte]
  rfl
 rintro _ J h ⟨i,rfl,hi,hib0,h1,h5⟩
 simp+decide (disch:=first|exact D1 h5|fail) only[go_sem,↓reduceIte,h5]
 refine Qaj (fun hg=> ?_) (fun hg=> ?_)
 ·have hi':i<a.length:=by omega
  simp+decide (disch:=first|exact D1 h5|fail) only[go_sem,↓reduceIte,h5]
  refine Qb (fun hg2=> ?_) (fun hg2=> ?_)
  ·have hib1:i<b.length:=by omega
   have hib:i<b.length:=by omega
   obtain⟨g1,g2⟩:=ha.1 _ (List.getElem_mem hi')
   obtain⟨g3,g4⟩:=hb.1 _ (List.getElem_mem hib)
   have hne:=Qai0 hi' hib
   have hadd:a[i]=b[i]->∀j (h1:j<a.length) (h2:j<b.length),j<i+1->a[j]=b[j]:=fun h j hj hj2 hji=>by
    by_cases e:j=i
    ·subst e;exact h
    ·exact h1 j hj hj2 (by omega)
   generalize hx:a[i]=x at *
   generalize hy:b[i]=y at *
   simp+decide (disch:=first|exact D3 h5 hx hy|fail) only[go_sem,↓reduceIte,h5,hx,hy]
   refine Qa hP (Qjp g1 g3 (by omega) (by omega) (by omega) (by omega)) rfl rfl rfl ?_
   by_cases e:x=y
   ·simp+decide (disch:=first|exact D2 h5 e|fail) only[go_sem,↓reduceIte,h5,e]
    refine Qh (a.length-(i+1)) (by omega) ⟨i+1,rfl,by omega,by omega,hadd e,?_⟩
    simp+decide (disch:=first|exact D0|fail) only[go_sem,↓reduceIte]
   ·simp+decide (disch:=first|exact D2 h5 e|fail) only[go_sem,↓reduceIte,h5,e]
    exact Qc (by rw[decide_eq_false (hne e)]) rfl
  ·
   simp+decide (disch:=first|exact D1 h5|fail) only[go_sem,↓reduceIte,h5]
   refine Qc ?_ rfl
   by_cases e:a.length=b.length
   ·rw[decide_eq_true (Q0a e fun j g1 g2=>h1 j g1 g2 (by omega)),decide_eq_true (by omega)]
   ·rw[decide_eq_false (Q2o e),decide_eq_false (by omega)]
 ·
  simp+decide (disch:=first|exact D1 h5|fail) only[go_sem,↓reduceIte,h5]
  refine Qc ?_ rfl
  by_cases e:a.length=b.length
  ·rw[decide_eq_true (Q0a e fun j g1 g2=>h1 j g1 g2 (by omega)),decide_eq_true (by omega)]
  ·rw[decide_eq_false (Q2o e),decide_eq_false (by omega)]
end Go.Proofs.YtonfajmchebkeaaGreat
namespace Go.Proofs.YtonfajmchebkeaaGreat
open Go Go.FW
set_option linter.unusedSimpArgs false
set_option linter.unusedVariables false
set_option maxRecDepth 100000
end Go.Proofs.YtonfajmchebkeaaGreat
namespace Go.Proofs.YtonfajmchebkeaaGreat
open Go Go.FW
set_option linter.unusedSimpArgs false
set_option linter.unusedVariables false
set_option maxRecDepth 100000
theorem Qadw(v:Nat)(n:Int)(h:n=((n.toNat:Nat):Int)):(List.replicate (v+1) (0:Int)).set v n=Qh3 v n.toNat:=by
 unfold Qh3
 rw[<-h]
 induction v with
 |zero=>rfl
 |succ v ih=>rw[List.replicate_succ,List.set_cons_succ,ih];rfl
end Go.Proofs.YtonfajmchebkeaaGreat
namespace Go.Proofs.YtonfajmchebkeaaGreat
open Go Go.FW
set_option linter.unusedSimpArgs false
set_option linter.unusedVariables false
set_option maxRecDepth 100000
end Go.Proofs.YtonfajmchebkeaaGreat
namespace Go.Proofs.YtonfajmchebkeaaGreat
open Go Go.FW
set_option linter.unusedSimpArgs false
set_option linter.unusedVariables false
set_option maxRecDepth 100000
end Go.Proofs.YtonfajmchebkeaaGreat
namespace Go.Proofs.YtonfajmchebkeaaGreat
open Go Go.FW
set_option linter.unusedSimpArgs false
set_option linter.unusedVariables false
set_option maxRecDepth 100000
end Go.Proofs.YtonfajmchebkeaaGreat
namespace Go.Proofs.YtonfajmchebkeaaGreat
open Go Go.FW
set_option linter.unusedSimpArgs false
set_option linter.unusedVariables false
set_option maxRecDepth 100000
theorem Qvj{k:Nat}{a b:List Int}(ha:MB k a)(hb:MB k b):Qd Tryz.prog 218 [PV.mono a,PV.mono b] (· = .bool (Qfz a b)):=by
 have h1:=ha.len
 have h2:=hb.len
 refine Qf Ql Tryz.func218 rfl Qaie (by simp[c218]) fun C hP=> ?_;simp only[c218,Zo,Zg,Zm,Zc,Zf,Zl,Zh,Zs,Zi,Zb,Zk,Zn,Zu,Zq,Zr,Zz]
 simp+decide (disch:=first|exact D0|fail) only[go_sem,↓reduceIte]
 refine Qz (by repeat (first|exact Qv|exact Qo|exact Qp|exact Qq|exact Qr|apply Qn|apply Qu|apply Q3|apply Q9|apply Qaa|apply Qk|apply Q2)) [(4,6),(9,19)] [] (fun n J hp=>∃i,n=a.length-i/\i<=a.length/\(∀j,j<i->eN a j<=eN b j)/\J 9= .int .i64 (i:Nat)) a.length ?_ ?_
 ·refine⟨0,rfl,by omega,by omega,?_⟩
  simp+decide (disch:=first|exact D0|fail) only[go_sem,↓reduceIte]
  rfl
 rintro _ J h ⟨i,rfl,hi,hj,h9⟩
 simp+decide (disch:=first|exact D1 h9|fail) only[go_sem,↓reduceIte,h9]
 refine Qb (fun hg=> ?_) (fun hg=> ?_)
 ·have hi':i<a.length:=by omega
  have he:=Qco hi'
  have hf:=Q4o (b:=b) hi'
  generalize hx:a[i]=x at *
  simp+decide (disch:=first|exact D2 h9 hx|fail) only[go_sem,↓reduceIte,h9,hx]
  refine Qa hP (Qjh (by omega)) rfl rfl rfl ?_
  simp+decide (disch:=first|exact D2 h9 hx|fail) only[go_sem,↓reduceIte,h9,hx]
  refine Qb (fun hc=> ?_) (fun hc=> ?_)
  ·simp+decide (disch:=first|exact D0|fail) only[go_sem,↓reduceIte]
   exact Qc (congrArg PV.bool (hf (by omega)).symm) rfl
  ·simp+decide (disch:=first|exact D1 h9|fail) only[go_sem,↓reduceIte,h9]
   refine Qh (a.length-(i+1)) (by omega) ⟨i+1,rfl,by omega,fun j hji=> ?_,?_⟩
   ·by_cases e:j=i
    ·subst e;omega
    ·exact hj j (by omega)
   ·simp+decide (disch:=first|exact D0|fail) only[go_sem,↓reduceIte]
 ·obtain rfl:i=a.length:=by omega
  simp+decide (disch:=first|exact D0|fail) only[go_sem,↓reduceIte]
  exact Qc (congrArg PV.bool (Q72 hj).symm) rfl
theorem Q1e{x y:Int}(h1: -9223372036854775808<=x-y)(h2:x-y<=9223372036854775807):Qd Tryz.prog 221 [.int .i64 x,.int .i64 y] (· = .int .i64 (x-y)):=by
 refine Qf Ql Tryz.func221 rfl Qaig (by simp[c221]) fun C hP=> ?_;simp only[c221,Zo,Zg,Zm,Zc,Zf,Zl,Zh,Zs,Zi,Zb,Zk,Zn,Zu,Zq,Zr,Zz]
 simp+decide (disch:=first|exact D0|fail) only[go_sem,↓reduceIte]
 exact Qc rfl rfl
theorem Q4w{k:Nat}{a b:List Int}(ha:MB k a)(hb:MB k b)(hk:k<=1099511627776):Qd Tryz.prog 167 [PV.mono a,PV.mono b] (· =if Qfz b a=true then .tup [PV.mono (Qb2 a b),.bool true]else .tup [PV.mono [],.bool false]):=by
 have h1:=ha.len
 have h2:=hb.len
 have hz:=Qbi (· - ·) a b
 refine Qf Ql Tryz.func167 rfl Qaif (by simp[c167]) fun C hP=> ?_;simp only[c167,Zo,Zg,Zm,Zc,Zf,Zl,Zh,Zs,Zi,Zb,Zk,Zn,Zu,Zq,Zr,Zz]
 simp+decide (disch:=first|exact D0|fail) only[go_sem,↓reduceIte]
 refine Qa hP (Qvj hb ha) rfl rfl rfl ?_
 cases hd:Qfz b a
 ·simp+decide (disch:=first|exact D0|fail) only[go_sem,↓reduceIte]
  exact Qct rfl rfl rfl Qaac (Qy _)
 ·simp+decide (disch:=first|exact D0|fail) only[go_sem,↓reduceIte]
  refine Qa hP (Qms (f:=221) (g:=(· - ·)) (by omega) (by omega) (fun i=>Q1e (by have:=ha.eN i;have:=hb.eN i;omega) (by have:=ha.eN i;have:=hb.eN i;omega))) rfl rfl rfl ?_
  simp+decide (disch:=first|exact D0|fail) only[go_sem,↓reduceIte]
  refine Qa hP (Qrf (by omega)) rfl rfl rfl ?_
  simp+decide (disch:=first|exact D0|fail) only[go_sem,↓reduceIte]
  exact Qct rfl rfl rfl (Qy _) (Qy _)
theorem Q8a{x y:Int}(hx:nl x.natAbs<2^38)(hy:nl y.natAbs<2^38)(h0:y≠0):Qd Tryz.prog 217 [PV.zz x,PV.zz y] (· = .tup [PV.rat ((x:Rat)/(y:Rat)),.int .i64 0]):=by
 have hv:=Qt2 x y h0
 have hr:=Qpf (n:=decide (x<0) !=decide (y<0)) (a:=dig x.natAbs) (d:=dig y.natAbs) (Qj _) (Qj _) hx hy
 rw[rv,Q4,hv]at hr
 have hs:=Qiu (n:=decide (y<0)) (a:=dig y.natAbs) (Qj _) (by show nl _<_;omega)
 rw[Qfj]at hs
 generalize(x:Rat)/(y:Rat)=Q at *
 refine Qf Ql Tryz.func217 rfl Qagj (by simp[c217]) fun C hP=> ?_;simp only[c217,Zo,Zg,Zm,Zc,Zf,Zl,Zh,Zs,Zi,Zb,Zk,Zn,Zu,Zq,Zr,Zz]
 simp+decide (disch:=first|exact D0|fail) only[go_sem,↓reduceIte]
 refine Qa hP hs rfl rfl rfl ?_
 simp+decide (disch:=first|exact D0|fail) only[go_sem,↓reduceIte]
 refine Qb (fun h=>absurd (Qyv.1 h) h0) (fun _=> ?_)
 simp+decide (disch:=first|exact D0|fail) only[go_sem,↓reduceIte]
 refine Qa hP hr rfl rfl rfl ?_
 simp+decide (disch:=first|exact D0|fail) only[go_sem,↓reduceIte]
 refine Qgo ?_
 simp+decide (disch:=first|exact D0|fail) only[go_sem,↓reduceIte]
 exact Qct rfl rfl rfl (Qy _) (Qy _)
theorem Q8b{n m:Bool}{a d b c:List Nat}{k:Nat}(hp:Raw k n a d)(hq:Raw k m b c)(hk:k<2^34)(h0:rv m b c≠0):Qd Tryz.prog 165 [PV.rr n a d,PV.rr m b c] (· = .tup [PV.rat (rv n a d/rv m b c),.int .i64 0]):=by
 refine Qf Ql Tryz.func165 rfl Qagk (by simp[c165]) fun C hP=> ?_;simp only[c165,Zo,Zg,Zm,Zc,Zf,Zl,Zh,Zs,Zi,Zb,Zk,Zn,Zu,Zq,Zr,Zz]
 simp+decide (disch:=first|exact D0|fail) only[go_sem,↓reduceIte]
 refine Qcn hP (Qdu hp.la hp.ld hp.k1 hp.sa hp.sd (by omega)) rfl rfl rfl ?_
 rintro _ ⟨n',a',d',rfl,g1,g2,g3,g4,g5,g6⟩
 simp+decide (disch:=first|exact D0|fail) only[go_sem,↓reduceIte]
 refine Qcn hP (Qdu hq.la hq.ld hq.k1 hq.sa hq.sd (by omega)) rfl rfl rfl ?_
 rintro _ ⟨m',b',c',rfl,e1,e2,e3,e4,e5,e6⟩
 simp+decide (disch:=first|exact D0|fail) only[go_sem,↓reduceIte]
 have hza:nl (zv n' a').natAbs<=k:=by rw[Qbe];exact Nat.le_trans (Qap g1) g3
 have hzb:nl (zv m' b').natAbs<=k:=by rw[Qbe];exact Nat.le_trans (Qap e1) e3
 have hvd:nl (val d')<=k:=Nat.le_trans (Qap g2) g4
 have hvc:nl (val c')<=k:=Nat.le_trans (Qap e2) e4
 have h3:=Qa1 (zv n' a') (val c')
 have h6:=Qa1 (zv m' b') (val d')
 rw[Int.natAbs_natCast]at h3 h6
 have hzb0:zv m' b'≠0:=fun h=>h0 (by rw[<-e6,rv,h,Rat.zero_mkRat])
 have hne:zv m' b'*(val d':Int)≠0:=Int.mul_ne_zero hzb0 (by omega)
 have hfin:=Qamh (n:=n') (a:=a') (m:=m') (b:=b') g5 e5 hzb0
 rw[g6,e6]at hfin
 have hm1:=Qdt (n:=n') (m:=false) g1 e2 (by omega) (by omega)
 have hm2:=Qdt (n:=m') (m:=false) e1 g2 (by omega) (by omega)
 rw[Qga]at hm1 hm2
 refine Qa hP (Qen c') rfl rfl rfl ?_
 simp+decide (disch:=first|exact D0|fail) only[go_sem,↓reduceIte]
 refine Qa hP hm1 rfl rfl rfl ?_
 simp+decide (disch:=first|exact D0|fail) only[go_sem,↓reduceIte]
 refine Qa hP (Qen d') rfl rfl rfl ?_
 simp+decide (disch:=first|exact D0|fail) only[go_sem,↓reduceIte]
 refine Qa hP hm2 rfl rfl rfl ?_
 generalize zv n' a'*(val c':Int)=X at *
 generalize zv m' b'*(val d':Int)=Y at *
 simp+decide (disch:=first|exact D0|fail) only[go_sem,↓reduceIte]
 refine Qa hP (Q8a (x:=X) (y:=Y) (by omega) (by omega) hne) rfl rfl rfl ?_
 rw[hfin]
 generalize rv n a d/rv m b c=Q at *
 simp+decide (disch:=first|exact D0|fail) only[go_sem,↓reduceIte]
 refine Qgo ?_
 simp+decide (disch:=first|exact D0|fail) only[go_sem,↓reduceIte]
 exact Qct rfl rfl rfl (Qy _) (Qy _)
theorem Qaej{a b:Rat}{k:Nat}(ha:rs a<=k)(hb:rs b<=k)(hk:k<2^34)(h0:b≠0):Qd Tryz.prog 165 [PV.rat a,PV.rat b] (· = .tup [PV.rat (a/b),.int .i64 0]):=by
 have:=Q8b (Qck ha) (Qck hb) hk (by rw[Qc7];exact h0)
 rwa[Qc7,Qc7]at this
end Go.Proofs.YtonfajmchebkeaaGreat
namespace Go.Proofs.YtonfajmchebkeaaGreat
open Go Go.FW
set_option linter.unusedSimpArgs false
set_option linter.unusedVariables false
set_option maxRecDepth 100000
end Go.Proofs.YtonfajmchebkeaaGreat
namespace Go.Proofs.YtonfajmchebkeaaGreat
open Go Go.FW
set_option linter.unusedSimpArgs false
set_option linter.unusedVariables false
set_option maxRecDepth 100000
theorem Qpb(a b:List Int):Qa8 0 a b=Qah a b:=by unfold Qa8;rw[if_neg (by simp)]
theorem Qxf{p q:List Tm}{K E L k0:Nat}(np:Nrm p)(nq:Nrm q)(bq:PB K E q)(hq:q≠[])(hlq:q.length<=2^20)(hb:∀k,k<=k0->PB K E (exP q p k)/\(exP q p k).length<=L)(hgo:∀k,k<k0->Qe1 q (exP q p k))(hst:¬Qe1 q (exP q p k0))
  (hK:K<=2^25) (hK2:2<=K) (hE:E<=2^36) (hL:L<=2^34) (hk0:k0<=2^34):Qd Tryz.prog 89 [PV.poly p,PV.poly q] (· =exR q p k0):=by
 have hql:0<q.length:=List.length_pos_iff.2 hq
 have hqh:=Qmt hql
 have hqm:=bq _ (Qay hq)
 have hq0:=nq.z _ (Qay hq)
 have hcq:=hqm.c
 have hrr:PV.le (.agg [.bool false,.nilS,.nilS]) (.agg [.bool false,.nilS,.nilS]):=Qy _
 refine Qf Ql Tryz.func89 rfl Qaly (by simp[c89]) fun C hP=> ?_;simp only[c89,Zo,Zg,Zm,Zc,Zf,Zl,Zh,Zs,Zi,Zb,Zk,Zn,Zu,Zq,Zr,Zz]
 simp+decide (disch:=first|exact D0|fail) only[go_sem,↓reduceIte]
 refine Qb (fun h=>absurd h (by omega)) (fun _=> ?_)
 simp+decide (disch:=first|exact D0|fail) only[go_sem,↓reduceIte]
 refine Qif 6 900 4 127 (by omega) T0 ?_
 refine Qz (by repeat (first|exact Qv|exact Qo|exact Qp|exact Qq|exact Qr|apply Qn|apply Qu|apply Q3|apply Q9|apply Qaa|apply Qk|apply Q2)) [(0,0),(4,12),(16,76)] [9,52,55,900] (fun n J hp=>∃k,n=k0-k/\k<=k0/\J 0=PV.poly (exP q p k)/\J 6= .ms 900 k/\hp 900=some ⟨4,127,(exQ q p k).map PV.term,false⟩) k0 ?_ ?_
 ·refine⟨0,rfl,by omega,?_⟩
  simp+decide (disch:=first|exact D0|fail) only[go_sem,↓reduceIte]
  exact⟨rfl,rfl⟩
 rintro _ J h ⟨k,rfl,hk,hj0,h6,hh⟩
 obtain⟨bP,lP⟩:=hb k hk
 have hQl:=Qql q p k
 simp+decide (disch:=first|exact D1 hj0|fail) only[go_sem,↓reduceIte,hj0]
 refine Qb (fun hg=> ?_) (fun hg=> ?_)
 ·have hPl:0<(exP q p k).length:=by omega
  have hP0:exP q p k≠[]:=List.length_pos_iff.1 hPl
  have hPh:=Qmt hPl
  have hPm:=bP _ (Qay hP0)
  have hcp:=hPm.c
  have hQuo:=Q4w hPm.m hqm.m (by omega)
  have hDiv:=Qaej (a:=(hdT (exP q p k)).1) (b:=(hdT q).1) (k:=K) (by omega) (by omega) (by omega) hq0
  simp+decide (disch:=first|exact D3 hj0 hPh hqh|fail) only[go_sem,↓reduceIte,hj0,hPh,hqh]
  refine Qa hP hQuo rfl rfl rfl ?_
  cases hd:Qfz (hdT q).2 (hdT (exP q p k)).2
  ·have hk0':k=k0:=by
    apply Decidable.byContradiction;intro hne
    have:=(hgo k (by omega)).2
    rw[hd]at this;cases this
   subst hk0'
   have hres:exR q p k= .tup [PV.poly [],.bool false]:=by rw[exR,if_neg hP0]
   generalize(hdT (exP q p k)).1/(hdT q).1=a at *
   simp+decide (disch:=first|exact D3 hj0 hPh hqh|fail) only[go_sem,↓reduceIte,hj0,hPh,hqh]
   refine Qfi ?_ ?_
   all_goals
    simp+decide (disch:=first|exact D3 hj0 hPh hqh|fail) only[go_sem,↓reduceIte,hj0,hPh,hqh]
    refine Qa hP hDiv rfl rfl rfl ?_
    simp+decide (disch:=first|exact D3 hj0 hPh hqh|fail) only[go_sem,↓reduceIte,hj0,hPh,hqh]
    exact Qct hres rfl rfl Qfk (Qy _)
  ·have hkl:k<k0:=by
    apply Decidable.byContradiction;intro hne
    obtain rfl:k=k0:=by omega
    exact hst ⟨hP0,hd⟩
   obtain⟨bN,lN⟩:=hb (k+1) hkl
   have hgk:=hgo k hkl
   have hlt:=Qzz bP bq (Qqm np nq k) nq hq hgk
   have htT:=Qamj bP bq nq hq hgk
   have hTe:exT q (exP q p k)=((hdT (exP q p k)).1/(hdT q).1,Qb2 (hdT (exP q p k)).2 (hdT q).2):=rfl
   have hPe:exP q p (k+1)=Qnu (exP q p k) (Qad [exT q (exP q p k)] q):=rfl
   have hQe:exQ q p (k+1)=exQ q p k++[exT q (exP q p k)]:=rfl
   have hQl1:=Qql q p (k+1)
   rw[show exN q (exP q p k)=exP q p (k+1)from rfl]at hlt
   rw[hTe]at htT hPe hQe
   generalize(hdT (exP q p k)).1/(hdT q).1=a at *
   generalize Qb2 (hdT (exP q p k)).2 (hdT q).2=m at *
   have hQe0:=hQe
   generalize hPe0:exP q p (k+1)=P' at *
   have b1:PB (K+K) E [(a,m)]:=fun t ht=>by
    obtain rfl:t=(a,m):=by simpa using ht
    exact htT
   obtain⟨b2,l2⟩:=Qth b1 (bq.mono (K':=K+K) (by omega) (Nat.le_refl _))
   have hmin:min [(a,m)].length q.length*(K+K+(K+K))<=1*(K+K+(K+K)):=Nat.mul_le_mul_right _ (by simp;omega)
   have l2':(Qad [(a,m)] q).length<=q.length:=by simpa using l2
   simp+decide (disch:=first|exact D3 hj0 hPh hqh|fail) only[go_sem,↓reduceIte,hj0,hPh,hqh]
   refine Qfi ?_ ?_
   ·
    simp+decide (disch:=first|exact D3 hj0 hPh hqh|fail) only[go_sem,↓reduceIte,hj0,hPh,hqh]
    refine Qa hP hDiv rfl rfl rfl ?_
    simp+decide (disch:=first|exact D4 hj0 hPh hqh h6|fail) only[go_sem,↓reduceIte,hj0,hPh,hqh,h6]
    rw[Qam (f:=PV.term) (y:=(a,m)) (xs:=exQ q p k) (ty':=127) (fz:=false) (T1 hh) Tr0 (by omega) hQl.symm (by omega) (by omega)]
    simp+decide (disch:=first|exact D4 hj0 hPh hqh h6|fail) only[go_sem,↓reduceIte,hj0,hPh,hqh,h6]
    refine Qcd hP (Qj4 b1 (bq.mono (K':=K+K) (by omega) (Nat.le_refl _)) (by omega) (by simp) (by omega) (by simp;omega) (by omega) (by omega)) Ur0 rfl ?_
    simp+decide (disch:=first|exact D4 hj0 hPh hqh h6|fail) only[go_sem,↓reduceIte,hj0,hPh,hqh,h6]
    refine Qa hP (Qt1 (K:=4*K) (E:=E+E) (bP.mono (by omega) (by omega)) (b2.mono (by omega) (by omega)) (by omega) (by omega) (by omega) (by omega) (by omega)) rfl rfl rfl ?_
    rw[<-hPe]
    simp+decide (disch:=first|exact D4 hj0 hPh hqh h6|fail) only[go_sem,↓reduceIte,hj0,hPh,hqh,h6]
    refine Qaj (fun hn=> ?_) (fun hn=> ?_)
    ·have hnl:0<P'.length:=by omega
     have hnh:=Qmt hnl
     have hnm:=bN _ (Qay (List.length_pos_iff.1 hnl))
     have hlt':=hlt _ (Qay (List.length_pos_iff.1 hnl))
     have hge:¬0<=Qah (hdT P').2 (hdT (exP q p k)).2:=by omega
     simp+decide (disch:=first|exact D5 hj0 hPh hqh h6 hnh|fail) only[go_sem,↓reduceIte,hj0,hPh,hqh,h6,hnh]
     refine Qa hP (Qoe (o:=0) hnm.m hPm.m (by omega)) rfl rfl rfl ?_
     rw[Qpb]
     simp+decide (disch:=first|exact D5 hj0 hPh hqh h6 hge|fail) only[go_sem,↓reduceIte,hj0,hPh,hqh,h6,hge]
     refine Qh (k0-(k+1)) (by omega) ⟨k+1,rfl,by omega,?_⟩
     rw[show FW.exQ q p (k+1)=exQ q p k++[(a,m)]from hQe0,show FW.exP q p (k+1)=P' from hPe0]
     simp+decide (disch:=first|exact E0|fail) only[go_sem,↓reduceIte,Q6,List.contains_cons,List.contains_nil,List.flatMap_cons,List.flatMap_nil,List.append_nil]
    ·simp+decide (disch:=first|exact D4 hj0 hPh hqh h6|fail) only[go_sem,↓reduceIte,hj0,hPh,hqh,h6]
     refine Qh (k0-(k+1)) (by omega) ⟨k+1,rfl,by omega,?_⟩
     rw[show FW.exQ q p (k+1)=exQ q p k++[(a,m)]from hQe0,show FW.exP q p (k+1)=P' from hPe0]
     simp+decide (disch:=first|exact E0|fail) only[go_sem,↓reduceIte,Q6,List.contains_cons,List.contains_nil,List.flatMap_cons,List.flatMap_nil,List.append_nil]
   ·
    simp+decide (disch:=first|exact D3 hj0 hPh hqh|fail) only[go_sem,↓reduceIte,hj0,hPh,hqh]
    refine Qa hP hDiv rfl rfl rfl ?_
    simp+decide (disch:=first|exact D4 hj0 hPh hqh h6|fail) only[go_sem,↓reduceIte,hj0,hPh,hqh,h6]
    rw[Qam (f:=PV.term) (y:=(a,m)) (xs:=exQ q p k) (ty':=127) (fz:=false) (T1 hh) Tr0 (by omega) hQl.symm (by omega) (by omega)]
    simp+decide (disch:=first|exact D4 hj0 hPh hqh h6|fail) only[go_sem,↓reduceIte,hj0,hPh,hqh,h6]
    refine Qcd hP (Qj4 b1 (bq.mono (K':=K+K) (by omega) (Nat.le_refl _)) (by omega) (by simp) (by omega) (by simp;omega) (by omega) (by omega)) Ur0 rfl ?_
    simp+decide (disch:=first|exact D4 hj0 hPh hqh h6|fail) only[go_sem,↓reduceIte,hj0,hPh,hqh,h6]
    refine Qa hP (Qt1 (K:=4*K) (E:=E+E) (bP.mono (by omega) (by omega)) (b2.mono (by omega) (by omega)) (by omega) (by omega) (by omega) (by omega) (by omega)) rfl rfl rfl ?_
    rw[<-hPe]
    simp+decide (disch:=first|exact D4 hj0 hPh hqh h6|fail) only[go_sem,↓reduceIte,hj0,hPh,hqh,h6]
    refine Qaj (fun hn=> ?_) (fun hn=> ?_)
    ·have hnl:0<P'.length:=by omega
     have hnh:=Qmt hnl
     have hnm:=bN _ (Qay (List.length_pos_iff.1 hnl))
     have hlt':=hlt _ (Qay (List.length_pos_iff.1 hnl))
     have hge:¬0<=Qah (hdT P').2 (hdT (exP q p k)).2:=by omega
     simp+decide (disch:=first|exact D5 hj0 hPh hqh h6 hnh|fail) only[go_sem,↓reduceIte,hj0,hPh,hqh,h6,hnh]
     refine Qa hP (Qoe (o:=0) hnm.m hPm.m (by omega)) rfl rfl rfl ?_
     rw[Qpb]
     simp+decide (disch:=first|exact D5 hj0 hPh hqh h6 hge|fail) only[go_sem,↓reduceIte,hj0,hPh,hqh,h6,hge]
     refine Qh (k0-(k+1)) (by omega) ⟨k+1,rfl,by omega,?_⟩
     rw[show FW.exQ q p (k+1)=exQ q p k++[(a,m)]from hQe0,show FW.exP q p (k+1)=P' from hPe0]
     simp+decide (disch:=first|exact E0|fail) only[go_sem,↓reduceIte,Q6,List.contains_cons,List.contains_nil,List.flatMap_cons,List.flatMap_nil,List.append_nil]
    ·simp+decide (disch:=first|exact D4 hj0 hPh hqh h6|fail) only[go_sem,↓reduceIte,hj0,hPh,hqh,h6]
     refine Qh (k0-(k+1)) (by omega) ⟨k+1,rfl,by omega,?_⟩
     rw[show FW.exQ q p (k+1)=exQ q p k++[(a,m)]from hQe0,show FW.exP q p (k+1)=P' from hPe0]
     simp+decide (disch:=first|exact E0|fail) only[go_sem,↓reduceIte,Q6,List.contains_cons,List.contains_nil,List.flatMap_cons,List.flatMap_nil,List.append_nil]
 ·have hP0:exP q p k=[]:=List.length_eq_zero_iff.1 (by omega)
  have hk0':k=k0:=by
   apply Decidable.byContradiction;intro hne
   exact(hgo k (by omega)).1 hP0
  subst hk0'
  simp+decide (disch:=first|exact E2 h6 hh|fail) only[go_sem,↓reduceIte,h6,hh,Q6,List.contains_cons,List.contains_nil,List.flatMap_cons,List.flatMap_nil,List.append_nil]
  exact Qct (by rw[exR,if_pos hP0]) rfl rfl (by simp[List.take_of_length_le,hQl,Qy]) (Qy _)
end Go.Proofs.YtonfajmchebkeaaGreat
namespace Go.FW
open Go
set_option maxRecDepth 100000
structure Sm4(q:List Tm):Prop where
 n:Nrm q
 b:PB 3 4 q
 m:ML 4 q
 l:q.length<=6
structure Cf(j:Nat)(p:List Tm):Prop where
 d:∃D N:Nat,0<D/\0<N/\nl D<=31+120000*j/\nl N<=13+75000*j/\Dn D p/\n1 p<=(N:Rat)
 w:∀t∈p,psi t.2<=6560
 pos:Pos p
 ml:ML 4 p
 n:Nrm p
theorem Sm4.sz{q:List Tm}(h:Sm4 q):SZ 19 11 4 q:=(SZ.of h.b h.l).mono (by omega) (by omega) (by omega)
theorem Sm4.sml{q:List Tm}(h:Sm4 q):Sml q:=⟨h.sz.mono (by omega) (by omega) (by omega),by have:=h.l;omega,h.n⟩
theorem Sm4.cf{q:List Tm}(h:Sm4 q):Cf 0 q:=by
 obtain⟨⟨D,N,h1,h2,h3,h4,h5,h6⟩,_⟩:=h.sz
 refine⟨⟨D,N,h1,h2,by omega,by omega,h5,h6⟩,fun t ht=> ?_,fun t ht i=>((h.b t ht).m.eN i).1,h.m,h.n⟩
 have c0:=(h.b t ht).m.eN 0;have c1:=(h.b t ht).m.eN 1;have c2:=(h.b t ht).m.eN 2;have c3:=(h.b t ht).m.eN 3
 simp only[psi];omega
theorem Q2p(x:Nat):∃n,n=x:=⟨x,rfl⟩
theorem Q0b{n0 a w n:Nat}(e:n0=a*w^n)(h:0<a)(h2:0<w):0<n0:=by rw[e];exact Nat.mul_pos h (Nat.pow_pos h2)
theorem Qaek{w:Rat}(hw:1<=w){N:Nat}:∀ {p:List Tm},(∀t∈p,psi t.2<=N)->nW w p<=n1 p*w^N
 | [],_=>by simp only[nW,n1];grind
 |t::p,h=>by
  have ih:=Qaek hw (N:=N) (p:=p) fun s hs=>h s (List.mem_cons_of_mem _ hs)
  have h1:=Qz1 hw (h t (List.mem_cons_self ..))
  have h2:=Rat.mul_le_mul_of_nonneg_left h1 (Qbx t.1)
  simp only[nW,n1];grind
theorem Qadx{p:List Tm}{N w n n0:Nat}(hw:(1:Rat)<=(w:Rat))(hn:n1 p<=(N:Rat))(hp:∀t∈p,psi t.2<=n)(e:n0=N*w^n):nW (w:Rat) p<=(n0:Rat):=by
 have h1:=Qaek hw hp
 have h2:=Rat.mul_le_mul_of_nonneg_right hn (Qeq (show(0:Rat)<=(w:Rat)by grind) n)
 rw[e,Rat.natCast_mul,Rat.natCast_pow]
 exact Rat.le_trans h1 h2
theorem Q8c{D d f n:Nat}(e:D=d*f^n):(D:Rat)=(d:Rat)*(f:Rat)^n:=by rw[e,Rat.natCast_mul,Rat.natCast_pow]
theorem Q4x(f:Rat){a b n:Nat}(h:n=a+b+1):f^n=f^a*f^b*f:=by rw[h,Rat.pow_succ,Qg7]
theorem Qady{x y D d A B f:Rat}(hD:D=d*(A*B*f)):x/y*D=x*(d*A)*B*(f/y):=by rw[hD];grind
theorem Qael{M:Rat}:∀ {l:List Tm},(∀t∈l,Qbb t.1<=M)->n1 l<=(l.length:Rat)*M
 | [],_=>by
  show(0:Rat)<=((0:Nat):Rat)*M
  have:((0:Nat):Rat)=0:=rfl
  rw[this];grind
 |t::l,h=>by
  have ih:=Qael (M:=M) (l:=l) fun s hs=>h s (List.mem_cons_of_mem _ hs)
  have h1:=h t (List.mem_cons_self ..)
  rw[List.length_cons,Rat.natCast_add]
  have:((1:Nat):Rat)=1:=rfl
  simp only[n1];rw[this];grind
theorem Q2q{q p:List Tm}{t:Tm}:∀ {k:Nat},t∈exQ q p k->∃i,i<k/\t=exT q (exP q p i)
 |0,h=>by cases h
 | k+1,h=>by
  rcases List.mem_append.1 (show t∈exQ q p k++[exT q (exP q p k)]from h)with h|h
  ·obtain⟨i,h1,h2⟩:=Q2q h
   exact⟨i,by omega,h2⟩
  ·exact⟨k,by omega,by simpa using h⟩
theorem Qanv{y:Tm}{q:List Tm}:IsI (((Qpq y q:Nat):Rat)/y.1):=by
 have h3:=Qk3 y.1
 have h4:((y.1.num.natAbs:Nat):Rat)/y.1=(y.1.den:Rat)∨((y.1.num.natAbs:Nat):Rat)/y.1= -(y.1.den:Rat)∨y.1=0:=by
  rw[<-h3];unfold Qbb;grind
 have e:((Qpq y q:Nat):Rat)/y.1=(Qg8 q:Rat)*(((y.1.num.natAbs:Nat):Rat)/y.1):=by
  unfold Qpq;rw[Rat.natCast_mul];grind
 rw[e]
 rcases h4 with h4|h4|h4
 ·rw[h4];exact(IsI.nat _).mul (IsI.nat _)
 ·rw[h4];exact(IsI.nat _).mul (IsI.nat _).neg
 ·rw[h4,Rat.div_def,Rat.inv_zero,Rat.mul_zero,Rat.mul_zero];exact⟨0,rfl⟩
theorem Qadz{x y:Rat}(hy:y≠0):Qbb (x/y)<=Qbb x*(y.den:Rat):=by
 have h1:=Qk3 y
 have h2:(1:Rat)<=((y.num.natAbs:Nat):Rat):=Qcm (a:=1) (by
  have:y.num≠0:=fun e=>hy (Rat.num_eq_zero.1 e)
  omega)
 have h3:Qbb x=Qbb (x/y)*Qbb y:=by rw[<-Qg6];congr 1;grind
 have h4:=Rat.mul_le_mul_of_nonneg_left h2 (Qbx (x/y))
 rw[<-h1]at h4
 rw[h3];grind
theorem Q8d {j : Nat} {p q : List Tm} (hp:Cf j p) (hq:Sm4 q) (h0:q≠[]) (hj:j<=16):
    ∃k0,k0<=8589934592/\(∀k,k<=k0->FW.PB 4194304 6560 (exP q p k)/\(exP q p k).length<=4294967296)/\(∀k,k<k0->Qe1 q (exP q p k))/\¬Qe1 q (exP q p k0)/\Cf (j+1) (exQ q p k0):=by
  obtain⟨y,q,rfl⟩:∃y q',q=y::q':=by
    cases q with
    |nil=>exact absurd rfl h0
    |cons y q=>exact⟨y,q,rfl⟩
  have nq:=hq.n
  have bq:=hq.b.mono (K':=3) (E':=8) (by omega) (by omega)
  have hQ:=qok bq nq hq.m
  have hy0:=nq.z y (by simp)
  obtain⟨w,hw⟩:∃w,w=exW y q:=⟨_,rfl⟩
  obtain⟨f,hf⟩:∃f,f=Qpq y q:=⟨_,rfl⟩
  have hFy:=Qanv (y:=y) (q:=q)
  obtain⟨⟨d,N,hd0,hN0,hdl,hNl,hDn,hn1⟩,hw4,hpos,hml,np⟩:=hp
  obtain⟨n0,hn0⟩:=Q2p (N*w^6560)
  have hw0:0<w:=by rw[hw];unfold exW;omega
  have hf0:0<f:=by
    rw[hf];unfold Qpq
    refine Nat.mul_pos (Qsd q) ?_
    have:y.1.num≠0:=fun e=>hy0 (Rat.num_eq_zero.1 e)
    omega
  have hn00:0<n0:=Q0b hn0 hN0 hw0
  rw[<-hw,<-hf]at hQ
  rw[<-hf]at hFy
  have lq:=hq.l
  rw[List.length_cons]at lq
  have a3:=Q2f (PB.cons.1 bq).2
  have a4:=Q2g (PB.cons.1 bq).2
  have a5:=(PB.cons.1 bq).1.c
  unfold rs at a5
  have b1:=Qb1 (Qg8 q) y.1.num.natAbs
  have b2:=Qb1 (Qdm q) y.1.den
  have b3:=Qmi (Qdm q*y.1.den) 1
  rw[Qem]at b3
  have e1:nl w=nl (Qdm q*y.1.den+1):=by rw[hw];rfl
  have e2:nl f=nl (Qg8 q*y.1.num.natAbs):=by rw[hf];rfl
  have hwl:nl w<=11:=by omega
  have hfl:nl f<=18:=by omega
  have b4:=Qt3 w 6560
  have b5:=Qt3 f 6560
  have b8:=Qb1 d (f^6560)
  have b9:=Qb1 n0 (d*f^6560)
  have b6:=Qb1 N (w^6560)
  rw[<-hn0]at b6
  have hn0l:nl n0<=13+75000*j+72161:=by omega
  have hsz:nl (n0*(d*f^6560))<4194304:=by omega
  have hw1:(1:Rat)<=(w:Rat):=Qcm (a:=1) (by omega)
  have hE0:ExI d f w n0 p:=by
    refine⟨fun t ht=>⟨hw4 t ht,?_⟩,?_,hpos,hml,np⟩
    · have h1:=(hDn t ht).mul ((IsI.nat f).pow (6560-psi t.2))
      rw[<-Rat.mul_assoc];exact h1
    · exact Qadx hw1 hn1 hw4 hn0
  have hPB:∀ {r:List Tm},ExI d f w n0 r->FW.PB 4194304 6560 r:=fun h=>h.PB hd0 hf0 hw0 hn00 hsz
  have hinv:∀k,(∀j,j<k->Qe1 (y::q) (exP (y::q) p j))->ExI d f w n0 (exP (y::q) p k):=by
    intro k
    induction k with
    |zero=>intro _;exact hE0
    | succ k ih=>
      intro hg
      have h1:=ih (fun j hj=>hg j (by omega))
      exact h1.step hQ (hPB h1) bq nq (hg k (by omega))
  have hdec:∀k,(∀j,j<k->Qe1 (y::q) (exP (y::q) p j))->Qe1 (y::q) (exP (y::q) p k)->c4 (hdT (exP (y::q) p k)).2+k<=c4 (hdT p).2:=by
    intro k
    induction k with
    |zero=>intro _ _;simp only[exP,Nat.add_zero,Nat.le_refl]
    | succ k ih=>
      intro hg hgk
      have i1:=hinv k (fun j hj=>hg j (by omega))
      have i2:=hinv (k+1) hg
      have h1:=ih (fun j hj=>hg j (by omega)) (hg k (by omega))
      have h2:=Qzz (hPB i1) (bq.mono (by omega) (by omega)) i1.nrm nq (by simp) (hg k (by omega)) _ (Qay hgk.1)
      have m1:=Qay (hg k (by omega)).1
      have m2:=Qay hgk.1
      have h3:=Qaee (i2.pos _ m2) (i1.pos _ m1) (i2.ml _ m2) (i1.ml _ m1) (i2.i _ m2).1 (i1.i _ m1).1 h2
      omega
  have hex:∀n,(∃k0,k0<=n/\(∀k,k<k0->Qe1 (y::q) (exP (y::q) p k))/\¬Qe1 (y::q) (exP (y::q) p k0))∨∀k,k<=n->Qe1 (y::q) (exP (y::q) p k):=by
    intro n
    induction n with
    | zero=>
      by_cases h:Qe1 (y::q) (exP (y::q) p 0)
      · exact .inr fun k hk => by obtain rfl:k=0:=by omega
                                  exact h
      · exact .inl ⟨0,by omega,fun k hk=>by omega,h⟩
    | succ n ih=>
      rcases ih with⟨k0,h1,h2,h3⟩|h
      · exact .inl ⟨k0,by omega,h2,h3⟩
      · by_cases hn:Qe1 (y::q) (exP (y::q) p (n+1))
        · refine .inr fun k hk=> ?_
          rcases Nat.lt_or_eq_of_le hk with h4|h4
          · exact h k (by omega)
          · rw[h4];exact hn
        · exact .inl ⟨n+1,Nat.le_refl _,fun k hk=>h k (by omega),hn⟩
  rcases hex 8589934592 with⟨k0,h1,h2,h3⟩|h
  · have hk:∀k,k<=k0->ExI d f w n0 (exP (y::q) p k):=fun k hk=>hinv k fun j hj=>h2 j (by omega)
    have hQn:=Q2c (K:=4194304) (E:=6560) (bq.mono (by omega) (by omega)) np nq (by simp) (fun k h=>hPB (hk k h)) h2 k0 (Nat.le_refl _)
    refine⟨k0,h1,fun k h=>⟨hPB (hk k h),(hk k h).len⟩,h2,h3,?_⟩
    have hT:∀t∈exQ (y::q) p k0,∃x:Tm,psi x.2<=6560/\IsI (x.1*((d:Rat)*(f:Rat)^(6560-psi x.2)))/\Qbb x.1<=(n0:Rat)/\(∀i,0<=eN (Qb2 x.2 y.2) i)/\x.2.length<=4/\psi (Qb2 x.2 y.2)<=psi x.2/\t=(x.1/y.1,Qb2 x.2 y.2):=fun t ht=>by
      obtain⟨i,hi,rfl⟩:=Q2q ht
      have hg:=h2 i hi
      have hI:=hk i (by omega)
      have hm:=Qay hg.1
      obtain⟨g1,g2⟩:=hI.i _ hm
      have hxm:=(hPB hI _ hm).m
      have hym:=(bq y (by simp)).m
      have hqp:=Qz2 hxm hym hg.2
      refine⟨hdT (exP (y::q) p i),g1,g2,Rat.le_trans (Qz3 hw1 hm) hI.n,hqp,hI.ml _ hm,?_,rfl⟩
      have hmm:Qal (Qb2 (hdT (exP (y::q) p i)).2 y.2) y.2=(hdT (exP (y::q) p i)).2:=Qg5 hxm hym (hPB hI _ hm).l hg.2
      have hpsi:=Qmv hqp (hQ.pos y (by simp))
      rw[hmm]at hpsi
      omega
    have hy1:=Qt3 f 6561
    obtain⟨D',hD'⟩:=Q2p (d*f^6561)
    refine⟨⟨D',8589934592*(n0*y.1.den),Q0b hD' hd0 hf0,Nat.mul_pos (by omega) (Nat.mul_pos hn00 y.1.den_pos),?_,?_,fun t ht=> ?_,?_⟩,fun t ht=> ?_,fun t ht i=> ?_,fun t ht=> ?_,hQn.1⟩
    · have:=Qb1 d (f^6561);rw[<-hD']at this;omega
    · have g1:=Qb1 8589934592 (n0*y.1.den)
      have g2:=Qb1 n0 y.1.den
      have g3:nl 8589934592<=3:=by decide+kernel
      omega
    · obtain⟨x,x1,x2,_,_,_,_,rfl⟩:=hT t ht
      have g1:=(x2.mul ((IsI.nat f).pow (psi x.2))).mul hFy
      have e:x.1/y.1*((D':Nat):Rat)=x.1*((d:Rat)*(f:Rat)^(6560-psi x.2))*(f:Rat)^psi x.2*((f:Rat)/y.1):=by
        refine Qady ?_
        rw[Q8c hD',Q4x (f:Rat) (show 6561=6560-psi x.2+psi x.2+1 by omega)]
      show IsI (x.1/y.1*_)
      rw[e];exact g1
    · have g:=Qael (M:=(n0:Rat)*(y.1.den:Rat)) (l:=exQ (y::q) p k0) fun t ht=>by
        obtain⟨x,_,_,x3,_,_,_,rfl⟩:=hT t ht
        have g1:=Qadz (x:=x.1) hy0
        have g2:=Rat.mul_le_mul_of_nonneg_right x3 (Qcm (a:=0) (b:=y.1.den) (by omega))
        exact Rat.le_trans g1 g2
      rw[Qql]at g
      have g2:=Rat.mul_le_mul_of_nonneg_right (Qcm h1) (show(0:Rat)<=(n0:Rat)*(y.1.den:Rat)from Rat.mul_nonneg (Qcm (a:=0) (by omega)) (Qcm (a:=0) (by omega)))
      rw[Rat.natCast_mul,Rat.natCast_mul]
      exact Rat.le_trans g g2
    · obtain⟨x,x1,_,_,_,_,x6,rfl⟩:=hT t ht
      simp only;omega
    · obtain⟨x,_,_,_,x4,_,_,rfl⟩:=hT t ht
      exact x4 i
    · obtain⟨x,_,_,_,_,x5,_,rfl⟩:=hT t ht
      have g1:=Qd3 (Qee (· - ·) x.2 y.2)
      rw[Qbi]at g1
      have:=hq.m y (by simp)
      show(Qb2 x.2 y.2).length<=4
      unfold Qb2;omega
  · exfalso
    have hg:=h 0 (by omega)
    have h1:=hdec 8589934592 (fun j hj=>h j (by omega)) (h _ (Nat.le_refl _))
    have h2:=Qaef (hE0.i _ (Qay hg.1)).1
    omega
def Qqo(q p:List Tm)(k0:Nat):Prop:=(∀k,k<k0->Qe1 q (exP q p k))/\¬Qe1 q (exP q p k0)
theorem Q4y{q p:List Tm}{a b:Nat}(ha:Qqo q p a)(hb:Qqo q p b):a=b:=by
 rcases Nat.lt_trichotomy a b with h|h|h
 ·exact absurd (hb.1 a h) ha.2
 ·exact h
 ·exact absurd (ha.1 b h) hb.2
open Classical in
noncomputable def exO (q p : List Tm) : Option (List Tm) := if h : ∃ k, Qqo q p k then (if exP q p h.choose = [] then some (exQ q p h.choose) else none) else none
theorem Qmz{q p:List Tm}{k:Nat}(h:Qqo q p k):exO q p=if exP q p k=[]then some (exQ q p k)else none:=by
 have hx:∃k,Qqo q p k:=⟨k,h⟩
 have e:hx.choose=k:=Q4y hx.choose_spec h
 unfold exO
 rw[dif_pos hx,e]
def PV.exO:Option (List Tm)->PV
 |some s=> .tup [PV.poly s,.bool true]
 |none=> .tup [PV.poly [],.bool false]
theorem Qamo{q p:List Tm}{k:Nat}(h:Qqo q p k):exR q p k=PV.exO (FW.exO q p):=by
 rw[Qmz h]
 unfold exR
 split<;>rfl
theorem Q8e{j:Nat}{p q s:List Tm}(hp:Cf j p)(hq:Sm4 q)(h0:q≠[])(hj:j<=16)(h:exO q p=some s):Cf (j+1) s:=by
 obtain⟨k,_,_,h1,h2,h3⟩:=Q8d hp hq h0 hj
 rw[Qmz ⟨h1,h2⟩]at h
 split at h
 ·cases h;exact h3
 ·cases h
noncomputable def exL (q : List Tm) : List (List Tm) -> Option (List (List Tm))
 | [] => some []
 | p :: l => (exO q p).bind fun s => (exL q l).map (s :: ·)
theorem Q8f{j:Nat}{q:List Tm}(hq:Sm4 q)(h0:q≠[])(hj:j<=16):∀ {l r:List (List Tm)},(∀p∈l,Cf j p)->exL q l=some r->∀s∈r,Cf (j+1) s
 | [],r,_,h=>by cases h;simp
 |p::l,r,hl,h=>by
  simp only[exL,Option.bind_eq_some_iff,Option.map_eq_some_iff]at h
  obtain⟨s,h1,t,h2,rfl⟩:=h
  intro x hx
  rcases List.mem_cons.1 hx with rfl|hx
  ·exact Q8e (hl p (List.mem_cons_self ..)) hq h0 hj h1
  ·exact Q8f hq h0 hj (fun y hy=>hl y (List.mem_cons_of_mem _ hy)) h2 x hx
theorem Q2r{q:List Tm}:∀ {l r:List (List Tm)},exL q l=some r->r.length=l.length
 | [],r,h=>by cases h;rfl
 |p::l,r,h=>by
  simp only[exL,Option.bind_eq_some_iff,Option.map_eq_some_iff]at h
  obtain⟨s,_,t,h2,rfl⟩:=h
  simp[Q2r h2]
theorem Qsf{q:List Tm}:∀ {l:List (List Tm)} {i:Nat} (h:i<l.length),exO q l[i]=none->exL q l=none
 |p::l,0,_,e=>by
  simp only[List.getElem_cons_zero]at e
  simp[exL,e]
 |p::l,i+1,h,e=>by
  have:=Qsf (l:=l) (i:=i) (by simpa using h) (by simpa using e)
  simp[exL,this]
end Go.FW
namespace Go.FW
open Go
variable {C : Ctx} {ρ : Nat -> Option Nat} {fr fr' : Fr} {hp : HP} {w : World} {K R : Qg}
theorem Q4z {P : Program} {f : FuncId} {fn : Func} {sf : SFn} {args : List PV} {Rr : PV -> Prop} (hm : P.follows .mixedOrders = true) (hf : P.funcs[f]? = some fn) (hname : (fn.name != "runtime.NumGoroutine") = true) (hc : Qe P fn = some sf.strip) (hn : args.length <= sf.n /\ sf.n <= 1000000)
  (hv:∀C:Ctx,C.P=P->C.N=sf.n->vc C (Qpg (Qdj sf.rs Rr)) [.c sf.body] (Qfw args) hp0):Qd P f args Rr:=by
 simp only[Qe,Option.bind_eq_some_iff,Option.map_eq_some_iff]at hc
 obtain⟨c,hb,sb,hcb,rs,hrs,hsf⟩:=hc
 obtain⟨n,rs',body⟩:=sf
 simp only[SFn.strip,SFn.mk.injEq]at hsf
 obtain⟨rfl,rfl,rfl⟩:=hsf
 refine⟨by simp[Qna,hf,hb];simpa using hname,fun w X vals hX hsz hrep=> ?_⟩
 let C:Ctx:=Ctx.plain P fn.ntmps w X hX hn.2
 refine calls_of_wp hf hb ?_
 have hsz':(vals++Array.replicate (fn.ntmps-vals.size) undef).size=fn.ntmps:=by simp at hn ⊢;omega
 have hsim:Sim C (Qfw args) hp0 (vals++Array.replicate (fn.ntmps-vals.size) undef) w:=by
  refine⟨fun _=>none,hsz',Ext.refl _ _,(fun _ _ h=>by cases h),by simp[hp0],by simp[hp0],fun i=> ?_⟩
  unfold Qfw
  cases hi:args[i]? with
  |none=>trivial
  | some p=>
   simp only[Option.getD_some]
   have hil:i<vals.size:=by rw[hsz];exact(List.getElem?_eq_some_iff.1 hi).1
   have hr:=hrep i p hi
   have e:(vals++Array.replicate (fn.ntmps-vals.size) undef).getD i undef=vals.getD i undef:=by
    rw[Qb3,if_pos hil]
   rw[e]
   refine Qm.ofData (hr.mono (fun _ _ _=>rfl) (fun b _ hn hx=> ?_) (Nat.le_refl _))
   rcases hx with hx|⟨_,_,h1,_⟩
   ·exact hn hx
   ·simp[hp0]at h1
 have fin:∀(fr:Fr)(hp:HP)(a:Act)(w':World),a.defers=[]->Sim C fr hp a.tmps w'->Qpg (Qdj rs Rr) fr hp->
   a.defers=[]/\∃v,(results fn a.tmps).run P w'= .ok v w'/\∃v' r,Ending.returned v= .returned v'/\Ext Qbd w w'/\Qcr w' X r v'/\Rr r:=by
  rintro fr hp a w' hd hs0 ⟨fr1,hp1,hw,hr⟩
  obtain⟨ρ,hs⟩:=hw C _ _ hs0
  obtain⟨v,r,h1,h2,h3⟩:=Qvv (C:=C) rfl hrs hs hr
  exact⟨hd,v,h1,v,r,rfl,Ctx.plain_ext hs.ext,h2,h3⟩
 exact Qqv (C:=C) (R:=Qpg (Qdj rs Rr)) hm c body [] _ (Qfw args) hp0 _ w hcb ⟨fun fr hp a w' hd hs hv=>(by rw[Qks]at hv;exact fin fr hp a w' hd hs hv),fun id sk' he=>(by simp[FW.Qak]at he),fin⟩ rfl hsim (hv C rfl rfl)
theorem Q8g {P : Program} {f : FuncId} {fn : Func} {sf : SFn} {args : List PV} {Rr : PV -> Prop} (hm : P.follows .mixedOrders = true) (hf : P.funcs[f]? = some fn) (hname : (fn.name != "runtime.NumGoroutine") = true) (hc : Qe P fn = some sf.strip) (hn : args.length <= sf.n /\ sf.n <= 1000000)
  (hv:∀C:Ctx,C.P=P->vc C (Qpg (Qdj sf.rs Rr)) [.c sf.body] (Qfw args) hp0):Qd P f args Rr:=
 Q4z hm hf hname hc hn fun C h _=>hv C h
theorem Qai1{ty w i d:Nat}{fz:Bool}{f:Nat->Rat}(h:i<w):ldM (some ⟨3,ty,Ql5 PV.rat f w,fz⟩) 3 true i 0 d fr hp K=K (upd fr d (PV.rat (f i))) hp:=by
 rw[Qo3 (by rw[Q0x];exact h) (by omega) (by simp),Qab0];rfl
theorem Qamp:(Qn3 (.tup [])=True)/\(∀(k:IntKind)(n:Int),Qn3 (.int k n)=True)/\(∀b:Bool,Qn3 (.bool b)=True)/\(∀(e:Nat)(xs:List PV),Qn3 (.sl e xs)=True)/\(∀cs:List PV,Qn3 (.agg cs)=True)/\(∀cs:List PV,Qn3 (.tup cs)=True):=by
 refine⟨?_,?_,?_,?_,?_,?_⟩<;>intros<;>simp[Qn3,PV.refs,PV.sref,rnP,rn1]
attribute [go_sem] Qamp Qai1
end Go.FW
namespace Go.FW
open Go
variable {C : Ctx} {ρ : Nat -> Option Nat} {fr fr' : Fr} {hp : HP} {w : World} {K R : Qg}
def ldX(p:PV)(γ n:Nat)(ag:Bool)(i o d:Nat)(fr:Fr)(hp:HP)(K:Qg):Prop:=match p with
 | .nst γ' e _ xs=>γ'=γ/\∃h:i<xs.length,o+n<=e/\(ag=false->n=1)/\K (upd fr d (ldN ag n o (xs[i]'h))) hp
 |_=>False
theorem Qamq{γ n i o d:Nat}{ag:Bool}:ldK n ag (.np γ i o) d fr hp K=ldX (fr γ) γ n ag i o d fr hp K:=by
 simp only[ldK,ldX]
 cases fr γ<;>rfl
def stX(p:PV)(h:Option HB)(v:Option (List PV))(γ n i o:Nat)(fr:Fr)(hp:HP)(K:Qg):Prop:=match p with
 | .nst γ' e ty xs=>γ'=γ/\(∃hb,h=some hb/\hb.fz=false)/\∃h:i<xs.length,o+n<=e/\match v with
   |some cs=>cs.length=n/\K (upd (Qdo γ fr) γ (.nst γ e ty (xs.set i (Qec (Qkk (xs[i]'h).ncells o cs))))) hp
   |none=>False
 |_=>False
theorem Qamr{γ n i o:Nat}{v:PV}:stK n (.np γ i o) v fr hp K=stX (fr γ) (hp γ) (stN v) γ n i o fr hp K:=by
 simp only[stK,stX]
 cases fr γ<;>rfl
theorem Qanw{γ e ty n o d:Nat}{ag:Bool}{x:PV}(h1:o+n<=e)(h2:ag=true∨n=1):ldX (.nst γ e ty [x]) γ n ag 0 o d fr hp K=K (upd fr d (ldN ag n o x)) hp:=by
 have:(ag=false->n=1):=fun h=>h2.resolve_left (by simp[h])
 simp[ldX,h1]
 exact fun _=>this
theorem Qanx{γ e ty n o e0 ty0:Nat}{x:PV}{xs0 cs:List PV}(h1:o+n<=e)(h2:cs.length=n):stX (.nst γ e ty [x]) (some ⟨e0,ty0,xs0,false⟩) (some cs) γ n 0 o fr hp K=K (upd (Qdo γ fr) γ (.nst γ e ty [Qec (Qkk x.ncells o cs)])) hp:=by
 simp[stX,h1,h2]
theorem Qany{γ ty B n w r d:Nat}{π:Nat->Nat}(h:r<n):ldX (.nst γ 1 ty (Qeb (Qd5 B n w π))) γ 1 false r 0 d fr hp K=K (upd fr d (.ms (B+π r) w)) hp:=by
 have hl:r<(Qeb (Qd5 B n w π)).length:=by simpa[Qeb,Qd5]using h
 simp only[ldX,hl,exists_true_left,true_and,Nat.le_refl,Nat.zero_add,implies_true]
 simp[ldN,Qeb,Qd5,PV.ncells,PV.cells]
theorem Qanz{γ ty B n w r m e0 ty0:Nat}{π:Nat->Nat}{xs0:List PV}(h:r<n):stX (.nst γ 1 ty (Qeb (Qd5 B n w π))) (some ⟨e0,ty0,xs0,false⟩) (some [.ms (B+m) w]) γ 1 r 0 fr hp K=K (upd (Qdo γ fr) γ (.nst γ 1 ty (Qeb (Qd5 B n w fun x=>if x=r then m else π x)))) hp:=by
 have hl:r<(Qeb (Qd5 B n w π)).length:=by simpa[Qeb,Qd5]using h
 have e:(Qd5 B n w π).set r (B+m,w)=Qd5 B n w fun x=>if x=r then m else π x:=by
  refine List.ext_getElem (by simp[Qd5]) fun j h1 h2=> ?_
  rw[List.getElem_set,Qzc,Qzc]
  split
  ·rename_i e;subst e;simp
  ·rename_i e;rw[if_neg fun e2=>e e2.symm]
 rw[<-e]
 simp only[stX,hl,exists_true_left,true_and,Nat.le_refl,Nat.zero_add,Option.some.injEq,exists_eq_left',List.length_cons,List.length_nil]
 simp[Qec,Qkk,Qeb,PV.ncells,PV.cells,List.map_set]
theorem stNs:
  (∀(γ o n:Nat),stN (.nso γ o n)=some [.nso γ o n])/\
  (∀(k:IntKind)(n:Int),stN (.int k n)=some [.int k n])/\
  (∀(b:Bool),stN (.bool b)=some [.bool b])/\
  (stN .nilS=some [.nilS])/\
  (∀(e:Nat)(xs:List PV),stN (.sl e xs)=some [.sl e xs])/\
  (∀(cs:List PV),stN (.pt cs)=some [.pt cs])/\
  (∀(cs:List PV),stN (.agg cs)=some cs):=by
 refine⟨?_,?_,?_,?_,?_,?_,?_⟩<;>intros<;>rfl
theorem Qams{β o n:Nat}(h:1000000<=β):stN (.mso β o n)=some [.mso β o n]:=by simp[stN,isB,h]
theorem Qai2{cs:List PV}:stN (.rag cs)=if cs.all PV.notU then some cs else none:=rfl
theorem Qan0:(∀(k:IntKind)(n:Int),(PV.int k n).notU=true)/\(∀b:Bool,(PV.bool b).notU=true)/\(PV.nilS.notU=true)/\(∀(e:Nat)(xs:List PV),(PV.sl e xs).notU=true)/\(∀(β o n:Nat),(PV.mso β o n).notU=true)/\(∀(β o n:Nat),(PV.nso β o n).notU=true)/\(∀cs:List PV,(PV.pt cs).notU=true)/\(PV.undef.notU=false):=by
 refine⟨?_,?_,?_,?_,?_,?_,?_,?_⟩<;>intros<;>rfl
theorem Qan1:(∀(k:IntKind)(n:Int),(PV.int k n).isRefC=false)/\(∀b:Bool,(PV.bool b).isRefC=false)/\(PV.nilS.isRefC=false)/\(∀(e:Nat)(xs:List PV),(PV.sl e xs).isRefC=false)/\(∀(β o n:Nat),(PV.mso β o n).isRefC=true)/\(∀(β o n:Nat),(PV.nso β o n).isRefC=true)/\(∀cs:List PV,(PV.pt cs).isRefC=false)/\(PV.undef.isRefC=true):=by
 refine⟨?_,?_,?_,?_,?_,?_,?_,?_⟩<;>intros<;>rfl
theorem Q8h{cs:List PV}(h:cs.any PV.isRefC=true):Qgh cs= .rag cs:=by simp[Qgh,h]
theorem Q8i{cs:List PV}(h:cs.any PV.isRefC=false):Qgh cs= .agg cs:=by simp[Qgh,h]
theorem Qamt{a b:PV}{cs:List PV}:Qec (a::b::cs)=Qgh (a::b::cs):=rfl
theorem Qamu{a:PV}:Qec [a]=a:=rfl
theorem Qan2{n o:Nat}{x:PV}:ldN true n o x=Qgh ((x.ncells.drop o).take n):=rfl
theorem Qan3{n o:Nat}{x:PV}:ldN false n o x=(x.ncells.drop o).headD .undef:=rfl
theorem Qai3{l cs:List PV}{o:Nat}:Qkk l o cs=l.take o++cs++l.drop (o+cs.length):=rfl
theorem Q40{cs:List PV}:(PV.rag cs).ncells=cs:=rfl
theorem Q41{cs:List PV}:(PV.agg cs).ncells=cs:=rfl
theorem Qan4{z:List PV}{ps:List (Nat×Nat×PV)}{d:Nat}(h:ps.any (fun p=>p.2.2.isNst)=true):Qf4 z ps d fr hp K=(Qhd z.length ps/\K (upd fr d (.rag (Qcx z (ps.map fun p=>(p.1,(stN p.2.2).getD []))))) hp):=by
 simp only[Qf4,if_pos h]
theorem Q1f{len:Nat}:Qhd len []=True:=by simp[Qhd]
theorem Q0c{len o n:Nat}{v:PV}{ps:List (Nat×Nat×PV)}:Qhd len ((o,n,v)::ps)=((∃cs,stN v=some cs/\cs.length=n/\o+n<=len)/\Qhd len ps):=by simp[Qhd]
theorem Qamv:(∀(γ o n:Nat),(PV.nso γ o n).isNst=true)/\(∀(cs:List PV),(PV.rag cs).isNst=true)/\(∀(β o n:Nat),(PV.mso β o n).isNst=decide (2000000<=β))/\(∀(cs:List PV),(PV.agg cs).isNst=false)/\(∀(k:IntKind)(n:Int),(PV.int k n).isNst=false)/\(∀b:Bool,(PV.bool b).isNst=false)/\(PV.nilS.isNst=false)/\(∀(e:Nat)(xs:List PV),(PV.sl e xs).isNst=false):=by
 refine⟨?_,?_,?_,?_,?_,?_,?_,?_⟩<;>intros<;>rfl
theorem Qai4:(∀(β:Nat)(k:IntKind)(n:Int),Qdf β (.int k n)= .int k n)/\(∀(β:Nat)(b:Bool),Qdf β (.bool b)= .bool b)/\(∀β:Nat,Qdf β .nilS= .nilS)/\(∀(β e:Nat)(xs:List PV),Qdf β (.sl e xs)= .sl e xs)/\(∀(β γ o n:Nat),Qdf β (.mso γ o n)=if γ=β then .undef else .mso γ o n)/\(∀(β γ o n:Nat),Qdf β (.nso γ o n)=if γ=β then .undef else .nso γ o n):=by
 refine⟨?_,?_,?_,?_,?_,?_⟩<;>intros<;>rfl
theorem Qai5{β γ e ty:Nat}{x:PV}(h:γ≠β):Qbk β (.nst γ e ty [x])= .nst γ e ty [Qec (x.ncells.map (Qdf β))]:=by simp[Qbk,h]
theorem Qai6{β γ ty B n w:Nat}{π:Nat->Nat}(h:γ≠β)(h2:β<B):Qbk β (.nst γ 1 ty (Qeb (Qd5 B n w π)))= .nst γ 1 ty (Qeb (Qd5 B n w π)):=by
 simp only[Qbk,if_neg h]
 congr 1
 conv=>rhs;rw[<-List.map_id (Qeb (Qd5 B n w π))]
 refine List.map_congr_left fun x hx=> ?_
 obtain⟨y,hy,rfl⟩:=List.mem_map.1 hx
 obtain⟨r,hr,rfl⟩:=List.mem_map.1 hy
 simp only[PV.ncells,PV.cells,List.map_cons,List.map_nil,Qdf,Qec]
 rw[if_neg (by omega)];rfl
theorem mv_P{β δ γ ty B n w:Nat}{π:Nat->Nat}(hβ:β<1000000)(hB:2000000<=B)(hγ:2000000<=γ):rnP (mvN β δ) (.nst γ 1 ty (Qeb (Qd5 B n w π)))= .nst γ 1 ty (Qeb (Qd5 B n w π)):=by
 have e1:mvN β δ γ=γ:=by unfold mvN;rw[if_neg (by omega)]
 simp only[rnP,e1]
 congr 1
 conv=>rhs;rw[<-List.map_id (Qeb (Qd5 B n w π))]
 refine List.map_congr_left fun x hx=> ?_
 obtain⟨y,hy,rfl⟩:=List.mem_map.1 hx
 obtain⟨r,hr,rfl⟩:=List.mem_map.1 hy
 refine Qag7 (.inr ⟨_,_,rfl⟩) fun β' n' h=> ?_
 cases h;unfold mvN;rw[if_neg (by omega)]
theorem Qan5{δ γ ty B n w:Nat}{π:Nat->Nat}(h:γ≠δ)(hδ:δ<B):Qdl δ (.nst γ 1 ty (Qeb (Qd5 B n w π)))= .nst γ 1 ty (Qeb (Qd5 B n w π)):=by
 simp only[Qdl,if_neg h]
 congr 1
 conv=>rhs;rw[<-List.map_id (Qeb (Qd5 B n w π))]
 refine List.map_congr_left fun x hx=> ?_
 obtain⟨y,hy,rfl⟩:=List.mem_map.1 hx
 obtain⟨r,hr,rfl⟩:=List.mem_map.1 hy
 simp only[PV.ncells,PV.cells,List.map_cons,List.map_nil,Qeg,Qec]
 rw[if_neg (by omega)];rfl
theorem Q8j{β:Nat}{cs:List PV}:Qas β (.rag cs)= .rag cs:=rfl
theorem Qad0{γ:Nat}{cs:List PV}:Qdl γ (.rag cs)= .rag (cs.map (Qeg γ)):=rfl
theorem Q8k{β:Nat}{cs:List PV}:Qbk β (.rag cs)= .rag (cs.map (Qdf β)):=rfl
theorem Qan6:(∀(γ:Nat)(k:IntKind)(n:Int),Qeg γ (.int k n)= .int k n)/\(∀(γ:Nat)(b:Bool),Qeg γ (.bool b)= .bool b)/\(∀γ:Nat,Qeg γ .nilS= .nilS)/\(∀(γ e:Nat)(xs:List PV),Qeg γ (.sl e xs)= .sl e xs)/\(∀(γ β o n:Nat),Qeg γ (.mso β o n)=if β=γ then .nso γ o n else .mso β o n)/\(∀(γ β o n:Nat),Qeg γ (.nso β o n)= .nso β o n):=by
 refine⟨?_,?_,?_,?_,?_,?_⟩<;>intros<;>rfl
theorem Qamw{γ i o off d:Nat}:Qly off (.np γ i o) d fr hp K=K (upd fr d (.np γ i (o+off))) hp:=rfl
theorem Q8l{γ γ' e ty:Nat}{xs:List PV}:Qdn γ (.nst γ' e ty xs)=if γ'=γ then .undef else .nst γ' e ty xs:=rfl
theorem Q8m{γ:Nat}{cs:List PV}:Qdn γ (.rag cs)= .rag cs:=rfl
attribute [go_sem] Qamw Q8l Q8m false_and List.all_cons List.all_nil Q8j Qad0 Q8k Qan6 exists_eq_left' Qamq Qamr Qanw Qanx Qany Qanz stNs Qams Qai2 Qan0 Qan1 Q8h Q8i Qamt Qamu Qan2 Qan3 Qai3 Q40 Q41 Qan4 Q1f Q0c Qamv Qai4 Qai5 Qai6 mv_P Qan5
theorem Q2s{p:PV}(h:Cln p):Qef p=p:=by
 obtain⟨h1,h2,h3,h4⟩:=h
 have h5:(p.refs.any isN||p.sref.any isS)=false:=by
  rw[Bool.or_eq_false_iff,List.any_eq_false,List.any_eq_false]
  exact⟨fun x hx=>by simp[h1 x hx],fun x hx=>by simp[h2 x hx]⟩
 unfold Qef
 split
 ·exact absurd rfl (h3 _ _ _ _)
 ·exact absurd rfl (h4 _)
 ·rw[h5];rfl
theorem Q42{V W:List (Nat×Nat)}{B B':List Nat}{X Z F:Fr}(h:Qrz V W=true)(hB:(B'.all B.contains)=true):ovr V X (bse B' (ovr W Z (bse B F)))=ovr W (ovr V X (bse B' Z)) (bse B F):=by
 have e1:Qda (ovr W Z (bse B F))=ovr W (Qda Z) (bse B F):=by
  funext s
  show Qef (ovr W Z (bse B F) s)=_
  unfold ovr
  split
  ·rfl
  ·exact Q2s (Qmp B F s)
 unfold bse
 rw[show Qda (ovr W Z (Qac B (Qda F)))=ovr W (Qda Z) (Qac B (Qda F))from e1,Q00 h hB]
theorem Q2t{γ e ty:Nat}{cs cs':List PV}(δ e' ty':Nat)(hfr:fr γ= .nst γ e ty [.rag cs])(h1:hp δ=none)(h2:2000000<=δ)(h3:0<e')(hl:cs'.length=cs.length)(hc:∀p∈cs.zip cs',p.2=p.1∨(p.1= .nilS/\p.2= .mso δ 0 0)):
  Wk fr hp (upd fr γ (.nst γ e ty [.rag cs'])) (Qt hp δ ⟨e',ty',[],false⟩):=by
 have h:=Qabv (fr:=fr) (hp:=hp) (γ:=γ) (e:=e) (ty:=ty) (xs:=[.rag cs]) (xs':=[.rag cs']) (fun x=>if x=δ then some (e',ty')else none) hfr (fun x y h=> ?_) rfl (fun i x x' k1 k2=> ?_)
 ·refine cast (congrArg (Wk fr hp (upd fr γ (.nst γ e ty [.rag cs']))) (funext fun x=> ?_)) h
  unfold Qt
  by_cases hx:x=δ
  ·subst hx;simp
  ·simp[hx]
 ·split at h
  ·rename_i hx;subst hx;cases h;exact⟨h1,h2,h3⟩
  ·cases h
 ·cases i with
  |succ i=>cases k1
  | zero=>
   cases k1;cases k2
   refine⟨hl,fun j y y' q1 q2=> ?_⟩
   have hz:(y,y')∈cs.zip cs':=by
    refine List.mem_of_getElem? (i:=j) ?_
    rw[List.getElem?_zip_eq_some]
    exact⟨q1,q2⟩
   rcases hc _ hz with h|⟨h,h'⟩
   ·exact .inl h
   ·exact .inr ⟨h,δ,(e',ty'),by simp,h'⟩
theorem Qt8{V W:List (Nat×Nat)}{B:List Nat}{X Z F:Fr}(h:Qrz V W=true):ovr V X (Qda (ovr W Z (Qac B (Qda F))))=ovr W (ovr V X (Qda Z)) (Qac B (Qda F)):=by
 have e1:Qda (ovr W Z (bse B F))=ovr W (Qda Z) (bse B F):=by
  funext s
  show Qef (ovr W Z (bse B F) s)=_
  unfold ovr
  split
  ·rfl
  ·exact Q2s (Qmp B F s)
 rw[show Qda (ovr W Z (Qac B (Qda F)))=ovr W (Qda Z) (Qac B (Qda F))from e1,Qhg h]
theorem Q1g{V W:List (Nat×Nat)}{X Z F:Fr}(h:Qrz V W=true):ovr V X (Qda (ovr W Z (Qda F)))=ovr W (ovr V X (Qda Z)) (Qda F):=by
 have:=Qt8 (V:=V) (W:=W) (B:=[]) (X:=X) (Z:=Z) (F:=F) h
 simpa only[Qca]using this
theorem Q8n{γ:Nat}{F:Fr}:Qdo γ (Qda F)=Qda F:=by
 have:=Qwh (γ:=γ) (B:=[]) (F:=F)
 simpa only[bse,Qca]using this
theorem Q8o{β:Nat}{F:Fr}(h:2000000<=β):Qd8 β (Qda F)=Qda F:=by
 have:=Qwg (B:=[]) (F:=F) h
 simpa only[bse,Qca]using this
attribute [go_sem] Q8n Q8o
theorem Qan7:(∀(k:IntKind)(n:Int),(PV.int k n).sref=[])/\(∀b:Bool,(PV.bool b).sref=[])/\(PV.nilS.sref=[])/\(PV.undef.sref=[])/\(∀(e:Nat)(xs:List PV),(PV.sl e xs).sref=[])/\(∀cs:List PV,(PV.agg cs).sref=[])/\(∀cs:List PV,(PV.tup cs).sref=[])/\(∀cs:List PV,(PV.pt cs).sref=[])/\
  (∀(β o n:Nat),(PV.mso β o n).sref=[])/\(∀(β o n:Nat),(PV.mp β o n).sref=[])/\(∀(β o n:Nat),(PV.nso β o n).sref=[β])/\(∀(β o n:Nat),(PV.np β o n).sref=[β]):=by
 refine⟨?_,?_,?_,?_,?_,?_,?_,?_,?_,?_,?_,?_⟩<;>intros<;>rfl
attribute [go_sem] Qan7
theorem Qad1{d w i:Nat}{k:IntKind}{f:Nat->Rat}(h:i<w):Qed 3 (.sl 3 (Ql5 PV.rat f w)) (.int k (i:Nat)) d fr hp K=K (upd fr d (.pt (PV.rat (f i)).cells)) hp:=by
 unfold Ql5
 rw[Qj8 (by omega) (by simp;omega)]
 simp
theorem Qad2{α:Type}{p:α->PV}{f:Nat->α}{w d e:Nat}:Qjj (.sl e (Ql5 p f w)) d fr hp K=K (upd fr d (.int .i64 (w:Nat))) hp:=by
 simp[Qjj,Ql5]
attribute [go_sem] Qad1 Qad2
theorem Qai7{i c:Nat}(h:c<1600000):(1600000+i=c)=False:=by simp;omega
attribute [go_sem] Qai7
end Go.FW
namespace Go.FW
open Go
variable {C C' : Ctx} {ρ ρ' : Nat -> Option Nat} {fr fr' : Fr} {hp hp' : HP} {w : World} {K R : Qg}
theorem Qai8{sk:List It}{r:RT}(s k:Nat)(l:List Nat){p D:PV}(h0:fr s=p)(h1:okDP fr k p)(h2:dsnP fr hp k p=D)(h3:rchP fr k p=l)(hv:vc C R (.o r::sk) (upd fr s D) (Qag hp l)):vc C R (.o (.wk r)::sk) fr hp:=by
 subst h0
 subst h2
 subst h3
 exact Qj0 (Qak3 s k h1) hv
end Go.FW
namespace Go.FW
open Go
structure Qcv(hp:HP)(p:PV)(cs:List PV)(rs:List Nat):Prop where
 d:(Q7 hp p).isData=true
 c:(Q7 hp p).cells=cs
 r:p.refs=rs
 n:p.isNst=false
theorem Qcv.flat{hp:HP}{p:PV}(h:p.flat=true):Qcv hp p p.cells []:=by
 obtain⟨s1,s2,s3⟩:=Qel (hp:=hp) h
 exact⟨by rw[s1];exact s3,by rw[s1],s2,Qtc h⟩
theorem Qcv.own{hp:HP}{β m e ty:Nat}{xs:List PV}{fz:Bool}(hb:hp β=some ⟨e,ty,xs,fz⟩)(hm:m=xs.length)(hB:isB β=false:=by decide):Qcv hp (.ms β m) [.sl e xs] [β]:=by
 have s4:Q7 hp (.ms β m)= .sl e xs:=by simp[Q7,Qa2,Qkj hB,hb,hm]
 exact⟨by rw[s4];rfl,by rw[s4];rfl,rfl,by simp[isB]at hB;simp[PV.isNst];omega⟩
theorem Q43{fr:Fr}{hp:HP}{K:Qg}{z:List PV}{d o1 o2 o3 o4 n1 n2 n3 n4:Nat}{p1 p2 p3 p4:PV}{c1 c2 c3 c4:List PV}{r1 r2 r3 r4:List Nat}(h1:Qcv hp p1 c1 r1)(h2:Qcv hp p2 c2 r2)(h3:Qcv hp p3 c3 r3)(h4:Qcv hp p4 c4 r4):
  Qf4 z [(o1,n1,p1),(o2,n2,p2),(o3,n3,p3),(o4,n4,p4)] d fr hp K=((c1.length=n1/\o1+n1<=z.length)/\(c2.length=n2/\o2+n2<=z.length)/\(c3.length=n3/\o3+n3<=z.length)/\(c4.length=n4/\o4+n4<=z.length)/\K (upd fr d (.agg (Qcx z [(o1,c1),(o2,c2),(o3,c3),(o4,c4)]))) (Qag hp (r1++(r2++(r3++r4))))):=by
 unfold Qf4 Qsl Qxs
 rw[if_neg (by simp[h1.n,h2.n,h3.n,h4.n])]
 apply propext
 simp only[List.mem_cons,List.not_mem_nil,or_false,forall_eq_or_imp,forall_eq,h1.d,h2.d,h3.d,h4.d,h1.c,h2.c,h3.c,h4.c,h1.r,h2.r,h3.r,h4.r,true_and,List.map_cons,List.map_nil,List.flatMap_cons,List.flatMap_nil,List.append_nil,and_assoc]
theorem Qai9{fr:Fr}{hp:HP}{K:Qg}{ty i d:Nat}{fz:Bool}{l:List (List Tm)}(h:i<l.length):ldM (some ⟨1,ty,l.map PV.poly,fz⟩) 1 false i 0 d fr hp K=K (upd fr d (PV.poly (l[i]'h))) hp:=by
 have hi:i<(l.map PV.poly).length:=by simpa using h
 simp[ldM,h,ldV,PV.cells]
theorem Qaja{fr:Fr}{hp:HP}{ty β i:Nat}{v:List Tm}{l:List (List Tm)}{K:Qg}(h:i<l.length):stM (some ⟨1,ty,l.map PV.poly,false⟩) β 1 i 0 (PV.poly v) fr hp K=K fr (Qt hp β ⟨1,ty,(l.set i v).map PV.poly,false⟩):=by
 rw[Qo4 (n:=1) (xs:=l.map PV.poly) (v:=PV.poly v) (by simpa using h) rfl rfl,List.map_set]
theorem Qad3{fr:Fr}{hp:HP}{K:Qg}{e β m d ty:Nat}{xs:List PV}{fz:Bool}{k:IntKind}(hb:hp β=some ⟨e,ty,xs,fz⟩)(hm:0<m):Qed e (.ms β m) (.int k 0) d fr hp K=K (upd fr d (.mp β 0 0)) hp:=by
 simp[Qed,hb,hm]
theorem Qke{fr:Fr}{hp:HP}{K:Qg}{bt:Bool}{i d:Nat}{c:Int}(m:Nat)(hc:c=(m:Int))(h:0<m):Qax .rem bt (.int .i64 (i:Nat)) (.int .i64 c) d fr hp K=K (upd fr d (.int .i64 ((i%m:Nat):Int))) hp:=by
 subst hc
 have:(m:Int)≠0:=by omega
 simp only[Qax,true_and,ne_eq,this,not_false_eq_true]
 rw[Int.ofNat_tmod]
theorem Qkf{fr:Fr}{hp:HP}{K:Qg}{bt:Bool}{i d:Nat}{c:Int}(m:Nat)(hc:c=(m:Int))(h:0<m)(hi:i<=9223372036854775807):Qax .quo bt (.int .i64 (i:Nat)) (.int .i64 c) d fr hp K=K (upd fr d (.int .i64 ((i/m:Nat):Int))) hp:=by
 subst hc
 have:(m:Int)≠0:=by omega
 simp only[Qax,true_and,ne_eq,this,not_false_eq_true]
 rw[<-Int.ofNat_tdiv,Qf6]
 ·exact Int.le_trans (by decide) (Int.natCast_nonneg _)
 ·have:=Nat.div_le_self i m;omega
end Go.FW
