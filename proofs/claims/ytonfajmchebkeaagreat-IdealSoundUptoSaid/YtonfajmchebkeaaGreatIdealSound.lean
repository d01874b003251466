/- IdealSound holds, for arguments of bulk at most 1048576. -/
import Derived.Test.YtonfajmchebkeaaGreatIdealSoundPart12
set_option linter.unusedSimpArgs false
set_option linter.unnecessarySimpa false
set_option linter.unusedVariables false
namespace Go.Proofs.YtonfajmchebkeaaGreat
open Go Go.FW
set_option linter.unusedSimpArgs false
set_option linter.unusedVariables false
set_option maxRecDepth 100000
theorem Q2y{p:List Tm}{vs:List Rat}(hp:Sm4 p)(hv:∀v∈vs,rs v<=1)(hl:vs.length=4):Qd Tryz.prog 26 [PV.poly p,PV.rats vs] (· = .tup [PV.rat (Qar vs p),.int .i64 0])/\rs (Qar vs p)<2^36:=by
 have h1:=hp.l
 have h:=Q0f (p:=p) (vs:=vs) (K:=3) (E:=4) (W:=1) hp.b hv (by omega) (by omega) (by omega) (by omega) (by omega)
 have ho:Qr7 vs p=false:=by
  unfold Qr7
  rw[List.any_eq_false]
  intro t ht
  have:=hp.m t ht
  simp;omega
 unfold evR at h
 rw[ho]at h
 refine⟨h,?_⟩
 have hr:=Qr8 hp.b hv (by omega) p.length (Nat.le_refl _)
 rw[List.take_length]at hr
 omega
def Qiz(vs:List Rat)(l:List (List Tm)):Bool:=l.all fun p=>decide (Qar vs p=0)
theorem Qlw{l:List (List Tm)}{vs:List Rat}(hp:∀p∈l,Sm4 p)(hll:l.length<2^40)(hv:∀v∈vs,rs v<=1)(hl:vs.length=4):Qd Tryz.prog 38 [PV.polys l,PV.rats vs] (· = .bool (Qiz vs l)):=by
 refine Qf Ql Tryz.func38 rfl Qamf (by simp[c38]) fun C hP=> ?_;simp only[c38,Zo,Zg,Zm,Zc,Zf,Zl,Zh,Zs,Zi,Zb,Zk,Zn,Zu,Zq,Zr,Zz]
 simp+decide (disch:=first|exact D0|fail) only[go_sem,↓reduceIte]
 refine Qz (by repeat (first|exact Qv|exact Qo|exact Qp|exact Qq|exact Qr|apply Qn|apply Qu|apply Q3|apply Q9|apply Qaa|apply Qk|apply Q2)) [(4,29)] [6] (fun q J hp=>∃i,q=l.length-i/\i<=l.length/\(∀j (h:j<l.length),j<i->Qar vs l[j]=0)/\J 5= .int .i64 (i:Nat)) l.length ?_ ?_
 ·refine⟨0,rfl,by omega,by omega,?_⟩
  simp+decide (disch:=first|exact D0|fail) only[go_sem,↓reduceIte]
  rfl
 rintro _ J h ⟨i,rfl,hi,h0,h5⟩
 simp+decide (disch:=first|exact D1 h5|fail) only[go_sem,↓reduceIte,h5]
 refine Qb (fun hg=> ?_) (fun hg=> ?_)
 ·have hi':i<l.length:=by omega
  obtain⟨e1,e2⟩:=Q2y (hp _ (List.getElem_mem hi')) hv hl
  have hmem:=List.getElem_mem hi'
  have hadd:Qar vs l[i]=0->∀j (h:j<l.length),j<i+1->Qar vs l[j]=0:=fun h j hj hji=>by
   by_cases e:j=i
   ·subst e;exact h
   ·exact h0 j hj (by omega)
  generalize hx:l[i]=x at *
  have hz:= @Qbc (Qar vs x)
  have hbad:Qar vs x≠0->Qiz vs l=false:=fun h=>by
   unfold Qiz
   rw[List.all_eq_false];exact⟨x,hmem,by simpa using h⟩
  generalize Qar vs x=y at *
  simp+decide (disch:=first|exact D2 h5 hx|fail) only[go_sem,↓reduceIte,h5,hx]
  refine Qa hP e1 rfl rfl rfl ?_
  simp+decide (disch:=first|exact D1 h5|fail) only[go_sem,↓reduceIte,h5]
  refine Qa hP (Qlt (a:=y) e2) rfl rfl rfl ?_
  simp+decide (disch:=first|exact D1 h5|fail) only[go_sem,↓reduceIte,h5]
  refine Qb (fun hc=> ?_) (fun hc=> ?_)
  ·simp+decide (disch:=first|exact D0|fail) only[go_sem,↓reduceIte]
   exact Qc (by rw[hbad fun e=>hc (hz.2 e)]) rfl
  ·simp+decide (disch:=first|exact D1 h5|fail) only[go_sem,↓reduceIte,h5]
   refine Qh (l.length-(i+1)) (by omega) ⟨i+1,rfl,by omega,hadd (hz.1 (by omega)),?_⟩
   simp+decide (disch:=first|exact D0|fail) only[go_sem,↓reduceIte]
 ·obtain rfl:i=l.length:=by omega
  simp+decide (disch:=first|exact D0|fail) only[go_sem,↓reduceIte]
  refine Qc ?_ rfl
  congr 1
  symm
  unfold Qiz
  rw[List.all_eq_true]
  intro p hp
  obtain⟨j,hj,rfl⟩:=List.getElem_of_mem hp
  exact decide_eq_true (h0 j hj hj)
def Qm2(vs:List Rat)(fs:List (List Tm))(ps:List Int):Bool:=(fs.zip ps).any fun x=>decide (0<x.2)&&decide (Qar vs x.1=0)
theorem Qpz{fs:List (List Tm)}{ps:List Int}{n:Int}{cs:List (List Tm)}{vs:List Rat}(hp:∀p∈fs,Sm4 p)(hll:fs.length<2^40)(hpl:ps.length=fs.length)(hv:∀v∈vs,rs v<=1)(hl:vs.length=4):Qd Tryz.prog 39 [PV.cert fs ps n cs,PV.rats vs] (· = .bool (Qm2 vs fs ps)):=by
 refine Qf Ql Tryz.func39 rfl Qamg (by simp[c39]) fun C hP=> ?_;simp only[c39,Zo,Zg,Zm,Zc,Zf,Zl,Zh,Zs,Zi,Zb,Zk,Zn,Zu,Zq,Zr,Zz]
 simp+decide (disch:=first|exact D0|fail) only[go_sem,↓reduceIte]
 refine Qz (by repeat (first|exact Qv|exact Qo|exact Qp|exact Qq|exact Qr|apply Qn|apply Qu|apply Q3|apply Q9|apply Qaa|apply Qk|apply Q2)) [(4,39)] [6] (fun q J hp=>∃i,q=fs.length-i/\i<=fs.length/\(∀j (h:j<fs.length) (h2:j<ps.length),j<i->¬(0<ps[j]/\Qar vs fs[j]=0))/\J 5= .int .i64 (i:Nat)/\hp 2=some ⟨4,79,[PV.cert fs ps n cs],false⟩) fs.length ?_ ?_
 ·refine⟨0,rfl,by omega,by omega,?_⟩
  simp+decide (disch:=first|exact D0|fail) only[go_sem,↓reduceIte]
  rfl
 rintro _ J h ⟨i,rfl,hi,h0,h5,b2⟩
 simp+decide (disch:=first|exact D2 h5 b2|fail) only[go_sem,↓reduceIte,h5,b2]
 refine Qb (fun hg=> ?_) (fun hg=> ?_)
 ·have hi':i<fs.length:=by omega
  have hip:i<ps.length:=by omega
  obtain⟨e1,e2⟩:=Q2y (hp _ (List.getElem_mem hi')) hv hl
  have hmem:(fs[i],ps[i])∈fs.zip ps:=by
   rw[<-List.getElem_zip (h:=by rw[List.length_zip];omega)];exact List.getElem_mem _
  have hadd:¬(0<ps[i]/\Qar vs fs[i]=0)->∀j (h:j<fs.length) (h2:j<ps.length),j<i+1->¬(0<ps[j]/\Qar vs fs[j]=0):=fun h j hj hj2 hji=>by
   by_cases e:j=i
   ·subst e;exact h
   ·exact h0 j hj hj2 (by omega)
  have hbad:0<ps[i]->Qar vs fs[i]=0->Qm2 vs fs ps=true:=fun h h'=>by
   unfold Qm2
   rw[List.any_eq_true];exact⟨_,hmem,by simp[h,h']⟩
  generalize hx:fs[i]=x at *
  generalize hy:ps[i]=z at *
  have hz:= @Qbc (Qar vs x)
  generalize Qar vs x=y at *
  simp+decide (disch:=first|exact D3 h5 b2 hx|fail) only[go_sem,↓reduceIte,h5,b2,hx]
  refine Qa hP e1 rfl rfl rfl ?_
  simp+decide (disch:=first|exact D3 h5 b2 hy|fail) only[go_sem,↓reduceIte,h5,b2,hy]
  refine Qaj (fun hn=> ?_) (fun hn=> ?_)
  ·simp+decide (disch:=first|exact D1 h5|fail) only[go_sem,↓reduceIte,h5]
   refine Qa hP (Qlt (a:=y) e2) rfl rfl rfl ?_
   simp+decide (disch:=first|exact D1 h5|fail) only[go_sem,↓reduceIte,h5]
   refine Qb (fun hc=> ?_) (fun hc=> ?_)
   ·simp+decide (disch:=first|exact D0|fail) only[go_sem,↓reduceIte]
    exact Qc (by rw[hbad hn (hz.1 hc)]) rfl
   ·simp+decide (disch:=first|exact D1 h5|fail) only[go_sem,↓reduceIte,h5]
    refine Qh (fs.length-(i+1)) (by omega) ⟨i+1,rfl,by omega,hadd fun h=>hc (hz.2 h.2),?_⟩
    simp+decide (disch:=first|exact D1 b2|fail) only[go_sem,↓reduceIte,b2]
  ·simp+decide (disch:=first|exact D1 h5|fail) only[go_sem,↓reduceIte,h5]
   refine Qh (fs.length-(i+1)) (by omega) ⟨i+1,rfl,by omega,hadd fun h=>hn h.1,?_⟩
   simp+decide (disch:=first|exact D1 b2|fail) only[go_sem,↓reduceIte,b2]
 ·obtain rfl:i=fs.length:=by omega
  simp+decide (disch:=first|exact D0|fail) only[go_sem,↓reduceIte]
  refine Qc ?_ rfl
  congr 1
  symm
  unfold Qm2
  rw[List.any_eq_false]
  intro x hx
  obtain⟨j,hj,rfl⟩:=List.getElem_of_mem hx
  rw[List.length_zip]at hj
  have:=h0 j (by omega) (by omega) (by omega)
  rw[List.getElem_zip]
  simpa using this
theorem Qhy{x:Int}(h1: -1<=x)(h2:x<=1):rs (x:Rat)<=1:=by
 have:x= -1∨x=0∨x=1:=by omega
 rcases this with rfl|rfl|rfl<;>decide+kernel
theorem Qua{c:Qiy}{hs:List (List RTm)}{g:List RTm}{k:Nat}(hc:RC k c)(hb:∀l∈hs,(∀t∈l,RB k t)/\l.length<2^40)(hg:(∀t∈g,RB k t)/\g.length<2^40)(hk1:1<=k)(hk:k<2^36)(hll:hs.length<2^40):
  Qd Tryz.prog 8 [PV.rcert c,.sl 1 (hs.map PV.rpoly),PV.rpoly g] (· = .bool true):=by
 have cs:=Q4t hc hk1 hk
 refine Qf Ql Tryz.func8 rfl Qant (by simp[c8]) fun C hP=> ?_;simp only[c8,Zo,Zg,Zm,Zc,Zf,Zl,Zh,Zs,Zi,Zb,Zk,Zn,Zu,Zq,Zr,Zz]
 simp+decide (disch:=first|exact D0|fail) only[go_sem,↓reduceIte]
 refine Qa hP cs rfl rfl rfl ?_
 cases h1:Qse c
 ·simp+decide (disch:=first|exact D0|fail) only[go_sem,↓reduceIte]
  refine Qa hP Qdv rfl rfl rfl ?_
  simp+decide (disch:=first|exact D0|fail) only[go_sem,↓reduceIte]
  exact Qc rfl rfl
 obtain⟨he,f4,fl4,c4,cl4,p6⟩:=Q8t hc h1
 simp+decide (disch:=first|exact D0|fail) only[go_sem,↓reduceIte]
 refine Qa hP (Qim hb hk1 hk hll) rfl rfl rfl ?_
 cases h2:Qk6 hs
 ·simp+decide (disch:=first|exact D0|fail) only[go_sem,↓reduceIte]
  refine Qa hP Qdv rfl rfl rfl ?_
  simp+decide (disch:=first|exact D0|fail) only[go_sem,↓reduceIte]
  exact Qc rfl rfl
 obtain⟨he2,h4,hl4⟩:=Qpy hb h2
 simp+decide (disch:=first|exact D0|fail) only[go_sem,↓reduceIte]
 refine Qa hP (Qmw hg.1 hk1 hk hg.2) rfl rfl rfl ?_
 cases h3:Qhc g
 ·simp+decide (disch:=first|exact D0|fail) only[go_sem,↓reduceIte]
  refine Qa hP Qdv rfl rfl rfl ?_
  simp+decide (disch:=first|exact D0|fail) only[go_sem,↓reduceIte]
  exact Qc rfl rfl
 obtain⟨he3,g4⟩:=Qpx hg.1 h3
 rw[he2,he3]
 have he':PV.agg [PV.sl 1 (List.map PV.rpoly c.fs),PV.mono c.ps,PV.int .i64 c.n,PV.sl 1 (List.map PV.rpoly c.cs)]=PV.cert (tms c.fs) c.ps c.n (tms c.cs):=he
 rw[he']
 obtain⟨q1,q2,q3,q4⟩:=Qvo f4 fl4
 obtain⟨r1,r2,r3,r4⟩:=Qvo c4 cl4
 obtain⟨t1,t2,t3,t4⟩:=Qvo h4 hl4
 obtain⟨fs,ps,n,ds⟩:=c
 simp only at *
 generalize tms fs=F at *
 generalize tms ds=D at *
 generalize tms hs=H at *
 generalize g.map RTm.tm=G at *
 have c1:=Qpw (ps:=ps) (n:=n) (cs:=D) (hs:=H) (g:=G) q1 (by omega) (by omega) r2 (by omega) t1 (by omega) g4.sml
 have snd:=fun vs (h:Qgd F ps n D H G=0) h0 hn=>Q1k (vs:=vs) h q1 r2 t1 g4.sml h0 hn
 have hlen:=fun(h:Qgd F ps n D H G=0)=>(Q0g h).1
 generalize Qgd F ps n D H G=e at *
 simp+decide (disch:=first|exact D0|fail) only[go_sem,↓reduceIte]
 refine Qcn hP (Q5a (fs:=F) (ps:=ps) (by omega) (by omega) q4) rfl rfl rfl ?_
 rintro _ ⟨b,rfl⟩
 cases b
 rotate_left
 ·simp+decide (disch:=first|exact D0|fail) only[go_sem,↓reduceIte]
  refine Qa hP Qdv rfl rfl rfl ?_
  simp+decide (disch:=first|exact D0|fail) only[go_sem,↓reduceIte]
  exact Qc rfl rfl
 simp+decide (disch:=first|exact D0|fail) only[go_sem,↓reduceIte]
 refine Qaj (fun h5=> ?_) (fun h5=> ?_)
 ·simp +decide (disch:=first|exact D0|fail) only[go_sem,↓reduceIte]
  refine Qb (fun h6=> ?_) (fun h6=> ?_)
  ·simp+decide (disch:=first|exact D0|fail) only[go_sem,↓reduceIte]
   refine Qa hP Qdv rfl rfl rfl ?_
   simp+decide (disch:=first|exact D0|fail) only[go_sem,↓reduceIte]
   exact Qc rfl rfl
  ·
   simp+decide (disch:=first|exact D0|fail) only[go_sem,↓reduceIte]
   refine Qa hP c1 rfl rfl rfl ?_
   simp+decide (disch:=first|exact D0|fail) only[go_sem,↓reduceIte]
   refine Qb (fun h0=> ?_) (fun h0=> ?_)
   ·simp+decide (disch:=first|exact D0|fail) only[go_sem,↓reduceIte]
    refine Qa hP Qdv rfl rfl rfl ?_
    simp+decide (disch:=first|exact D0|fail) only[go_sem,↓reduceIte]
    exact Qc rfl rfl
   have h0':e=0:=by omega
   have hl0:=hlen h0'
   simp+decide (disch:=first|exact D0|fail) only[go_sem,↓reduceIte]
   refine Qz (by repeat (first|exact Qv|exact Qo|exact Qp|exact Qq|exact Qr|apply Qn|apply Qu|apply Q3|apply Q9|apply Qaa|apply Qk|apply Q2)) [(6,8),(46,82)] [68,79] (fun q J hp=>∃i,q=81-i/\i<=81/\J 7= .int .i64 (i:Nat)/\hp 3=some ⟨4,79,[PV.cert F ps n D],false⟩) 81 ?_ ?_
   ·refine⟨0,rfl,by omega,?_⟩
    simp+decide (disch:=first|exact D0|fail) only[go_sem,↓reduceIte]
    rfl
   rintro _ J h ⟨i,rfl,hi,j7,b3⟩
   simp+decide (disch:=first|exact D1 j7|fail) only[go_sem,↓reduceIte,j7]
   refine Qb (fun hg=> ?_) (fun hg=> ?_)
   ·have hi8:i<81:=by omega
    simp+decide (disch:=first|exact D1 j7|fail) only[go_sem,↓reduceIte,j7]
    rw[Qke (c:=3) 3 rfl (by omega)]
    simp+decide (disch:=first|exact D1 j7|fail) only[go_sem,↓reduceIte,j7]
    refine Qa hP (Qcp (x:=((i%3:Nat):Int)-1) (by omega) (by omega)) rfl rfl rfl ?_
    simp+decide (disch:=first|exact D1 j7|fail) only[go_sem,↓reduceIte,j7]
    rw[Qkf (c:=3) 3 rfl (by omega) (by omega)]
    simp+decide (disch:=first|exact D1 j7|fail) only[go_sem,↓reduceIte,j7]
    rw[Qke (c:=3) 3 rfl (by omega)]
    simp+decide (disch:=first|exact D1 j7|fail) only[go_sem,↓reduceIte,j7]
    refine Qa hP (Qcp (x:=((i/3%3:Nat):Int)-1) (by omega) (by omega)) rfl rfl rfl ?_
    simp+decide (disch:=first|exact D1 j7|fail) only[go_sem,↓reduceIte,j7]
    rw[Qkf (c:=9) 9 rfl (by omega) (by omega)]
    simp+decide (disch:=first|exact D1 j7|fail) only[go_sem,↓reduceIte,j7]
    rw[Qke (c:=3) 3 rfl (by omega)]
    simp+decide (disch:=first|exact D1 j7|fail) only[go_sem,↓reduceIte,j7]
    refine Qa hP (Qcp (x:=((i/9%3:Nat):Int)-1) (by omega) (by omega)) rfl rfl rfl ?_
    simp+decide (disch:=first|exact D1 j7|fail) only[go_sem,↓reduceIte,j7]
    rw[Qkf (c:=27) 27 rfl (by omega) (by omega)]
    simp+decide (disch:=first|exact D1 j7|fail) only[go_sem,↓reduceIte,j7]
    refine Qa hP (Qcp (x:=((i/27:Nat):Int)-1) (by omega) (by omega)) rfl rfl rfl ?_
    have rA:=Qhy (x:=((i%3:Nat):Int)-1) (by omega) (by omega)
    have rB:=Qhy (x:=((i/3%3:Nat):Int)-1) (by omega) (by omega)
    have rC:=Qhy (x:=((i/9%3:Nat):Int)-1) (by omega) (by omega)
    have rD:=Qhy (x:=((i/27:Nat):Int)-1) (by omega) (by omega)
    generalize((((i%3:Nat):Int)-1:Int):Rat)=A at *
    generalize((((i/3%3:Nat):Int)-1:Int):Rat)=B at *
    generalize((((i/9%3:Nat):Int)-1:Int):Rat)=X at *
    generalize((((i/27:Nat):Int)-1:Int):Rat)=Y at *
    have hv:∀v∈[A,B,X,Y],rs v<=1:=by simp;exact⟨rA,rB,rC,rD⟩
    have z1:=Qlw (l:=H) (vs:=[A,B,X,Y]) h4 (by omega) hv rfl
    have z2:=Qpz (fs:=F) (ps:=ps) (n:=n) (cs:=D) (vs:=[A,B,X,Y]) f4 (by omega) hl0.symm hv rfl
    have z3:=Qlw (l:=[G]) (vs:=[A,B,X,Y]) (by simp;exact g4) (by simp) hv rfl
    simp+decide (disch:=first|exact D1 j7|fail) only[go_sem,↓reduceIte,j7]
    have l4:[PV.rat A,PV.rat B,PV.rat X,PV.rat Y].length=4:=rfl
    rw[Qqg rfl (by simp;exact⟨rfl,rfl,rfl,rfl⟩) (by omega),l4]
    simp+decide (disch:=first|exact D1 j7|fail) only[go_sem,↓reduceIte,j7]
    refine Qhe hP z1 Ur0 rfl rfl ?_
    cases hz1:Qiz [A,B,X,Y] H
    ·simp+decide (disch:=first|exact D1 j7|fail) only[go_sem,↓reduceIte,j7]
     refine Qh (81-(i+1)) (by omega) ⟨i+1,rfl,by omega,?_⟩
     simp+decide (disch:=first|exact D1 b3|fail) only[go_sem,↓reduceIte,b3]
    simp+decide (disch:=first|exact D2 j7 b3|fail) only[go_sem,↓reduceIte,j7,b3]
    refine Qhe hP z2 Ur0 rfl rfl ?_
    cases hz2:Qm2 [A,B,X,Y] F ps
    rotate_left
    ·simp+decide (disch:=first|exact D1 j7|fail) only[go_sem,↓reduceIte,j7]
     refine Qh (81-(i+1)) (by omega) ⟨i+1,rfl,by omega,?_⟩
     simp+decide (disch:=first|exact D1 b3|fail) only[go_sem,↓reduceIte,b3]
    have hz3:Qiz [A,B,X,Y] [G]=true:=by
     have:=snd [A,B,X,Y] h0' (fun p hp=>of_decide_eq_true (List.all_eq_true.1 hz1 p hp)) (fun i h1 h2 h3 h4=>by
      have hb:=List.any_eq_false.1 hz2 (F[i],ps[i]) (by
       rw[<-List.getElem_zip (h:=by rw[List.length_zip];omega)];exact List.getElem_mem _)
      exact hb (by simp[h3,h4]))
     simp[Qiz,this]
    rw[hz3]at z3
    simp+decide (disch:=first|exact D2 j7 b3|fail) only[go_sem,↓reduceIte,j7,b3]
    refine Qhe hP z3 Ur0 rfl rfl ?_
    simp+decide (disch:=first|exact D1 j7|fail) only[go_sem,↓reduceIte,j7]
    refine Qh (81-(i+1)) (by omega) ⟨i+1,rfl,by omega,?_⟩
    simp+decide (disch:=first|exact D1 b3|fail) only[go_sem,↓reduceIte,b3]
   ·simp+decide (disch:=first|exact D0|fail) only[go_sem,↓reduceIte]
    refine Qa hP Qdv rfl rfl rfl ?_
    simp+decide (disch:=first|exact D0|fail) only[go_sem,↓reduceIte]
    exact Qc rfl rfl
 ·
  simp+decide (disch:=first|exact D0|fail) only[go_sem,↓reduceIte]
  refine Qa hP c1 rfl rfl rfl ?_
  simp+decide (disch:=first|exact D0|fail) only[go_sem,↓reduceIte]
  refine Qb (fun h0=> ?_) (fun h0=> ?_)
  ·simp+decide (disch:=first|exact D0|fail) only[go_sem,↓reduceIte]
   refine Qa hP Qdv rfl rfl rfl ?_
   simp+decide (disch:=first|exact D0|fail) only[go_sem,↓reduceIte]
   exact Qc rfl rfl
  have h0':e=0:=by omega
  have hl0:=hlen h0'
  simp+decide (disch:=first|exact D0|fail) only[go_sem,↓reduceIte]
  refine Qz (by repeat (first|exact Qv|exact Qo|exact Qp|exact Qq|exact Qr|apply Qn|apply Qu|apply Q3|apply Q9|apply Qaa|apply Qk|apply Q2)) [(6,8),(46,82)] [68,79] (fun q J hp=>∃i,q=81-i/\i<=81/\J 7= .int .i64 (i:Nat)/\hp 3=some ⟨4,79,[PV.cert F ps n D],false⟩) 81 ?_ ?_
  ·refine⟨0,rfl,by omega,?_⟩
   simp+decide (disch:=first|exact D0|fail) only[go_sem,↓reduceIte]
   rfl
  rintro _ J h ⟨i,rfl,hi,j7,b3⟩
  simp+decide (disch:=first|exact D1 j7|fail) only[go_sem,↓reduceIte,j7]
  refine Qb (fun hg=> ?_) (fun hg=> ?_)
  ·have hi8:i<81:=by omega
   simp+decide (disch:=first|exact D1 j7|fail) only[go_sem,↓reduceIte,j7]
   rw[Qke (c:=3) 3 rfl (by omega)]
   simp+decide (disch:=first|exact D1 j7|fail) only[go_sem,↓reduceIte,j7]
   refine Qa hP (Qcp (x:=((i%3:Nat):Int)-1) (by omega) (by omega)) rfl rfl rfl ?_
   simp+decide (disch:=first|exact D1 j7|fail) only[go_sem,↓reduceIte,j7]
   rw[Qkf (c:=3) 3 rfl (by omega) (by omega)]
   simp+decide (disch:=first|exact D1 j7|fail) only[go_sem,↓reduceIte,j7]
   rw[Qke (c:=3) 3 rfl (by omega)]
   simp+decide (disch:=first|exact D1 j7|fail) only[go_sem,↓reduceIte,j7]
   refine Qa hP (Qcp (x:=((i/3%3:Nat):Int)-1) (by omega) (by omega)) rfl rfl rfl ?_
   simp+decide (disch:=first|exact D1 j7|fail) only[go_sem,↓reduceIte,j7]
   rw[Qkf (c:=9) 9 rfl (by omega) (by omega)]
   simp+decide (disch:=first|exact D1 j7|fail) only[go_sem,↓reduceIte,j7]
   rw[Qke (c:=3) 3 rfl (by omega)]
   simp+decide (disch:=first|exact D1 j7|fail) only[go_sem,↓reduceIte,j7]
   refine Qa hP (Qcp (x:=((i/9%3:Nat):Int)-1) (by omega) (by omega)) rfl rfl rfl ?_
   simp+decide (disch:=first|exact D1 j7|fail) only[go_sem,↓reduceIte,j7]
   rw[Qkf (c:=27) 27 rfl (by omega) (by omega)]
   simp+decide (disch:=first|exact D1 j7|fail) only[go_sem,↓reduceIte,j7]
   refine Qa hP (Qcp (x:=((i/27:Nat):Int)-1) (by omega) (by omega)) rfl rfl rfl ?_
   have rA:=Qhy (x:=((i%3:Nat):Int)-1) (by omega) (by omega)
   have rB:=Qhy (x:=((i/3%3:Nat):Int)-1) (by omega) (by omega)
   have rC:=Qhy (x:=((i/9%3:Nat):Int)-1) (by omega) (by omega)
   have rD:=Qhy (x:=((i/27:Nat):Int)-1) (by omega) (by omega)
   generalize((((i%3:Nat):Int)-1:Int):Rat)=A at *
   generalize((((i/3%3:Nat):Int)-1:Int):Rat)=B at *
   generalize((((i/9%3:Nat):Int)-1:Int):Rat)=X at *
   generalize((((i/27:Nat):Int)-1:Int):Rat)=Y at *
   have hv:∀v∈[A,B,X,Y],rs v<=1:=by simp;exact⟨rA,rB,rC,rD⟩
   have z1:=Qlw (l:=H) (vs:=[A,B,X,Y]) h4 (by omega) hv rfl
   have z2:=Qpz (fs:=F) (ps:=ps) (n:=n) (cs:=D) (vs:=[A,B,X,Y]) f4 (by omega) hl0.symm hv rfl
   have z3:=Qlw (l:=[G]) (vs:=[A,B,X,Y]) (by simp;exact g4) (by simp) hv rfl
   simp+decide (disch:=first|exact D1 j7|fail) only[go_sem,↓reduceIte,j7]
   have l4:[PV.rat A,PV.rat B,PV.rat X,PV.rat Y].length=4:=rfl
   rw[Qqg rfl (by simp;exact⟨rfl,rfl,rfl,rfl⟩) (by omega),l4]
   simp+decide (disch:=first|exact D1 j7|fail) only[go_sem,↓reduceIte,j7]
   refine Qhe hP z1 Ur0 rfl rfl ?_
   cases hz1:Qiz [A,B,X,Y] H
   ·simp+decide (disch:=first|exact D1 j7|fail) only[go_sem,↓reduceIte,j7]
    refine Qh (81-(i+1)) (by omega) ⟨i+1,rfl,by omega,?_⟩
    simp+decide (disch:=first|exact D1 b3|fail) only[go_sem,↓reduceIte,b3]
   simp+decide (disch:=first|exact D2 j7 b3|fail) only[go_sem,↓reduceIte,j7,b3]
   refine Qhe hP z2 Ur0 rfl rfl ?_
   cases hz2:Qm2 [A,B,X,Y] F ps
   rotate_left
   ·simp+decide (disch:=first|exact D1 j7|fail) only[go_sem,↓reduceIte,j7]
    refine Qh (81-(i+1)) (by omega) ⟨i+1,rfl,by omega,?_⟩
    simp+decide (disch:=first|exact D1 b3|fail) only[go_sem,↓reduceIte,b3]
   have hz3:Qiz [A,B,X,Y] [G]=true:=by
    have:=snd [A,B,X,Y] h0' (fun p hp=>of_decide_eq_true (List.all_eq_true.1 hz1 p hp)) (fun i h1 h2 h3 h4=>by
     have hb:=List.any_eq_false.1 hz2 (F[i],ps[i]) (by
      rw[<-List.getElem_zip (h:=by rw[List.length_zip];omega)];exact List.getElem_mem _)
     exact hb (by simp[h3,h4]))
    simp[Qiz,this]
   rw[hz3]at z3
   simp+decide (disch:=first|exact D2 j7 b3|fail) only[go_sem,↓reduceIte,j7,b3]
   refine Qhe hP z3 Ur0 rfl rfl ?_
   simp+decide (disch:=first|exact D1 j7|fail) only[go_sem,↓reduceIte,j7]
   refine Qh (81-(i+1)) (by omega) ⟨i+1,rfl,by omega,?_⟩
   simp+decide (disch:=first|exact D1 b3|fail) only[go_sem,↓reduceIte,b3]
  ·simp+decide (disch:=first|exact D0|fail) only[go_sem,↓reduceIte]
   refine Qa hP Qdv rfl rfl rfl ?_
   simp+decide (disch:=first|exact D0|fail) only[go_sem,↓reduceIte]
   exact Qc rfl rfl
end Go.Proofs.YtonfajmchebkeaaGreat
namespace Go.Proofs.YtonfajmchebkeaaGreat
open Go Go.FW
set_option linter.unusedSimpArgs false
set_option linter.unusedVariables false
set_option maxRecDepth 100000
theorem Qvp{c:Qiy}{hs:List (List RTm)}{g:List RTm}(hc:Qxo c)(hb:Qjg hs)(hg:Qtv g):Qd Tryz.prog 8 [PV.rcert c,.sl 1 (hs.map PV.rpoly),PV.rpoly g] (· = .bool true):=
 Qua (k:=1048576) (Qaob hc) (Qqp hb).1 ⟨fun t ht=>(hg.2 t ht).1,by have:=hg.1;omega⟩ (by omega) (by omega) (Qqp hb).2
end Go.Proofs.YtonfajmchebkeaaGreat
namespace Go.Proofs.YtonfajmchebkeaaGreat
open Go Go.FW Go.ChangeShapes Go.WideShapes Go.ChangeAt Go.RowKit
set_option linter.unusedSimpArgs false
set_option linter.unusedVariables false
set_option maxRecDepth 100000
theorem Qot(H:Type)(enc:TypeId×Value->H)(W:World)(base:Nat)(args:Array Value)(ds gs:List (DataW H))(before:List MemPlace)
  (Qcj:∀(j:Nat) t v,Tryz.f8.params[j]? =some t->args[j]? =some v->Value.okWide Tryz.prog W .any base t v)
  (hW:DataW.Whole enc Tryz.prog Tryz.f8.params.toList Rows.idealSoundSpec.vars false W args.toList ds gs before) (hk:Rows.uptoSmall H (ds++gs)=true):
  Calls Tryz.prog 8 args W fun e W'=>∃v,e= .returned v/\Rows.idealSoundSpec.post enc Tryz.prog Tryz.f8 false true false false W args v W':=by
 have hW':=hW
 obtain⟨p,q,hA0,hV,rfl,hfz,hnd⟩:=hW
 have hA:DataW.TrodAll enc Tryz.prog W 0 (fun _=>true) true Tryz.f8.params.toList args.toList ds p:=hA0
 rw[Tryz.params8]at hA Qcj
 obtain⟨v0,vs0,e0,ds0,p0,q0,hargs,rfl,rfl,h0,r0⟩:=trodAll_cons hA
 obtain⟨v1,vs1,e1,ds1,p1,q1,rfl,rfl,rfl,h1,r1⟩:=trodAll_cons r0
 obtain⟨v2,vs2,e2,ds2,p2,q2,rfl,rfl,rfl,h2,r2⟩:=trodAll_cons r1
 obtain⟨rfl,rfl,rfl⟩:=trodAll_nil r2
 obtain rfl:args= #[v0,v1,v2]:=by cases args;simp_all
 obtain⟨rfl,rfl⟩:=trodVars_none hV
 have hb:=Qab8 hk
 simp only[List.append_nil,Rows.uptoBulkAll]at hb
 obtain⟨a0,g0,b0⟩:=Qad9 (Qcj 0 _ v0 rfl rfl) h0 (by omega)
 obtain⟨a1,g1,b1⟩:=Q7t (Qcj 1 _ v1 rfl rfl) h1 (by omega)
 obtain⟨a2,g2,b2⟩:=Qab9 (Qcj 2 _ v2 rfl rfl) h2 (by omega)
 exact Q7u hW' rfl (by kernel_rfl) (by kernel_rfl) rfl (Qvp b0 b1 b2) rfl
  (Qaca (vs:=[v0,v1,v2]) (by
   intro i x hx v hv
   match i,hx,hv with
   |0,hx,hv=>simp at hx hv;subst hx hv;exact g0
   |1,hx,hv=>simp at hx hv;subst hx hv;exact g1
   |2,hx,hv=>simp at hx hv;subst hx hv;exact g2
   |i+3,hx,hv=>simp at hx) rfl)
theorem Qqq(os:Os)(started:os.Started)(H:Type)(enc:TypeId×Value->H)(F:Stop.Interp):
  ReturnsInHanded {} Tryz.checked os 8 .any ((Rows.OpenSpec.upto Rows.idealSoundSpec).pre6 enc Tryz.prog Tryz.f8 Rows.idealSoundUptoRow.domain false) (((Rows.OpenSpec.upto Rows.idealSoundSpec).at F).post enc Tryz.prog Tryz.f8 false true false false):=by
 refine returnsInHanded_of_cond (C:=Tryz.checked) (s:=Rows.OpenSpec.upto Rows.idealSoundSpec) (k:=Rows.uptoSmall) rfl own started (by kernel_rfl) Tryz.func8
  (OpenSpec.witness (enc:=enc) (C:=Tryz.checked) (s:=Rows.OpenSpec.upto Rows.idealSoundSpec) (k:=Rows.uptoSmall) rfl false ⟨#[],#[.agg #[.slice none 0 0,.slice none 0 0,.int .i64 0,.slice none 0 0],.slice none 0 0,.slice none 0 0],[]⟩ 8 (by kernel_rfl) (by kernel_rfl) (by kernel_rfl)
   (x:=([.agg [.nil,.nil,.lit (.int .i64 0),.nil],.nil,.nil],[],[])) (by kernel_rfl) rfl (by kernel_rfl)) ?_
 intro W base args ds gs before Qcj hW _ hk _
 exact Qot H enc W base args ds gs before Qcj hW hk
theorem idealSound_proved:Rows.IdealSoundUptoSaid:=
 OpenClaim.holds_of_cond 8 Tryz.f8 rfl rfl rfl rfl rfl rfl rfl ⟨rfl,rfl,rfl,rfl,rfl⟩ rfl rfl rfl rfl rfl (by kernel_rfl) Tryz.func8 (by kernel_rfl)
  (of_decide_eq_true (by kernel_rfl)) (by unfold Func.isWrapper;first|(rw[if_pos (by decide+kernel)];kernel_rfl)|(rw[if_neg (by decide+kernel)];exact⟨rfl,rfl⟩))
  (fun os started H enc _ F=>Qqq os started H enc F)
end Go.Proofs.YtonfajmchebkeaaGreat
