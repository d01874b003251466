/- IdealMore holds, for arguments of bulk at most 1048576. -/
import Derived.Test.YtonfajmchebkeaaGreatIdealMorePart14
set_option linter.unusedSimpArgs false
set_option linter.unnecessarySimpa false
set_option linter.unusedVariables false
namespace Go.Proofs.YtonfajmchebkeaaGreat
open Go Go.FW
set_option linter.unusedSimpArgs false
set_option linter.unusedVariables false
set_option maxRecDepth 100000
abbrev Q5x(fs:List (List Tm))(ps:List Int)(n:Int)(k:Nat):PV:= .rag [.sl 1 (fs.map PV.poly),PV.mono ps,.int .i64 n,.mso 2000002 0 k]
theorem Q02{ps:List Int}(h:∀x∈ps,0<=x/\x<=4):Qg3 ps=true:=by
 unfold Qg3
 rw[List.all_eq_true]
 intro x hx
 have:=h x hx
 exact decide_eq_true (by omega)
theorem Qaj5{a b:List Tm}(ha:Sm4 a)(hb:Sm4 b):Big (Qu a b):=by
 refine⟨(ha.sz.pmul hb.sz).mono (by omega) (by omega) (by omega),?_,Qa1 ha.n.s hb.n.s⟩
 have h1:=(Qn9 ha.b hb.b).2
 have h2:=Nat.mul_le_mul ha.l hb.l
 omega
theorem Qv2{c:Qgi}{hs:List (List RTm)}{g f:List RTm}{k:Nat}(hc:RC k c)(hb:∀l∈hs,(∀t∈l,RB k t)/\l.length<2^40)(hg:(∀t∈g,RB k t)/\g.length<2^40)(hf:(∀t∈f,RB k t)/\f.length<2^40)(hk1:1<=k)(hk:k<2^36)(hll:hs.length<2^40):
  Qd Tryz.prog 9 [PV.rcert c,.sl 1 (hs.map PV.rpoly),PV.rpoly g,PV.rpoly f] (· = .bool true):=by
 have hfa:=Q8t hc hk1 hk
 refine Qui Qk Tryz.func9 rfl Qao1 (by simp[c9]) fun C hP hN=> ?_;simp only[c9,Zo,Zg,Zm,Zc,Zf,Zl,Zh,Zs,Zi,Zb,Zk,Zn,Zu,Zq,Zr,Zz]
 simp+decide (disch:=first|exact D0|fail) only[go_sem,↓reduceIte]
 refine Qa hP hfa rfl rfl rfl ?_
 cases h1:Qjc c
 ·simp+decide (disch:=first|exact D0|fail) only[go_sem,↓reduceIte]
  refine Qa hP Qdn rfl rfl rfl ?_
  simp+decide (disch:=first|exact D0|fail) only[go_sem,↓reduceIte]
  refine Qfl (Wk.refl _ _) ?_
  simp+decide (disch:=first|exact D0|fail) only[go_sem,↓reduceIte]
  exact Qc rfl rfl
 obtain⟨h2,hl,hne,hpi,hF⟩:=Q5r hc h1
 obtain⟨he,f4,fl4,c4,cl4,p6⟩:=Qxe hc h2
 simp+decide (disch:=first|exact D0|fail) only[go_sem,↓reduceIte]
 refine Qa hP (Qi0 hb hk1 hk hll) rfl rfl rfl ?_
 cases h3:Qll hs
 ·simp+decide (disch:=first|exact D0|fail) only[go_sem,↓reduceIte]
  refine Qa hP Qdn rfl rfl rfl ?_
  simp+decide (disch:=first|exact D0|fail) only[go_sem,↓reduceIte]
  refine Qfl (Wk.refl _ _) ?_
  simp+decide (disch:=first|exact D0|fail) only[go_sem,↓reduceIte]
  exact Qc rfl rfl
 obtain⟨he2,h4,hl4⟩:=Qqb hb h3
 simp+decide (disch:=first|exact D0|fail) only[go_sem,↓reduceIte]
 refine Qa hP (Qiz hg.1 hk1 hk hg.2) rfl rfl rfl ?_
 cases h3:Qg4 g
 ·simp+decide (disch:=first|exact D0|fail) only[go_sem,↓reduceIte]
  refine Qa hP Qdn rfl rfl rfl ?_
  simp+decide (disch:=first|exact D0|fail) only[go_sem,↓reduceIte]
  refine Qfl (Wk.refl _ _) ?_
  simp+decide (disch:=first|exact D0|fail) only[go_sem,↓reduceIte]
  exact Qc rfl rfl
 obtain⟨he3,g4⟩:=Qmc hg.1 h3
 simp+decide (disch:=first|exact D0|fail) only[go_sem,↓reduceIte]
 refine Qa hP (Qiz hf.1 hk1 hk hf.2) rfl rfl rfl ?_
 cases h3:Qg4 f
 ·simp+decide (disch:=first|exact D0|fail) only[go_sem,↓reduceIte]
  refine Qa hP Qdn rfl rfl rfl ?_
  simp+decide (disch:=first|exact D0|fail) only[go_sem,↓reduceIte]
  refine Qfl (Wk.refl _ _) ?_
  simp+decide (disch:=first|exact D0|fail) only[go_sem,↓reduceIte]
  exact Qc rfl rfl
 obtain⟨he4,e4⟩:=Qmc hf.1 h3
 rw[he2,he3,he4]
 have he':PV.agg [PV.sl 1 (List.map PV.rpoly c.fs),PV.mono c.ps,PV.int .i64 c.n,PV.sl 1 (List.map PV.rpoly c.cs)]=PV.cert (tms c.fs) c.ps c.n (tms c.cs):=he
 rw[he']
 obtain⟨q1,q2,q3,q4⟩:=Qv1 f4 fl4
 obtain⟨r1,r2,r3,r4⟩:=Qv1 c4 cl4
 obtain⟨t1,t2,t3,t4⟩:=Qv1 h4 hl4
 obtain⟨fs,ps,n,ds⟩:=c
 simp only at *
 generalize tms fs=F at *
 generalize tms ds=D at *
 generalize tms hs=H at *
 generalize g.map RTm.tm=G at *
 generalize f.map RTm.tm=Q at *
 have hQl:=e4.l
 simp+decide (disch:=first|exact D0|fail) only[go_sem,↓reduceIte]
 refine Qaa (fun h5=> ?_) (fun h5=> ?_)
 ·simp+decide (disch:=first|exact D0|fail) only[go_sem,↓reduceIte]
  refine Qa hP Qdn rfl rfl rfl ?_
  simp+decide (disch:=first|exact D0|fail) only[go_sem,↓reduceIte]
  refine Qfl (Wk.refl _ _) ?_
  simp+decide (disch:=first|exact D0|fail) only[go_sem,↓reduceIte]
  exact Qc rfl rfl
 have hQ:Q≠[]:=fun e=>by rw[e]at h5;simp at h5
 simp+decide (disch:=first|exact D0|fail) only[go_sem,↓reduceIte]
 refine Qcs hP (Q5p (fs:=F) (ps:=ps) (by omega) (by omega) q4) rfl rfl rfl ?_
 rintro _ ⟨b,rfl⟩
 cases b
 rotate_left
 ·simp+decide (disch:=first|exact D0|fail) only[go_sem,↓reduceIte]
  refine Qa hP Qdn rfl rfl rfl ?_
  simp+decide (disch:=first|exact D0|fail) only[go_sem,↓reduceIte]
  refine Qfl (Wk.refl _ _) ?_
  simp+decide (disch:=first|exact D0|fail) only[go_sem,↓reduceIte]
  exact Qc rfl rfl
 simp+decide (disch:=first|exact D0|fail) only[go_sem,↓reduceIte]
 refine Qaa (fun h6=> ?_) (fun h6=> ?_)
 ·simp+decide (disch:=first|exact D0|fail) only[go_sem,↓reduceIte]
  refine Qa hP Qdn rfl rfl rfl ?_
  simp+decide (disch:=first|exact D0|fail) only[go_sem,↓reduceIte]
  refine Qfl (Wk.refl _ _) ?_
  simp+decide (disch:=first|exact D0|fail) only[go_sem,↓reduceIte]
  exact Qc rfl rfl
 simp+decide (disch:=first|exact D0|fail) only[go_sem,↓reduceIte]
 refine Qb (fun h7=> ?_) (fun h7=> ?_)
 ·simp+decide (disch:=first|exact D0|fail) only[go_sem,↓reduceIte]
  refine Qa hP Qdn rfl rfl rfl ?_
  simp+decide (disch:=first|exact D0|fail) only[go_sem,↓reduceIte]
  refine Qfl (Wk.refl _ _) ?_
  simp+decide (disch:=first|exact D0|fail) only[go_sem,↓reduceIte]
  exact Qc rfl rfl
 have c1:=Qih (ps:=ps) (n:=n) (cs:=D) (hs:=H) (g:=G) q1 (by omega) (by omega) r2 (by omega) t1 (by omega) g4.sml
 obtain⟨e0,hck⟩:∃e,Qfo F ps n D H G=e:=⟨_,rfl⟩
 rw[hck]at c1
 simp+decide (disch:=first|exact D0|fail) only[go_sem,↓reduceIte]
 refine Qa hP c1 rfl rfl rfl ?_
 simp+decide (disch:=first|exact D0|fail) only[go_sem,↓reduceIte]
 refine Qb (fun h8=> ?_) (fun h8=> ?_)
 ·simp+decide (disch:=first|exact D0|fail) only[go_sem,↓reduceIte]
  refine Qa hP Qdn rfl rfl rfl ?_
  simp+decide (disch:=first|exact D0|fail) only[go_sem,↓reduceIte]
  refine Qfl (Wk.refl _ _) ?_
  simp+decide (disch:=first|exact D0|fail) only[go_sem,↓reduceIte]
  exact Qc rfl rfl
 obtain rfl:e0=0:=by omega
 obtain⟨a1,a2,a3,a4,a5,a6,a7⟩:=Qaex hck
 simp+decide (disch:=first|exact D0|fail) only[go_sem,↓reduceIte]
 refine Qanr g9_5 Qb0 (by rw[hP];exact Qk) (by rw[hP,hN];exact Qaj2) Qaj3 (by decide) (Qas F ps n D H G Q) ?_ (fun l i g hg h0 R D fr hp I=>Q9g (by omega) (by omega) l i g hg h0 R D fr hp I) (fun l fr hp hall I=> ?_)
 ·constructor
  ·simp+decide (disch:=first|exact D0|fail) only[go_sem,↓reduceIte]
  ·simp+decide (disch:=first|exact D0|fail) only[go_sem,↓reduceIte]
  ·simp+decide (disch:=first|exact D0|fail) only[go_sem,↓reduceIte]
  ·simp+decide (disch:=first|exact D0|fail) only[go_sem,↓reduceIte]
  ·simp+decide (disch:=first|exact D0|fail) only[go_sem,↓reduceIte]
  all_goals intro h;cases h
 refine wkx (Qaj1 (fr':=upd (upd (upd (upd (upd (Qfh []) 1 (.sl 1 (H.map PV.poly))) 2 (PV.poly G)) 3 (PV.poly Q)) 4 (.mp 4 0 0)) 9 (.mp 9 0 0)) (hp':=Qn (Qn hp0 4 ⟨4,79,[PV.cert F ps n D],false⟩) 9 ⟨4,79,[.agg [.sl 1 ((F++[Q]).map PV.poly),PV.mono (ps++[1]),.int .i64 n,.nilS]],false⟩) ?_ ?_) ?_
 ·intro β
  by_cases e9:β=9
  ·subst e9;exact .inl (I.s17 (hall 17 (by decide))).2.symm
  by_cases e4:β=4
  ·subst e4;exact .inl I.h4.symm
  exact .inr (by simp[Qn,hp0,e9,e4])
 ·intro s
  by_cases e9:s=9
  ·subst e9;exact .inr ⟨by rw[(I.s17 (hall 17 (by decide))).1];rfl,fun β hβ=>by
    rw[(I.s17 (hall 17 (by decide))).1]at hβ
    simp[PV.refs,PV.sref,PV.ref1]at hβ
    subst hβ
    exact(I.s17 (hall 17 (by decide))).2.symm⟩
  by_cases e4:s=4
  ·subst e4;exact .inr ⟨by rw[I.f4];rfl,fun β hβ=>by
    rw[I.f4]at hβ
    simp[PV.refs,PV.sref,PV.ref1]at hβ
    subst hβ
    exact I.h4.symm⟩
  by_cases e3:s=3
  ·subst e3;exact .inr ⟨by rw[I.f3];rfl,fun β hβ=>by rw[I.f3]at hβ;cases hβ⟩
  by_cases e2:s=2
  ·subst e2;exact .inr ⟨by rw[I.f2];rfl,fun β hβ=>by rw[I.f2]at hβ;cases hβ⟩
  by_cases e1:s=1
  ·subst e1;exact .inr ⟨by rw[I.f1];rfl,fun β hβ=>by rw[I.f1]at hβ;cases hβ⟩
  exact .inl (by simp[upd,Qfh,e9,e4,e3,e2,e1])
 refine wkx (Qtz 9 2000001 rfl (by omega) rfl (by omega)) ?_
 refine wkx (Qzx (γ:=2000001) (e:=4) (ty:=79) (xs:=[.agg [.sl 1 ((F++[Q]).map PV.poly),PV.mono (ps++[1]),.int .i64 n,.nilS]]) (fz:=false) T0 (by simp) (by omega) (fun x hx=>by rw[List.mem_singleton.1 hx];rfl)) ?_
 refine wkx (Qaep (γ:=2000001) (e:=4) (ty:=79) (cs:=[.sl 1 ((F++[Q]).map PV.poly),PV.mono (ps++[1]),.int .i64 n,.nilS]) (cs':=[.sl 1 ((F++[Q]).map PV.poly),PV.mono (ps++[1]),.int .i64 n,.mso 2000002 0 0]) 2000002 1 51 T0 Tr0 (by omega) (by omega) rfl (by simp)) ?_
 refine Qaj0 ?_
 simp+decide (disch:=first|exact D0|fail) only[go_sem,↓reduceIte]
 have hmul:∀i (hi:i<D.length),Qd Tryz.prog 41 [PV.poly D[i],PV.poly Q] (· =PV.poly (Qu D[i] Q)):=fun i hi=>by
  have hx:=c4 _ (List.getElem_mem hi)
  exact Q5d (m:=4) ⟨hx.sml.z.mono (by omega) (by omega) (by omega),hx.n,by have:=hx.l;omega⟩ e4.sml (by omega)
 refine Qld (by repeat (first|exact Qx|exact Qp|exact Qq|exact Qr|exact Qt|apply Qo|apply Qw|apply Q4|apply Qac|apply Qad|apply Qm|apply Q5)) [(9,10),(80,98),(2000001,2000001)] [96,97] (fun q J hp=>∃i,q=D.length-i/\i<=D.length/\J 9= .np 2000001 0 0/\J 10= .int .i64 (i:Nat)/\J 2000001= .nst 2000001 4 79 [Q5x (F++[Q]) (ps++[1]) n i]/\hp 4=some ⟨4,79,[PV.cert F ps n D],false⟩/\
   hp 2000001=some ⟨4,79,[],false⟩/\hp 2000002=some ⟨1,51,((D.take i).map fun c=>Qu c Q).map PV.poly,false⟩) D.length ?_ ?_
 ·refine⟨0,rfl,by omega,?_⟩
  simp+decide (disch:=first|exact D0|fail) only[go_sem,↓reduceIte]
  rfl
 rintro _ J h ⟨i,rfl,hi,j9,j10,jn,b4,b1,b2⟩
 simp+decide (disch:=first|exact D2 j10 b4|fail) only[go_sem,↓reduceIte,j10,b4]
 refine Qb (fun hg2=> ?_) (fun hg2=> ?_)
 ·have hi':i<D.length:=by omega
  have hmi:=hmul i hi'
  have e1:((D.take (i+1)).map fun c=>Qu c Q)=((D.take i).map fun c=>Qu c Q)++[Qu D[i] Q]:=by
   rw[List.take_succ_eq_append_getElem hi',List.map_append];rfl
  have hln:i=((D.take i).map fun c=>Qu c Q).length:=by simp;omega
  generalize((D.take i).map fun c=>Qu c Q)=A at *
  generalize hx:D[i]=x at *
  simp+decide (disch:=first|exact D7 j9 j10 jn b4 b1 b2 hx|fail) only[go_sem,↓reduceIte,j9,j10,jn,b4,b1,b2,hx]
  refine Qa hP hmi rfl rfl rfl ?_
  generalize Qu x Q=y at *
  simp+decide (disch:=first|exact D6 j9 j10 jn b4 b1 b2|fail) only[go_sem,↓reduceIte,j9,j10,jn,b4,b1,b2]
  rw[Qml (f:=PV.poly) (y:=y) (xs:=A) (ty':=51) (fz:=false) (T1 b2) Tr0 (by omega) hln (by omega) (by omega) (by omega)]
  simp+decide (disch:=first|exact D6 j9 j10 jn b4 b1 b2|fail) only[go_sem,↓reduceIte,j9,j10,jn,b4,b1,b2]
  refine Qfu (D.length-(i+1)) (by omega) ⟨i+1,rfl,by omega,?_⟩
  simp+decide (disch:=first|exact D3 j9 b4 b1|fail) only[go_sem,↓reduceIte,j9,b4,b1]
  simp only[e1]
 obtain rfl:i=D.length:=by omega
 rw[List.take_length]at b2
 have hsp:=Q3e (ps:=ps) fun x hx=>(hpi x hx).2
 have hm:=Q3d hl hF (by omega) c4 (by omega) (by omega)
 obtain⟨gs,qs,es,hR⟩:=Qum _ (i:=0) hm (Nat.le_refl _)
 obtain⟨j',hm2⟩:=hR.mn hm
 have hj:=hm2.s
 have cm:=Qng (n:=n) hl hF (by omega) c4 (by omega) (by omega) hR
 have hst:=hR.fin fun k hk=>absurd hk (Nat.not_lt_zero k)
 have hHn:∀c∈H,Nrm c:=fun c hc=>(t1 c hc).n
 have hel:=hR.len
 rw[List.length_map]at hel
 have hacc0:Qdd F ps D H G n.toNat:=a7
 have haccm:=Qdd.trim hl hF c4 (by omega) (by omega) (by omega) hHn g4.n hacc0 F.length (Nat.le_refl _)
 have hzl:(F.zip ps).length=F.length:=by rw[List.length_zip,hl,Nat.min_self]
 rw[List.take_of_length_le (by omega),List.drop_length,List.drop_of_length_le (by omega),List.append_nil,List.append_nil]at haccm
 have hacc1:=hR.acc hHn g4.n hm haccm
 have hdeg:=hR.deg hm (by
  intro c hc
  obtain⟨d,hd,rfl⟩:=List.mem_map.1 hc
  exact Q5w (c4 d hd).n (c4 d hd).deg)
 have hm01:=Q01 (n:=n) hm2.l.symm (Q02 hm2.p) (fun f hf=>(hm2.f f hf).2) a4 a5 (by omega) hacc1
 have hacc2:=hacc0.more a1 (fun f hf=>(f4 f hf).n) (fun c hc=>(c4 c hc).n) hHn g4.n e4.n
 have hp1:∀x∈ps++[1],0<=x/\x<=4:=fun x hx=>by
  rcases List.mem_append.1 hx with h|h
  ·exact hpi x h
  ·rw[List.mem_singleton.1 h];omega
 have hd01:=Q01 (n:=n) (fs:=F++[Q]) (ps:=ps++[1]) (by simp[a1]) (Q02 hp1) (fun f hf=>by
  rcases List.mem_append.1 hf with h|h
  ·exact a6 f h
  ·rw[List.mem_singleton.1 h];exact hQ) a4 a5 (by simpa using a3) hacc2
 have cd:=Qih (fs:=F++[Q]) (ps:=ps++[1]) (n:=n) (cs:=D.map fun c=>Qu c Q) (hs:=H) (g:=G) (fun f hf=>by
  rcases List.mem_append.1 hf with h|h
  ·exact q1 f h
  ·rw[List.mem_singleton.1 h];exact e4.sml) (by simp;omega) (by simp;omega) (fun c hc=>by
  obtain⟨d,hd,rfl⟩:=List.mem_map.1 hc
  exact Qaj5 (c4 d hd) e4) (by simp;omega) t1 (by omega) g4.sml
 have ce:=Qih (fs:=gs) (ps:=qs) (n:=n) (cs:=es) (hs:=H) (g:=G) (fun f hf=>(hm2.f f hf).1.sml) hm2.fl (by have:=hm2.fl;have:=hm2.l;omega) (fun c hc=>(hm2.c c hc).big (by omega) (hdeg c hc)) hm2.cl t1 (by omega) g4.sml
 generalize Qfo gs qs n es H G=x1 at *
 generalize Qfo (F++[Q]) (ps++[1]) n (D.map fun c=>Qu c Q) H G=x2 at *
 have hgl:=hm2.fl
 have hql:=hm2.l
 have hcl:=hm2.cl
 simp+decide (disch:=first|exact D1 b4|fail) only[go_sem,↓reduceIte,b4]
 refine Qa hP cm rfl rfl rfl ?_
 simp+decide (disch:=first|exact D5 j9 jn b4 b1 b2|fail) only[go_sem,↓reduceIte,j9,jn,b4,b1,b2]
 refine Qld (by repeat (first|exact Qx|exact Qp|exact Qq|exact Qr|exact Qt|apply Qo|apply Qw|apply Q4|apply Qac|apply Qad|apply Qm|apply Q5)) [(8,9),(12,14),(101,114),(2000001,2000001)] [13] (fun q J hp=>∃i,q=gs.length-i/\i<=gs.length/\J 9= .np 2000001 0 0/\J 2000001= .nst 2000001 4 79 [Q5x (F++[Q]) (ps++[1]) n D.length]/\J 12= .int .i64 (i:Nat)/\hp 11=some ⟨4,79,[PV.cert gs qs n es],false⟩/\
   hp 2000001=some ⟨4,79,[],false⟩/\hp 2000002=some ⟨1,51,(D.map fun c=>Qu c Q).map PV.poly,false⟩) gs.length ?_ ?_
 ·refine⟨0,rfl,by omega,?_⟩
  simp+decide (disch:=first|exact D4 j9 jn b1 b2|fail) only[go_sem,↓reduceIte,j9,jn,b1,b2]
  rfl
 rintro _ J2 h' ⟨i,rfl,hi2,k9,kn,k12,b11,k1,k2⟩
 simp+decide (disch:=first|omega|rfl|(simp+decide only[go_sem,↓reduceIte,k12,b11]<;>rfl)|fail) only[go_sem,↓reduceIte,k12,b11]
 refine Qb (fun hg3=> ?_) (fun hg3=> ?_)
 ·have hi':i<gs.length:=by omega
  have hca:=Qhc (n:=n) (i:=(i:Nat)) hm2.f hm2.c (by omega) (by omega) (by omega) (by omega) (Qx6 hm2)
  rw[Qr0 hi' (by omega) (hst i hi' (by omega))]at hca
  simp+decide (disch:=first|omega|rfl|(simp+decide only[go_sem,↓reduceIte,k12,b11]<;>rfl)|fail) only[go_sem,↓reduceIte,k12,b11]
  refine Qa hP hca rfl rfl rfl ?_
  simp+decide (disch:=first|omega|rfl|(simp+decide only[go_sem,↓reduceIte,PV.cancel,k12]<;>rfl)|fail) only[go_sem,↓reduceIte,PV.cancel,k12]
  refine Qfu (gs.length-(i+1)) (by omega) ⟨i+1,rfl,by omega,?_⟩
  simp+decide (disch:=first|omega|rfl|(simp+decide only[go_sem,↓reduceIte,k9,kn,b11,k1,k2]<;>rfl)|fail) only[go_sem,↓reduceIte,k9,kn,b11,k1,k2]
 simp+decide (disch:=first|omega|rfl|(simp+decide only[go_sem,↓reduceIte,k9,kn,k1]<;>rfl)|fail) only[go_sem,↓reduceIte,k9,kn,k1]
 refine Q3b 115 2 [2000002] (p:=Q5x (F++[Q]) (ps++[1]) n D.length) (by simp+decide (disch:=first|omega|rfl|(simp+decide only[go_sem,↓reduceIte,k9,kn,k1]<;>rfl)|fail) only[go_sem,↓reduceIte,k9,kn,k1]) (D:=PV.cert (F++[Q]) (ps++[1]) n (D.map fun c=>Qu c Q)) ?_ ?_ rfl ?_
 ·intro c hc
  simp only[List.mem_cons,List.not_mem_nil,or_false]at hc
  rcases hc with rfl|rfl|rfl|rfl
  ·trivial
  ·trivial
  ·trivial
  ·simp only[okD,isY];simp
 ·show PV.agg [_,_,_,dsn _ h' 2 (.mso 2000002 0 _)]=_
  simp only[dsn,k2,List.drop_zero]
  rw[List.take_of_length_le (by simp)]
 simp+decide (disch:=first|exact E1 b11|fail) only[go_sem,↓reduceIte,b11,Q7,List.contains_cons,List.contains_nil,List.flatMap_cons,List.flatMap_nil,List.append_nil]
 refine Qa hP cd rfl rfl rfl ?_
 simp+decide (disch:=first|exact D0|fail) only[go_sem,↓reduceIte]
 refine Qa hP ce rfl rfl rfl ?_
 rcases hd01 with rfl|rfl<;>rcases hm01 with rfl|rfl
 all_goals
  simp+decide (disch:=first|exact D0|fail) only[go_sem,↓reduceIte]
  refine Qa hP Qdn rfl rfl rfl ?_
  simp+decide (disch:=first|exact D0|fail) only[go_sem,↓reduceIte]
  refine Qfl (Wk.refl _ _) ?_
  simp+decide (disch:=first|exact D0|fail) only[go_sem,↓reduceIte]
  exact Qc rfl rfl
end Go.Proofs.YtonfajmchebkeaaGreat
namespace Go.Proofs.YtonfajmchebkeaaGreat
open Go Go.FW
set_option linter.unusedSimpArgs false
set_option linter.unusedVariables false
set_option maxRecDepth 100000
theorem Qx1{c:Qgi}{hs:List (List RTm)}{g f:List RTm}(hc:Qx8 c)(hb:Qjt hs)(hg:Qqy g)(hf:Qqy f):Qd Tryz.prog 9 [PV.rcert c,.sl 1 (hs.map PV.rpoly),PV.rpoly g,PV.rpoly f] (· = .bool true):=
 Qv2 (k:=1048576) (Qaoz hc) (Qq2 hb).1 ⟨fun t ht=>(hg.2 t ht).1,by have:=hg.1;omega⟩ ⟨fun t ht=>(hf.2 t ht).1,by have:=hf.1;omega⟩ (by omega) (by omega) (Qq2 hb).2
end Go.Proofs.YtonfajmchebkeaaGreat
namespace Go.Proofs.YtonfajmchebkeaaGreat
open Go Go.FW Go.ChangeShapes Go.WideShapes Go.ChangeAt Go.RowKit
set_option linter.unusedSimpArgs false
set_option linter.unusedVariables false
set_option maxRecDepth 100000
theorem Qqd(H:Type)(enc:TypeId×Value->H)(W:World)(base:Nat)(args:Array Value)(ds gs:List (DataW H))(before:List MemPlace)
  (Qco:∀(j:Nat) t v,Tryz.f9.params[j]? =some t->args[j]? =some v->Value.okWide Tryz.prog W .any base t v)
  (hW:DataW.Whole enc Tryz.prog Tryz.f9.params.toList Rows.idealMoreSpec.vars false W args.toList ds gs before) (hk:Rows.uptoSmall H (ds++gs)=true):
  Calls Tryz.prog 9 args W fun e W'=>∃v,e= .returned v/\Rows.idealMoreSpec.post enc Tryz.prog Tryz.f9 false true false false W args v W':=by
 have hW':=hW
 obtain⟨p,q,hA0,hV,rfl,hfz,hnd⟩:=hW
 have hA:DataW.TrodAll enc Tryz.prog W 0 (fun _=>true) true Tryz.f9.params.toList args.toList ds p:=hA0
 rw[Tryz.params9]at hA Qco
 obtain⟨v0,vs0,e0,ds0,p0,q0,hargs,rfl,rfl,h0,r0⟩:=trodAll_cons hA
 obtain⟨v1,vs1,e1,ds1,p1,q1,rfl,rfl,rfl,h1,r1⟩:=trodAll_cons r0
 obtain⟨v2,vs2,e2,ds2,p2,q2,rfl,rfl,rfl,h2,r2⟩:=trodAll_cons r1
 obtain⟨v3,vs3,e3,ds3,p3,q3,rfl,rfl,rfl,h3,r3⟩:=trodAll_cons r2
 obtain⟨rfl,rfl,rfl⟩:=trodAll_nil r3
 obtain rfl:args= #[v0,v1,v2,v3]:=by cases args;simp_all
 obtain⟨rfl,rfl⟩:=trodVars_none hV
 have hb:=Qacv hk
 simp only[List.append_nil,Rows.uptoBulkAll]at hb
 obtain⟨a0,g0,b0⟩:=Qaev (Qco 0 _ v0 rfl rfl) h0 (by omega)
 obtain⟨a1,g1,b1⟩:=Q8d (Qco 1 _ v1 rfl rfl) h1 (by omega)
 obtain⟨a2,g2,b2⟩:=Qz5 (Qco 2 _ v2 rfl rfl) h2 (by omega)
 obtain⟨a3,g3,b3⟩:=Qz5 (Qco 3 _ v3 rfl rfl) h3 (by omega)
 exact Q8e hW' rfl (by kernel_rfl) (by kernel_rfl) rfl (Qx1 b0 b1 b2 b3) rfl
  (Qacw (vs:=[v0,v1,v2,v3]) (by
   intro i x hx v hv
   match i,hx,hv with
   |0,hx,hv=>simp at hx hv;subst hx hv;exact g0
   |1,hx,hv=>simp at hx hv;subst hx hv;exact g1
   |2,hx,hv=>simp at hx hv;subst hx hv;exact g2
   |3,hx,hv=>simp at hx hv;subst hx hv;exact g3
   |i+4,hx,hv=>simp at hx) rfl)
theorem Qsu(os:Os)(started:os.Started)(H:Type)(enc:TypeId×Value->H)(F:Stop.Interp):
  ReturnsInHanded {} Tryz.checked os 9 .any ((Rows.OpenSpec.upto Rows.idealMoreSpec).pre6 enc Tryz.prog Tryz.f9 Rows.idealMoreUptoRow.domain false) (((Rows.OpenSpec.upto Rows.idealMoreSpec).at F).post enc Tryz.prog Tryz.f9 false true false false):=by
 refine returnsInHanded_of_cond (C:=Tryz.checked) (s:=Rows.OpenSpec.upto Rows.idealMoreSpec) (k:=Rows.uptoSmall) rfl own started (by kernel_rfl) Tryz.func9
  (OpenSpec.witness (enc:=enc) (C:=Tryz.checked) (s:=Rows.OpenSpec.upto Rows.idealMoreSpec) (k:=Rows.uptoSmall) rfl false ⟨#[],#[.agg #[.slice none 0 0,.slice none 0 0,.int .i64 0,.slice none 0 0],.slice none 0 0,.slice none 0 0,.slice none 0 0],[]⟩ 8 (by kernel_rfl) (by kernel_rfl) (by kernel_rfl)
   (x:=([.agg [.nil,.nil,.lit (.int .i64 0),.nil],.nil,.nil,.nil],[],[])) (by kernel_rfl) rfl (by kernel_rfl)) ?_
 intro W base args ds gs before Qco hW _ hk _
 exact Qqd H enc W base args ds gs before Qco hW hk
theorem idealMore_proved:Rows.IdealMoreUptoSaid:=
 OpenClaim.holds_of_cond 9 Tryz.f9 rfl rfl rfl rfl rfl rfl rfl ⟨rfl,rfl,rfl,rfl,rfl⟩ rfl rfl rfl rfl rfl (by kernel_rfl) Tryz.func9 (by kernel_rfl)
  (of_decide_eq_true (by kernel_rfl)) (by unfold Func.isWrapper;first|(rw[if_pos (by decide+kernel)];kernel_rfl)|(rw[if_neg (by decide+kernel)];exact⟨rfl,rfl⟩))
  (fun os started H enc _ F=>Qsu os started H enc F)
end Go.Proofs.YtonfajmchebkeaaGreat
