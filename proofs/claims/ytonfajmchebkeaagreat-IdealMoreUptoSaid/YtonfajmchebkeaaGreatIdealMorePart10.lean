/- Part 10 of the proof of IdealMore: G10, G11, FwUG. Own lemmas; no conditions. -/
import Derived.Test.YtonfajmchebkeaaGreatIdealMorePart9
set_option linter.unusedSimpArgs false
set_option linter.unnecessarySimpa false
set_option linter.unusedVariables false
namespace Go.Proofs.YtonfajmchebkeaaGreat
open Go Go.FW
set_option linter.unusedSimpArgs false
set_option linter.unusedVariables false
set_option maxRecDepth 100000
end Go.Proofs.YtonfajmchebkeaaGreat
namespace Go.Proofs.YtonfajmchebkeaaGreat
open Go Go.FW
set_option linter.unusedSimpArgs false
set_option linter.unusedVariables false
set_option maxRecDepth 100000
theorem Qr0{fs:List (List Tm)}{ps:List Int}{cs:List (List Tm)}{i:Nat}(h:i<fs.length)(h2:i<ps.length)(hor:ps[i]<1∨exL fs[i] cs=none):cancelO fs ps cs (i:Nat)=none:=by
 by_cases h3:1<=ps[i]
 ·rw[Qmb h h2 h3,hor.resolve_left (by omega)];rfl
 ·refine Qjv fun g=>h3 ?_
  have:=g.2.2.2
  have e1:ps.getD i 0=ps[i]:=by simp[h2]
  rwa[Int.toNat_natCast,e1]at this
theorem Qx6{fs:List (List Tm)}{ps:List Int}{cs:List (List Tm)}{j:Nat}(h:Mn fs ps cs j):∀x∈ps,-9223372036854775808<=x/\x<=9223372036854775807:=fun x hx=>by have:=h.p x hx;omega
theorem Qng{fs:List (List Tm)}{ps:List Int}{n:Int}{cs:List (List Tm)}{fs':List (List Tm)}{ps':List Int}{cs':List (List Tm)}(hl:ps.length=fs.length)(hf:∀x∈fs.zip ps,Qo4 x)(hfl:fs.length<=8)(hc:∀c∈cs,Sm4 c)(hcl:cs.length<=8)(h16:Qd9 ps<=16)
  (hR:Qet (Qdb (fs.zip ps)) (Qdc (fs.zip ps)) (cs.map fun c=>Qal c (Qc1 (fs.zip ps))) 0 fs' ps' cs'):Qd Tryz.prog 42 [PV.cert fs ps n cs] (· =PV.cert fs' ps' n cs'):=by
 have ht:=Qvy (n:=n) hl hf hfl hc hcl
 have hm0:=Q3d hl hf hfl hc hcl h16
 generalize Qdb (fs.zip ps)=FS at *
 generalize Qdc (fs.zip ps)=PS at *
 generalize(cs.map fun c=>Qal c (Qc1 (fs.zip ps)))=CS at *
 refine Qf Qk Tryz.func42 rfl Qamx (by simp[c42]) fun C hP=> ?_;simp only[c42,Zo,Zg,Zm,Zc,Zf,Zl,Zh,Zs,Zi,Zb,Zk,Zn,Zu,Zq,Zr,Zz]
 simp+decide (disch:=first|exact D0|fail) only[go_sem,↓reduceIte]
 refine Qb (fun h9=>absurd h9 (by omega)) (fun _=> ?_)
 simp+decide (disch:=first|exact D0|fail) only[go_sem,↓reduceIte]
 refine Qa hP ht rfl rfl rfl ?_
 simp+decide (disch:=first|exact D0|fail) only[go_sem,↓reduceIte]
 refine Q6 (by repeat (first|exact Qx|exact Qp|exact Qq|exact Qr|exact Qt|apply Qo|apply Qw|apply Q4|apply Qac|apply Qad|apply Qm|apply Q5)) [(3,5),(16,40)] [4] (fun q J hp=>∃gs qs ds j i,q=Qd9 qs*16+(gs.length-i)/\Mn gs qs ds j/\Qet gs qs ds i fs' ps' cs'/\J 3= .int .i64 (i:Nat)/\hp 1=some ⟨4,79,[PV.cert gs qs n ds],false⟩/\hp 2=some ⟨4,79,[.agg [.nilS,.nilS,.int .i64 0,.nilS]],false⟩) (Qd9 PS*16+(FS.length-0)) ?_ ?_
 ·refine⟨FS,PS,CS,_,0,rfl,hm0,hR,?_⟩
  simp+decide (disch:=first|exact D0|fail) only[go_sem,↓reduceIte]
  rfl
 rintro _ J h ⟨gs,qs,ds,j,i,rfl,hm,hR,j3,b1,b2⟩
 have hgl:=hm.fl
 have hql:=hm.l
 have hdl:=hm.cl
 have hjs:=hm.s
 cases hR with
 |done hle=>
  simp+decide (disch:=first|exact D2 j3 b1|fail) only[go_sem,↓reduceIte,j3,b1]
  refine Qb (fun h9=>absurd h9 (by omega)) (fun _=> ?_)
  simp+decide (disch:=first|exact D2 b1 b2|fail) only[go_sem,↓reduceIte,b1,b2]
  refine Qbc ?_
  simp+decide (disch:=first|exact D0|fail) only[go_sem,↓reduceIte]
  exact Qc rfl rfl
 |skip h1 h2 hor hR=>
  have hca:=Qhc (n:=n) (i:=(i:Nat)) hm.f hm.c (by omega) (by omega) (by omega) (by omega) (Qx6 hm)
  rw[Qr0 h1 h2 hor]at hca
  simp+decide (disch:=first|exact D2 j3 b1|fail) only[go_sem,↓reduceIte,j3,b1]
  refine Qb (fun _=> ?_) (fun h9=>absurd h9 (by omega))
  simp+decide (disch:=first|exact D2 j3 b1|fail) only[go_sem,↓reduceIte,j3,b1]
  refine Qa hP hca rfl rfl rfl ?_
  simp+decide (disch:=first|omega|rfl|(simp+decide only[go_sem,↓reduceIte,PV.cancel,j3]<;>rfl)|fail) only[go_sem,↓reduceIte,PV.cancel,j3]
  refine Qi (Qd9 qs*16+(gs.length-(i+1))) (by omega) ⟨gs,qs,ds,j,i+1,rfl,hm,hR,?_⟩
  simp+decide (disch:=first|exact D2 b1 b2|fail) only[go_sem,↓reduceIte,b1,b2]
 | @cut _ _ _ _ r _ _ _ h1 h2 hge he hne hR=>
  have hca:=Qhc (n:=n) (i:=(i:Nat)) hm.f hm.c (by omega) (by omega) (by omega) (by omega) (Qx6 hm)
  rw[Qmb h1 h2 hge,he]at hca
  have hm2:=hm.cut h1 h2 hge he
  have hs2:=Qi1 h2 hge
  have hset:(qs.set i (qs[i]-1))[i]? =some (qs[i]-1):=List.getElem?_set_self h2
  generalize qs.set i (qs[i]-1)=Q at *
  obtain⟨hi3,hset⟩:=List.getElem?_eq_some_iff.1 hset
  generalize qs[i]=y at *
  simp+decide (disch:=first|exact D2 j3 b1|fail) only[go_sem,↓reduceIte,j3,b1]
  refine Qb (fun _=> ?_) (fun h9=>absurd h9 (by omega))
  simp+decide (disch:=first|exact D2 j3 b1|fail) only[go_sem,↓reduceIte,j3,b1]
  refine Qa hP hca rfl rfl rfl ?_
  simp+decide (disch:=first|omega|rfl|(simp+decide only[go_sem,↓reduceIte,PV.cancel,j3,b1,hset,Option.map_some]<;>rfl)|fail) only[go_sem,↓reduceIte,PV.cancel,j3,b1,hset,Option.map_some]
  refine Qb (fun h9=>absurd h9 (by omega)) (fun _=> ?_)
  simp+decide (disch:=first|exact D1 j3|fail) only[go_sem,↓reduceIte,j3]
  refine Qi (Qd9 Q*16+(gs.length-0)) (by omega) ⟨gs,Q,r,j+1,0,rfl,hm2,hR,?_⟩
  simp+decide (disch:=first|exact D1 b2|fail) only[go_sem,↓reduceIte,b2]
  rfl
 | @drop _ _ _ _ r _ _ _ h1 h2 hge he heq hR=>
  have hca:=Qhc (n:=n) (i:=(i:Nat)) hm.f hm.c (by omega) (by omega) (by omega) (by omega) (Qx6 hm)
  rw[Qmb h1 h2 hge,he]at hca
  have hm2:=hm.cut h1 h2 hge he
  have hs2:=Qi1 h2 hge
  have hset:(qs.set i (qs[i]-1))[i]? =some (qs[i]-1):=List.getElem?_set_self h2
  generalize qs.set i (qs[i]-1)=Q at *
  obtain⟨hi3,hset⟩:=List.getElem?_eq_some_iff.1 hset
  have hw:=Qvw (fs:=gs) (ps:=Q) (n:=n) (cs:=r) h1 hm2.l (by omega)
  have hm3:=hm2.erase h1
  have hs3:=Qkk (ps:=Q) i
  have hl3:(gs.eraseIdx i).length<=gs.length:=by rw[List.length_eraseIdx];split<;>omega
  generalize qs[i]=y at *
  simp+decide (disch:=first|exact D2 j3 b1|fail) only[go_sem,↓reduceIte,j3,b1]
  refine Qb (fun _=> ?_) (fun h9=>absurd h9 (by omega))
  simp+decide (disch:=first|exact D2 j3 b1|fail) only[go_sem,↓reduceIte,j3,b1]
  refine Qa hP hca rfl rfl rfl ?_
  simp+decide (disch:=first|omega|rfl|(simp+decide only[go_sem,↓reduceIte,PV.cancel,j3,b1,hset,Option.map_some]<;>rfl)|fail) only[go_sem,↓reduceIte,PV.cancel,j3,b1,hset,Option.map_some]
  refine Qb (fun _=> ?_) (fun h9=>absurd (show y-1=0 by omega) h9)
  simp+decide (disch:=first|exact D1 j3|fail) only[go_sem,↓reduceIte,j3]
  refine Qa hP hw rfl rfl rfl ?_
  simp+decide (disch:=first|exact D1 j3|fail) only[go_sem,↓reduceIte,j3]
  refine Qi (Qd9 (Q.eraseIdx i)*16+((gs.eraseIdx i).length-0)) (by omega) ⟨gs.eraseIdx i,Q.eraseIdx i,r,j+1,0,rfl,hm3,hR,?_⟩
  simp+decide (disch:=first|exact D1 b2|fail) only[go_sem,↓reduceIte,b2]
  rfl
end Go.Proofs.YtonfajmchebkeaaGreat
namespace Go.FW
open Go
def pbB(K E:Nat)(p:List Tm):Bool:=p.all fun t=>decide (rs t.1+1<=K)&&(decide (t.2.length<=64)&&((t.2.all fun x=>decide (0<=x)&&decide (x<=E))&&decide (t.2.getLast? ≠some 0)))
theorem Qaow{K E:Nat}{p:List Tm}(h:pbB K E p=true):PB K E p:=fun t ht=>by
 have:=List.all_eq_true.1 h t ht
 simp only[Bool.and_eq_true,decide_eq_true_eq,List.all_eq_true]at this
 obtain⟨h1,h2,h3,h4⟩:=this
 exact⟨h1,⟨h2,fun x hx=>(h3 x hx).1,fun x hx=>(h3 x hx).2⟩,h4⟩
def Qx7:List Tm->Bool
 | []=>true
 |t::p=>(p.all fun s=>decide (0<Qah t.2 s.2))&&Qx7 p
theorem Q3f:∀ {p:List Tm},Qx7 p=true->Qbe p
 | [],_=>trivial
 |t::p,h=>by
  simp only[Qx7,Bool.and_eq_true,List.all_eq_true,decide_eq_true_eq]at h
  exact⟨h.1,Q3f h.2⟩
def nrmB(p:List Tm):Bool:=(p.all fun t=>decide (t.1≠0)&&decide (t.2.getLast? ≠some 0))&&Qx7 p
theorem Qanl{p:List Tm}(h:nrmB p=true):Nrm p:=by
 simp only[nrmB,Bool.and_eq_true,List.all_eq_true,decide_eq_true_eq]at h
 exact⟨fun t ht=>(h.1 t ht).2,fun t ht=>(h.1 t ht).1,Q3f h.2⟩
end Go.FW
