/- Part 8 of the proof of IdealSound: G6, G7, G8, FwVB, FwVD, FwWH. Own lemmas; no conditions. -/
import Derived.Test.YtonfajmchebkeaaGreatIdealSoundPart7
set_option linter.unusedSimpArgs false
set_option linter.unnecessarySimpa false
set_option linter.unusedVariables false
namespace Go.Proofs.YtonfajmchebkeaaGreat
open Go Go.FW
set_option linter.unusedSimpArgs false
set_option linter.unusedVariables false
set_option maxRecDepth 100000
theorem i_Ex{j:Nat}{p q:List Tm}(hp:Cf j p)(hq:Sm4 q)(h0:q≠[])(hj:j<=16):Qe Tryz.prog 89 [PV.poly p,PV.poly q] (· =PV.exO (exO q p)):=by
 obtain⟨k,h1,h2,h3,h4,_⟩:=Q17 hp hq h0 hj
 have hl:=hq.l
 have:=Qy6 (K:=4194304) (E:=6560) (L:=4294967296) hp.n hq.n (hq.b.mono (by omega) (by omega)) h0 (by omega) h2 h3 h4 (by omega) (by omega) (by omega) (by omega) (by omega)
 rwa[Qaab ⟨h3,h4⟩]at this
theorem r_Ex{j:Nat}{p q:List Tm}(hp:Cf j p)(hq:Sm4 q)(h0:q≠[])(hj:j<=16):Qe Tryz.prog 177 [PV.poly p,PV.poly q] (· =PV.exO (exO q p)):=by
 obtain⟨k,h1,h2,h3,h4,_⟩:=Q17 hp hq h0 hj
 have hl:=hq.l
 have bq:PB 4194304 6560 q:=hq.b.mono (by omega) (by omega)
 have hbQ:∀i,i<=k->PB (4194304+4194304) 6560 (exQ q p i):=fun i hi t ht=>by
  obtain⟨m,hm,rfl⟩:=Qw3 ht
  exact Q1v (h2 m (by omega)).1 bq hq.n h0 (h3 m (by omega))
 have:=Qy7 (K:=4194304) (E:=6560) (L:=4294967296) hp.n hq.n bq h0 (by omega) h2 h3 h4 hbQ (by omega) (by omega) (by omega) (by omega) (by omega)
 rwa[Qaab ⟨h3,h4⟩]at this
theorem Qaam{q:List Tm}:∀ {cs:List (List Tm)} {xs:List PV},xs.length=cs.length->(∀j (h:j<cs.length),∃s,exO q cs[j]=some s/\xs[j]? =some (PV.poly s))->∃r,exL q cs=some r/\xs=r.map PV.poly
 | [],[],_,_=>⟨[],rfl,rfl⟩
 | [],_::_,h,_=>by simp at h
 |_::_,[],h,_=>by simp at h
 | c::cs,x::xs,h,hi=>by
  obtain⟨s,h1,h2⟩:=hi 0 (by simp)
  obtain⟨r,h3,h4⟩:=Qaam (cs:=cs) (xs:=xs) (by simpa using h) fun j hj=>by
   obtain⟨s,g1,g2⟩:=hi (j+1) (by simpa using hj)
   exact⟨s,by simpa using g1,by simpa using g2⟩
  simp only[List.getElem_cons_zero]at h1
  simp only[List.getElem?_cons_zero,Option.some.injEq]at h2
  exact⟨s::r,by simp[exL,h1,h3],by rw[h2,h4];rfl⟩
noncomputable def cancelO (fs : List (List Tm)) (ps : List Int) (cs : List (List Tm)) (i : Int) : Option (List Int × List (List Tm)) :=
 if 0 <= i /\ i.toNat < fs.length /\ i.toNat < ps.length /\ 1 <= ps.getD i.toNat 0 then (exL (fs.getD i.toNat []) cs).map fun l => (ps.set i.toNat (ps.getD i.toNat 0 - 1), l) else none
def PV.cancel(fs:List (List Tm))(n:Int):Option (List Int×List (List Tm))->PV
 |some r=> .tup [PV.cert fs r.1 n r.2,.bool true]
 |none=> .tup [PV.cert [] [] 0 [],.bool false]
theorem Qfa{fs:List (List Tm)}{ps:List Int}{cs:List (List Tm)}{i:Int}(h:¬(0<=i/\i.toNat<fs.length/\i.toNat<ps.length/\1<=ps.getD i.toNat 0)):cancelO fs ps cs i=none:=by unfold cancelO;rw[if_neg h]
theorem Qgu{fs:List (List Tm)}{ps:List Int}{cs:List (List Tm)}{m:Nat}(h1:m<fs.length)(h2:m<ps.length)(h3:1<=ps[m]):cancelO fs ps cs (m:Nat)=(exL fs[m] cs).map fun l=>(ps.set m (ps[m]-1),l):=by
 have e1:ps.getD m 0=ps[m]:=by simp[h2]
 have e2:fs.getD m []=fs[m]:=by simp[h1]
 unfold cancelO
 rw[Int.toNat_natCast,e1,e2,if_pos ⟨by omega,h1,h2,h3⟩]
theorem Qfk:PV.le (.agg [.nilS,.nilS,.int .i64 0,.nilS]) (PV.cert [] [] 0 []):=⟨trivial,trivial,rfl,trivial,trivial⟩
theorem Qki{fs:List (List Tm)}{ps:List Int}{n i:Int}{cs:List (List Tm)}{j:Nat}(hf:∀f∈fs,Sm4 f/\f≠[])(hc:∀c∈cs,Cf j c)(hj:j<=16)(hfl:fs.length<=2^20)(hpl:ps.length<=2^20)(hcl:cs.length<=2^20)(hpi:∀x∈ps,-9223372036854775808<=x/\x<=9223372036854775807):
  Qe Tryz.prog 43 [PV.cert fs ps n cs,.int .i64 i] (· =PV.cancel fs n (cancelO fs ps cs i)):=by
 refine Qf Qj Tryz.func43 rfl Qaor (by simp[c43]) fun C hP=> ?_;simp only[c43,Zo,Zg,Zm,Zc,Zf,Zl,Zh,Zs,Zi,Zb,Zk,Zn,Zu,Zq,Zr,Zz]
 simp+decide (disch:=first|exact D0|fail) only[go_sem,↓reduceIte]
 refine Qaa (fun h1=> ?_) (fun h1=> ?_)
 ·
  simp+decide (disch:=first|exact D0|fail) only[go_sem,↓reduceIte]
  refine Qdh ?_
  simp+decide (disch:=first|exact D0|fail) only[go_sem,↓reduceIte]
  exact Qbh (by rw[Qfa (by omega)];rfl) rfl rfl Qfk (Qv _)
 simp+decide (disch:=first|exact D0|fail) only[go_sem,↓reduceIte]
 refine Qaa (fun h2=> ?_) (fun h2=> ?_)
 ·
  simp+decide (disch:=first|exact D0|fail) only[go_sem,↓reduceIte]
  refine Qdh ?_
  simp+decide (disch:=first|exact D0|fail) only[go_sem,↓reduceIte]
  exact Qbh (by rw[Qfa (by omega)];rfl) rfl rfl Qfk (Qv _)
 simp+decide (disch:=first|exact D0|fail) only[go_sem,↓reduceIte]
 refine Qaa (fun h3=> ?_) (fun h3=> ?_)
 ·
  simp+decide (disch:=first|exact D0|fail) only[go_sem,↓reduceIte]
  refine Qdh ?_
  simp+decide (disch:=first|exact D0|fail) only[go_sem,↓reduceIte]
  exact Qbh (by rw[Qfa (by omega)];rfl) rfl rfl Qfk (Qv _)
 obtain⟨m,rfl⟩:∃m:Nat,i=m:=⟨i.toNat,by omega⟩
 have hm1:m<fs.length:=by omega
 have hm2:m<ps.length:=by omega
 have hca:= @Qgu fs ps cs m hm1 hm2
 have e1:ps.getD m 0=ps[m]:=by simp[hm2]
 have hcn:¬1<=ps[m]->cancelO fs ps cs (m:Nat)=none:=fun h=>Qfa fun g=>h (by have:=g.2.2.2;rwa[Int.toNat_natCast,e1]at this)
 clear e1
 have hpm:=hpi _ (List.getElem_mem hm2)
 obtain⟨hf1,hf2⟩:=hf _ (List.getElem_mem hm1)
 generalize hx:ps[m]=x at *
 generalize hy:fs[m]=f at *
 simp+decide (disch:=first|exact D1 hx|fail) only[go_sem,↓reduceIte,hx]
 refine Qb (fun h4=> ?_) (fun h4=> ?_)
 ·simp+decide (disch:=first|exact D0|fail) only[go_sem,↓reduceIte]
  refine Qdh ?_
  simp+decide (disch:=first|exact D0|fail) only[go_sem,↓reduceIte]
  exact Qbh (by rw[hcn (by omega)];rfl) rfl rfl Qfk (Qv _)
 have hca:=hca (by omega)
 simp+decide (disch:=first|exact D1 hx|fail) only[go_sem,↓reduceIte,hx]
 refine Qx (by repeat (first|exact Qt|exact Qm|exact Qn|exact Qo|exact Qp|apply Ql|apply Qr|apply Qy|apply Q3|apply Q4|apply Qi|apply Qw)) [(5,5),(7,9),(42,66)] [] (fun r J hp=>∃k xs,r=cs.length-k/\k<=cs.length/\J 42= .int .i64 (k:Nat)/\xs.length=cs.length/\hp 39=some ⟨1,51,xs,false⟩/\hp 2=some ⟨4,79,[PV.cert fs ps n cs],false⟩/\hp 4=some ⟨4,79,[.agg [.nilS,.nilS,.int .i64 0,.nilS]],false⟩/\∀j (h:j<cs.length),j<k->∃s,exO f cs[j]=some s/\xs[j]? =some (PV.poly s)) cs.length ?_ ?_
 ·refine⟨0,List.replicate cs.length .nilS,rfl,by omega,?_⟩
  simp+decide (disch:=first|exact D0|fail) only[go_sem,↓reduceIte]
  exact⟨rfl,by simp,fun j hj=>by omega⟩
 rintro _ J h ⟨k,xs,rfl,hk,h42,hl,h39,b2,b4,hq⟩
 simp+decide (disch:=first|exact D1 h42|fail) only[go_sem,↓reduceIte,h42]
 refine Qb (fun hg=> ?_) (fun hg=> ?_)
 ·have hk':k<cs.length:=by omega
  have hex:=i_Ex (hc _ (List.getElem_mem hk')) hf1 hf2 hj
  have hnn:=Qpl (q:=f) hk'
  have hadd:∀s,exO f cs[k]=some s->∀j (h:j<cs.length),j<k+1->∃t,exO f cs[j]=some t/\(xs.set k (PV.poly s))[j]? =some (PV.poly t):=fun s hs j hj hjk=>by
   rw[List.getElem?_set]
   by_cases e:j=k
   ·subst e;exact⟨s,hs,by rw[if_pos rfl,if_pos (by omega)]⟩
   ·rw[if_neg (fun e2=>e e2.symm)];exact hq j hj (by omega)
  generalize hz:cs[k]=z at *
  simp+decide (disch:=first|exact D6 h42 h39 b2 b4 hz hy|fail) only[go_sem,↓reduceIte,h42,h39,b2,b4,hz,hy]
  refine Qa hP hex rfl rfl rfl ?_
  cases hr:exO f z with
  |none=>
   rw[hnn hr]at hca
   simp+decide (disch:=first|omega|rfl|(simp+decide only[go_sem,↓reduceIte,PV.exO,b4]<;>rfl)|fail) only[go_sem,↓reduceIte,PV.exO,b4]
   refine Qdh ?_
   simp+decide (disch:=first|exact D0|fail) only[go_sem,↓reduceIte]
   exact Qbh (by rw[hca];rfl) rfl rfl Qfk (Qv _)
  |some s=>
   simp+decide (disch:=first|omega|rfl|(simp+decide only[go_sem,↓reduceIte,PV.exO,h42,h39]<;>rfl)|fail) only[go_sem,↓reduceIte,PV.exO,h42,h39]
   rw[Qp9 (n:=1) (xs:=xs) (v:=PV.poly s) (by omega) rfl rfl]
   simp+decide (disch:=first|exact D1 h42|fail) only[go_sem,↓reduceIte,h42]
   refine Qg (cs.length-(k+1)) (by omega) ⟨k+1,xs.set k (PV.poly s),rfl,by omega,?_⟩
   simp+decide (disch:=first|exact D2 b2 b4|fail) only[go_sem,↓reduceIte,b2,b4]
   exact⟨by simp[hl],hadd s hr⟩
 ·obtain rfl:k=cs.length:=by omega
  obtain⟨r,hr1,hr2⟩:=Qaam hl fun j hj=>hq j hj hj
  rw[hr1]at hca
  simp+decide (disch:=first|exact D5 h42 h39 b2 b4 hx|fail) only[go_sem,↓reduceIte,h42,h39,b2,b4,hx]
  have hcp:(Qei ps).take ps.length++(Qei (List.replicate ps.length 0)).drop (Qei ps).length=Qei ps:=by
   rw[List.take_of_length_le (by simp),List.drop_of_length_le (by simp),List.append_nil]
  rw[Qv8 (ty:=3) (xs:=Qei (List.replicate ps.length 0)) T0 (by simp),hcp]
  simp+decide (disch:=first|exact D3 b2 b4 hx|fail) only[go_sem,↓reduceIte,b2,b4,hx]
  rw[Qze (Qcj.flat rfl) (Qcj.own (e:=1) (ty:=3) (xs:=Qei (ps.set m (x-1))) (fz:=false) T0 (by simp)) (Qcj.flat rfl) (Qcj.own (e:=1) (ty:=51) (xs:=xs) (fz:=false) (T1 h39) (by omega))]
  refine⟨⟨rfl,by simp⟩,⟨rfl,by simp⟩,⟨rfl,by simp⟩,⟨rfl,by simp⟩,?_⟩
  simp+decide (disch:=first|exact E1 b4|fail) only[go_sem,↓reduceIte,b4,Q7,List.contains_cons,List.contains_nil,List.flatMap_cons,List.flatMap_nil,List.append_nil]
  refine Qdh ?_
  simp+decide (disch:=first|exact D0|fail) only[go_sem,↓reduceIte]
  subst hr2
  exact Qbh (by rw[hca];rfl) rfl rfl (Qv _) (Qv _)
def PV.quots:Option (List (List Tm))->PV
 |some r=> .tup [PV.polys r,.bool true]
 |none=> .tup [PV.polys [],.bool false]
theorem Qaan:PV.le .nilS (PV.polys []):=trivial
theorem Qhx{f:List Tm}{cs:List (List Tm)}{j:Nat}(hf1:Sm4 f)(hf2:f≠[])(hc:∀c∈cs,Cf j c)(hj:j<=16)(hcl:cs.length<=2^20):Qe Tryz.prog 94 [PV.polys cs,PV.poly f] (· =PV.quots (exL f cs)):=by
 refine Qf Qj Tryz.func94 rfl Qaow (by simp[c94]) fun C hP=> ?_;simp only[c94,Zo,Zg,Zm,Zc,Zf,Zl,Zh,Zs,Zi,Zb,Zk,Zn,Zu,Zq,Zr,Zz]
 simp+decide (disch:=first|exact D0|fail) only[go_sem,↓reduceIte]
 refine Qf7 6 900 1 51 (by omega) T0 ?_
 refine Qx (by repeat (first|exact Qt|exact Qm|exact Qn|exact Qo|exact Qp|apply Ql|apply Qr|apply Qy|apply Q3|apply Q4|apply Qi|apply Qw)) [(4,30)] [29,30,900] (fun n J hp=>∃(k:Nat)(xs:List (List Tm)),n=cs.length-k/\k<=cs.length/\J 6= .ms 900 k/\J 7= .int .i64 (k:Nat)/\xs.length=k/\hp 900=some ⟨1,51,xs.map PV.poly,false⟩/\∀j (h:j<cs.length) (h2:j<xs.length),exO f cs[j]=some xs[j]) cs.length ?_ ?_
 ·refine⟨0,[],rfl,by omega,?_⟩
  simp+decide (disch:=first|exact D0|fail) only[go_sem,↓reduceIte]
  exact⟨rfl,fun j h h2=>absurd h2 (Nat.not_lt_zero j)⟩
 rintro _ J h ⟨k,xs,rfl,hk,h6,h7,hl,h9,hq⟩
 simp+decide (disch:=first|exact D1 h7|fail) only[go_sem,↓reduceIte,h7]
 refine Qb (fun hg=> ?_) (fun hg=> ?_)
 ·have hk':k<cs.length:=by omega
  have hex:=r_Ex (hc _ (List.getElem_mem hk')) hf1 hf2 hj
  have hnn:=Qpl (q:=f) hk'
  have hadd:∀s,exO f cs[k]=some s->∀j (h:j<cs.length) (h2:j<(xs++[s]).length),exO f cs[j]=some (xs++[s])[j]:=fun s hs j hj hj2=>by
   rw[List.length_append,List.length_singleton]at hj2
   by_cases e:j=xs.length
   ·subst e
    rw[List.getElem_append_right (Nat.le_refl _)]
    simp only[Nat.sub_self,List.getElem_singleton]
    rw[<-hs];congr 2
   ·rw[List.getElem_append_left (by omega)];exact hq j hj (by omega)
  generalize hz:cs[k]=z at *
  simp+decide (disch:=first|exact D2 h7 hz|fail) only[go_sem,↓reduceIte,h7,hz]
  refine Qa hP hex rfl rfl rfl ?_
  cases hr:exO f z with
  |none=>
   rw[hnn hr]
   simp+decide (disch:=first|omega|rfl|(simp+decide only[go_sem,↓reduceIte,PV.exO]<;>rfl)|fail) only[go_sem,↓reduceIte,PV.exO]
   exact Qbh rfl rfl rfl Qaan (Qv _)
  |some s=>
   simp+decide (disch:=first|omega|rfl|(simp+decide only[go_sem,↓reduceIte,PV.exO,h6,h7,h9]<;>rfl)|fail) only[go_sem,↓reduceIte,PV.exO,h6,h7,h9]
   rw[Qal (f:=PV.poly) (y:=s) (xs:=xs) (ty':=51) (fz:=false) (T1 h9) Tr0 (by omega) hl.symm (by omega) (by omega)]
   simp+decide (disch:=first|exact D1 h7|fail) only[go_sem,↓reduceIte,h7]
   refine Qg (cs.length-(k+1)) (by omega) ⟨k+1,xs++[s],rfl,by omega,?_⟩
   simp+decide (disch:=first|exact D0|fail) only[go_sem,↓reduceIte]
   exact⟨by simp[hl],hadd s hr⟩
 ·obtain rfl:k=cs.length:=by omega
  rw[Q18 (r:=xs) hl.symm fun i a b=>hq i a b]
  simp+decide (disch:=first|exact E2 h6 h9|fail) only[go_sem,↓reduceIte,h6,h9,Q7,List.contains_cons,List.contains_nil,List.flatMap_cons,List.flatMap_nil,List.append_nil]
  exact Qbh (r:=PV.quots (some xs)) rfl rfl rfl (by simp[List.take_of_length_le,hl,Qv]) (Qv _)
theorem Qkj{fs:List (List Tm)}{ps:List Int}{n i:Int}{cs:List (List Tm)}{j:Nat}(hf:∀f∈fs,Sm4 f/\f≠[])(hc:∀c∈cs,Cf j c)(hj:j<=16)(hfl:fs.length<=2^20)(hpl:ps.length<=2^20)(hcl:cs.length<=2^20)(hpi:∀x∈ps,-9223372036854775808<=x/\x<=9223372036854775807):
  Qe Tryz.prog 49 [PV.cert fs ps n cs,.int .i64 i] (· =PV.cancel fs n (cancelO fs ps cs i)):=by
 refine Qf Qj Tryz.func49 rfl Qaox (by simp[c49]) fun C hP=> ?_;simp only[c49,Zo,Zg,Zm,Zc,Zf,Zl,Zh,Zs,Zi,Zb,Zk,Zn,Zu,Zq,Zr,Zz]
 simp+decide (disch:=first|exact D0|fail) only[go_sem,↓reduceIte]
 refine Qaa (fun h1=> ?_) (fun h1=> ?_)
 ·
  simp+decide (disch:=first|exact D0|fail) only[go_sem,↓reduceIte]
  refine Qdh ?_
  simp+decide (disch:=first|exact D0|fail) only[go_sem,↓reduceIte]
  exact Qbh (by rw[Qfa (by omega)];rfl) rfl rfl Qfk (Qv _)
 simp+decide (disch:=first|exact D0|fail) only[go_sem,↓reduceIte]
 refine Qaa (fun h2=> ?_) (fun h2=> ?_)
 ·
  simp+decide (disch:=first|exact D0|fail) only[go_sem,↓reduceIte]
  refine Qdh ?_
  simp+decide (disch:=first|exact D0|fail) only[go_sem,↓reduceIte]
  exact Qbh (by rw[Qfa (by omega)];rfl) rfl rfl Qfk (Qv _)
 simp+decide (disch:=first|exact D0|fail) only[go_sem,↓reduceIte]
 refine Qaa (fun h3=> ?_) (fun h3=> ?_)
 ·
  simp+decide (disch:=first|exact D0|fail) only[go_sem,↓reduceIte]
  refine Qdh ?_
  simp+decide (disch:=first|exact D0|fail) only[go_sem,↓reduceIte]
  exact Qbh (by rw[Qfa (by omega)];rfl) rfl rfl Qfk (Qv _)
 obtain⟨m,rfl⟩:∃m:Nat,i=m:=⟨i.toNat,by omega⟩
 have hm1:m<fs.length:=by omega
 have hm2:m<ps.length:=by omega
 have hca:= @Qgu fs ps cs m hm1 hm2
 have e1:ps.getD m 0=ps[m]:=by simp[hm2]
 have hcn:¬1<=ps[m]->cancelO fs ps cs (m:Nat)=none:=fun h=>Qfa fun g=>h (by have:=g.2.2.2;rwa[Int.toNat_natCast,e1]at this)
 clear e1
 have hpm:=hpi _ (List.getElem_mem hm2)
 obtain⟨hf1,hf2⟩:=hf _ (List.getElem_mem hm1)
 have hqs:=Qhx hf1 hf2 hc hj hcl
 generalize hx:ps[m]=x at *
 generalize hy:fs[m]=f at *
 simp+decide (disch:=first|exact D1 hx|fail) only[go_sem,↓reduceIte,hx]
 refine Qaa (fun h4=> ?_) (fun h4=> ?_)
 ·simp+decide (disch:=first|exact D0|fail) only[go_sem,↓reduceIte]
  refine Qdh ?_
  simp+decide (disch:=first|exact D0|fail) only[go_sem,↓reduceIte]
  exact Qbh (by rw[hcn (by omega)];rfl) rfl rfl Qfk (Qv _)
 have hca:=hca (by omega)
 have hfl0:f.length≠0:=fun e=>hf2 (List.length_eq_zero_iff.1 e)
 simp+decide (disch:=first|exact D2 hx hy|fail) only[go_sem,↓reduceIte,hx,hy]
 refine Qb (fun h5=>absurd h5 (by omega)) (fun h5=> ?_)
 simp+decide (disch:=first|exact D2 hx hy|fail) only[go_sem,↓reduceIte,hx,hy]
 refine Qa hP hqs rfl rfl rfl ?_
 cases hr:exL f cs with
 |none=>
  rw[hr]at hca
  simp+decide (disch:=first|omega|rfl|(simp+decide only[go_sem,↓reduceIte,PV.quots]<;>rfl)|fail) only[go_sem,↓reduceIte,PV.quots]
  refine Qdh ?_
  simp+decide (disch:=first|exact D0|fail) only[go_sem,↓reduceIte]
  exact Qbh (by rw[hca];rfl) rfl rfl Qfk (Qv _)
 | some r=>
  rw[hr]at hca
  simp+decide (disch:=first|omega|rfl|(simp+decide only[go_sem,↓reduceIte,PV.quots,hx]<;>rfl)|fail) only[go_sem,↓reduceIte,PV.quots,hx]
  rw[bs0e (by omega)]
  simp+decide (disch:=first|exact D1 hx|fail) only[go_sem,↓reduceIte,hx]
  rw[Qif (ys:=Qei ps) (xs:=[]) rfl T0 (by omega) (by simp) (by simp;omega) (by simp;omega),List.take_nil,List.nil_append,Nat.zero_add]
  have hil:(Qei ps).length=ps.length:=by simp
  simp+decide (disch:=first|exact D2 hx hil|fail) only[go_sem,↓reduceIte,hx,hil]
  have hpl2:(fs.map PV.poly).length=fs.length:=by simp
  repeat' first
   |refine Qej ?_ ?_
   |rw[bs0e (by omega)]
   |rw[Qif (ys:=fs.map PV.poly) (xs:=[]) rfl T0 (by omega) (by simp) (by rw[hpl2];omega) (by rw[hpl2];omega),List.take_nil,List.nil_append,Nat.zero_add,hpl2]
   |rw[Qze (Qcj.own (e:=1) (ty:=51) (xs:=fs.map PV.poly) (fz:=false) T0 (by simp)) (Qcj.own (e:=1) (ty:=3) (xs:=Qei (ps.set m (x-1))) (fz:=false) T0 (by simp)) (Qcj.flat rfl) (Qcj.flat rfl)]
   |simp+decide (disch:=first|exact E0|fail) only[go_sem,↓reduceIte,Q7,List.contains_cons,List.contains_nil,List.flatMap_cons,List.flatMap_nil,List.append_nil]
  all_goals
   refine Qdh ?_
   simp+decide (disch:=first|exact D0|fail) only[go_sem,↓reduceIte]
   exact Qbh (by rw[hca];rfl) rfl rfl (Qv _) (Qv _)
end Go.Proofs.YtonfajmchebkeaaGreat
namespace Go.Proofs.YtonfajmchebkeaaGreat
open Go Go.FW
set_option linter.unusedSimpArgs false
set_option linter.unusedVariables false
set_option maxRecDepth 100000
theorem Qw5{fs:List (List Tm)}{ps:List Int}{n:Int}{cs:List (List Tm)}{i:Nat}(hi:i<fs.length)(hl:ps.length=fs.length)(hfl:fs.length<=2^20):
  Qe Tryz.prog 88 [PV.cert fs ps n cs,.int .i64 i] (· =PV.cert (fs.eraseIdx i) (ps.eraseIdx i) n cs):=by
 refine Qf Qj Tryz.func88 rfl Qaos (by simp[c88]) fun C hP=> ?_;simp only[c88,Zo,Zg,Zm,Zc,Zf,Zl,Zh,Zs,Zi,Zb,Zk,Zn,Zu,Zq,Zr,Zz]
 have e1:=List.eraseIdx_eq_take_drop_succ fs i
 have e2:=List.eraseIdx_eq_take_drop_succ ps i
 have l1:(fs.take i).length=i:=by rw[List.length_take];omega
 have l2:(fs.drop (i+1)).length=fs.length-(i+1):=List.length_drop ..
 have l3:(ps.take i).length=i:=by rw[List.length_take];omega
 have l4:(ps.drop (i+1)).length=fs.length-(i+1):=by rw[List.length_drop,hl]
 simp+decide (disch:=first|exact D0|fail) only[go_sem,↓reduceIte]
 repeat' first
  |refine Qej ?_ ?_
  |rw[Qdf (f:=PV.poly) (xs:=fs.take i) (ys:=fs.drop (i+1)) T0 rfl (by omega) (by rw[l1,l2];omega) (by rw[l1,l2];omega),<-e1]
  |rw[Qdf (f:=fun(x:Int)=>PV.int .i64 x) (xs:=ps.take i) (ys:=ps.drop (i+1)) T0 rfl (by omega) (by rw[l3,l4];omega) (by rw[l3,l4];omega),<-e2]
  |simp+decide (disch:=first|exact E0|fail) only[go_sem,↓reduceIte,Q7,List.contains_cons,List.contains_nil,List.flatMap_cons,List.flatMap_nil,List.append_nil]
 all_goals
  refine Qa2 ?_
  simp+decide (disch:=first|exact D0|fail) only[go_sem,↓reduceIte]
  refine Qc ?_ rfl
  rw[List.take_of_length_le (by rw[List.length_map,e1,List.length_append];exact Nat.le_refl _),List.take_of_length_le (by rw[List.length_map,e2,List.length_append];exact Nat.le_refl _)]
end Go.Proofs.YtonfajmchebkeaaGreat
namespace Go.Proofs.YtonfajmchebkeaaGreat
open Go Go.FW
set_option linter.unusedSimpArgs false
set_option linter.unusedVariables false
set_option maxRecDepth 100000
def c97:SFn:=⟨50,[.cell 4 4 true],Zr (Zo (.box 2 4 79 (.t 0))<|
 Zo (.alloc 4 4 79 (.agg [.nilS,.nilS,Zz 0,.nilS])) .nil)<|Zr (Zf 7 2 2<|
 Zl 8 1 7<|
 Zf 9 3 2<|
 Zl 10 1 9<|
 Zo (.bld 11 [.nilS,.nilS,Zz 0,.nilS] [(2,1,.t 8),(3,1,.t 10)])<|
 Zo (.alloc 5 4 79 (.agg [.nilS,.nilS,Zz 0,.nilS]))<|
 Zs 4 5 11<|
 .wk<| .wk<| .wk<| .wk .nil)<| .seq (Zr (Zc 6 0 .nil)<| .block 0<| .loop<| .seq (Zr (Zm 12 6<|
 Zf 13 0 2<|
 Zl 14 1 13<|
 Zn 15 14<|
 Zb 16 .lss 12 15<|
 Zm 17 16<|
 Zg 17 true (.mv 18 (.t 6))<|
 Zg 17 true (.fld 19 1 (.t 2))<|
 Zg 17 true (.ld 20 1 false (.t 19))<|
 Zg 17 true (.len 21 (.t 20))<|
 Zg 17 true (.bin 22 .lss false (.t 18) (.t 21))<|
 Zo (.pick 23 (.t 17) (.t 22) (.c (.bool false))) .nil)<| .cond (.t 23) .skip (.exit 0))<| .seq (.block 1<|Zr (Zm 26 6<|
 Zm 27 1<|
 Zb 28 .neq 26 27 .nil)<| .cond (.t 28) (Zr (Zf 29 0 5<|
 Zl 30 1 29<|
 Zf 31 0 2<|
 Zl 32 1 31<|
 Zm 33 6<|
 Zi 34 1 32 33<|
 Zl 35 1 34<|
 Zo (.bs 36 1 51 [.t 35])<|
 Zo (.app 37 1 24 51 (.t 30) (.t 36))<|
 Zf 38 0 5<|
 Zs 1 38 37 .nil)<| .rg (Zf 39 1 5<|
 Zl 40 1 39<|
 Zf 41 1 2<|
 Zl 42 1 41<|
 Zm 43 6<|
 Zi 44 1 42 43<|
 Zl 45 1 44<|
 Zo (.bs 46 1 3 [.t 45])<|
 Zo (.app 47 1 8 3 (.t 40) (.t 46))<|
 Zf 48 1 5<|
 Zs 1 48 47 .nil)) .skip)<| .rg (Zm 24 6<|
 Zk 25 .add 24 1<|
 Zm 6 25 .nil))<|Zr (Zh 49 4 5<|
 .wk<|Zs 4 4 49 .nil) .ret⟩
theorem Qapo:Qd Tryz.prog Tryz.f97=some c97.strip:=by kernel_rfl
theorem Qpv{α:Type}{l:List α}{i m:Nat}(h:i<l.length)(hne:i≠m):(l.take (i+1)).eraseIdx m=(l.take i).eraseIdx m++[l[i]]:=by
 have hl:(l.take i).length=i:=by rw[List.length_take];omega
 rw[List.take_succ_eq_append_getElem h]
 rcases Nat.lt_or_ge m i with h1|h1
 ·rw[List.eraseIdx_append_of_lt_length (by omega)]
 ·rw[List.eraseIdx_append_of_length_le (by omega),List.eraseIdx_of_length_le (l:=l.take i) (by omega),List.eraseIdx_of_length_le (by simp;omega)]
theorem Qpw{α:Type}{l:List α}{m:Nat}(h:m<l.length):(l.take (m+1)).eraseIdx m=(l.take m).eraseIdx m:=by
 have hl:(l.take m).length=m:=by rw[List.length_take];omega
 rw[List.take_succ_eq_append_getElem h,List.eraseIdx_append_of_length_le (by omega),hl,Nat.sub_self,List.eraseIdx_of_length_le (l:=l.take m) (by omega)]
 simp
abbrev wroC(k:Nat)(n:Int)(cs:List (List Tm)):PV:= .rag [.mso 2000002 0 k,.mso 2000003 0 k,.int .i64 n,PV.polys cs]
theorem Qjd{fs:List (List Tm)}{ps:List Int}{n:Int}{cs:List (List Tm)}{m:Nat}(hm:m<fs.length)(hl:ps.length=fs.length)(hfl:fs.length<=2^20):
  Qe Tryz.prog 97 [PV.cert fs ps n cs,.int .i64 m] (· =PV.cert (fs.eraseIdx m) (ps.eraseIdx m) n cs):=by
 refine Qyl Qj Tryz.func97 rfl Qapo (by simp[c97]) fun C hP=> ?_;simp only[c97,Zo,Zg,Zm,Zc,Zf,Zl,Zh,Zs,Zi,Zb,Zk,Zn,Zu,Zq,Zr,Zz]
 simp+decide (disch:=first|exact D0|fail) only[go_sem,↓reduceIte]
 refine Qg5 (Qu0 5 2000001 rfl (by omega) rfl (by omega)) ?_
 simp+decide (disch:=first|exact D0|fail) only[go_sem,↓reduceIte]
 refine Qg5 (Q03 (γ:=2000001) (e:=4) (ty:=79) (xs:=[.agg [.nilS,.nilS,.int .i64 n,PV.polys cs]]) (fz:=false) T0 (by simp) (by omega) (fun x hx=>by rw[List.mem_singleton.1 hx];rfl)) ?_
 refine Qg5 (Qagd (γ:=2000001) (e:=4) (ty:=79) (cs:=[.nilS,.nilS,.int .i64 n,PV.polys cs]) (cs':=[.mso 2000002 0 0,.nilS,.int .i64 n,PV.polys cs]) 2000002 1 51 T0 Tr0 (by omega) (by omega) rfl (by simp)) ?_
 refine Qg5 (Qw4 (γ:=2000001) (e:=4) (ty:=79) (cs:=[.mso 2000002 0 0,.nilS,.int .i64 n,PV.polys cs]) (cs':=[.mso 2000002 0 0,.mso 2000003 0 0,.int .i64 n,PV.polys cs]) 2000003 1 3 T0 Tr0 (by omega) (by omega) rfl (by simp)) ?_
 simp+decide (disch:=first|exact D0|fail) only[go_sem,↓reduceIte]
 have hlen:∀i,i<=fs.length->((ps.take i).eraseIdx m).length=((fs.take i).eraseIdx m).length/\((fs.take i).eraseIdx m).length<=i:=fun i hi=>by
  rw[List.length_eraseIdx,List.length_eraseIdx,List.length_take,List.length_take,hl]
  refine⟨rfl,?_⟩
  split<;>omega
 refine Qo2 (by repeat (first|exact Qt|exact Qm|exact Qn|exact Qo|exact Qp|apply Ql|apply Qr|apply Qy|apply Q3|apply Q4|apply Qi|apply Qw)) [(5,6),(12,48),(2000001,2000001)] [36,37,46,47] (fun q J hp=>∃i,q=fs.length-i/\i<=fs.length/\J 5= .np 2000001 0 0/\J 6= .int .i64 (i:Nat)/\J 2000001= .nst 2000001 4 79 [wroC ((fs.take i).eraseIdx m).length n cs]/\hp 2=some ⟨4,79,[PV.cert fs ps n cs],false⟩/\hp 4=some ⟨4,79,[.agg [.nilS,.nilS,.int .i64 0,.nilS]],false⟩/\
   hp 2000001=some ⟨4,79,[],false⟩/\hp 2000002=some ⟨1,51,((fs.take i).eraseIdx m).map PV.poly,false⟩/\hp 2000003=some ⟨1,3,Qei ((ps.take i).eraseIdx m),false⟩) fs.length ?_ ?_
 ·refine⟨0,rfl,by omega,?_⟩
  simp+decide (disch:=first|exact D0|fail) only[go_sem,↓reduceIte]
  simp only[List.eraseIdx_nil]
  exact⟨rfl,rfl,rfl,rfl⟩
 rintro _ J h ⟨i,rfl,hi,j5,j6,jn,b2,b4,h1,h2,h3⟩
 obtain⟨hln,hli⟩:=hlen i hi
 simp+decide (disch:=first|exact D2 j6 b2|fail) only[go_sem,↓reduceIte,j6,b2]
 refine Q8 (fun hg=> ?_) (fun hg=> ?_)
 ·have hi':i<fs.length:=by omega
  have hip:i<ps.length:=by omega
  simp+decide (disch:=first|exact D2 j6 b2|fail) only[go_sem,↓reduceIte,j6,b2]
  refine Qb (fun _=> ?_) (fun hc=>absurd hg (by omega))
  simp+decide (disch:=first|exact D1 j6|fail) only[go_sem,↓reduceIte,j6]
  refine Qb (fun hne=> ?_) (fun heq=> ?_)
  ·have e1:=Qpv hi' (show i≠m by omega)
   have e2:=Qpv hip (show i≠m by omega)
   generalize(fs.take i).eraseIdx m=A at *
   generalize(ps.take i).eraseIdx m=B at *
   generalize hx:fs[i]=x at *
   generalize hy:ps[i]=y at *
   simp+decide (disch:=first|exact D9 j5 j6 jn b2 h1 h2 h3 hx hy|fail) only[go_sem,↓reduceIte,j5,j6,jn,b2,h1,h2,h3,hx,hy]
   rw[Qjm (f:=PV.poly) (y:=x) (xs:=A) (ty':=51) (fz:=false) (T1 h2) Tr0 (by omega) rfl (by omega) (by omega) (by omega)]
   simp+decide (disch:=first|exact D9 j5 j6 jn b2 h1 h2 h3 hx hy|fail) only[go_sem,↓reduceIte,j5,j6,jn,b2,h1,h2,h3,hx,hy]
   rw[Qjm (f:=fun(x:Int)=>PV.int .i64 x) (y:=y) (xs:=B) (ty':=3) (fz:=false) (T1 h3) Tr0 (by omega) hln.symm (by omega) (by omega) (by omega)]
   simp+decide (disch:=first|exact D7 j5 j6 jn b2 h1 h2 h3|fail) only[go_sem,↓reduceIte,j5,j6,jn,b2,h1,h2,h3]
   refine Qfv (fs.length-(i+1)) (by omega) ⟨i+1,rfl,by omega,?_⟩
   simp+decide (disch:=first|exact D4 j5 b2 b4 h1|fail) only[go_sem,↓reduceIte,j5,b2,b4,h1]
   simp only[e1,e2,List.length_append,List.length_singleton]
   exact⟨trivial,trivial,trivial⟩
  ·obtain rfl:i=m:=by omega
   have e1:=Qpw hi'
   have e2:=Qpw hip
   simp+decide (disch:=first|exact D1 j6|fail) only[go_sem,↓reduceIte,j6]
   refine Qfv (fs.length-(i+1)) (by omega) ⟨i+1,rfl,by omega,?_⟩
   rw[e1,e2]
   simp+decide (disch:=first|exact D7 j5 jn b2 b4 h1 h2 h3|fail) only[go_sem,↓reduceIte,j5,jn,b2,b4,h1,h2,h3]
 ·obtain rfl:i=fs.length:=by omega
  rw[List.take_length]at jn h2 hln
  rw[List.take_of_length_le (by omega)]at h3 hln
  simp+decide (disch:=first|exact D3 j5 jn h1|fail) only[go_sem,↓reduceIte,j5,jn,h1]
  refine Q4s 49 2 [2000002,2000003] (p:=wroC (fs.eraseIdx m).length n cs) T0 (D:=PV.cert (fs.eraseIdx m) (ps.eraseIdx m) n cs) ?_ ?_ rfl ?_
  ·intro c hc
   simp only[List.mem_cons,List.not_mem_nil,or_false]at hc
   rcases hc with rfl|rfl|rfl|rfl
   ·simp only[okD,isY];simp
   ·simp only[okD,isY];simp
   ·trivial
   ·trivial
  ·show PV.agg [dsn _ h 2 (.mso 2000002 0 _),dsn _ h 2 (.mso 2000003 0 _),_,_]=_
   simp only[dsn,h2,h3,List.drop_zero]
   rw[List.take_of_length_le (by simp),List.take_of_length_le (by simp;omega)]
  simp+decide (disch:=first|exact E1 b4|fail) only[go_sem,↓reduceIte,b4,Q7,List.contains_cons,List.contains_nil,List.flatMap_cons,List.flatMap_nil,List.append_nil]
  refine Q38 (Wk.refl _ _) ?_
  refine Qa2 ?_
  simp+decide (disch:=first|exact D0|fail) only[go_sem,↓reduceIte]
  exact Qc rfl rfl
end Go.Proofs.YtonfajmchebkeaaGreat
namespace Go.FW
open Go
end Go.FW
namespace Go.FW
open Go
theorem Qapq{a b:Rat}(h:b≠0):rs (a/b)<=rs a+rs b:=by
 rw[Rat.div_def]
 have:=Qlr a b⁻¹
 have:=Q9x b h
 omega
end Go.FW
namespace Go.FW
open Go
set_option maxRecDepth 100000
theorem Qalv{p q:List Tm}{E:Nat}(np:Nrm p)(nq:Nrm q)(bp:∀t∈p,MB E t.2)(bq:∀t∈q,MB E t.2)(hq:q≠[]):exO q (Qaf p q)=some p:=by
 obtain⟨h1,h2⟩:=Q13 np nq bp bq hq p.length (Nat.le_refl _)
 rw[List.drop_length,Q6b]at h1
 rw[List.take_length]at h2
 rw[Qn3 (k:=p.length) ⟨fun k hk=>Qaqn np nq bp bq hq hk,fun h=>h.1 h1⟩,if_pos h1,h2]
theorem Q6z{p:List Tm}(np:Nrm p){c:Rat}:Qaf p [(c,[])]=Qag p c:=by
 refine Qh3 (Qcq np.s (Qjp _)) (Qe7 np.s c) fun φ=> ?_
 rw[Qhm,Qiq φ np.c,<-Qlw]
 refine Qe6 fun t ht=> ?_
 show pev _ [(c,[])]=_
 rw[Qap,Qcc,Qls (np.c t ht)];grind
theorem Qaao{p:List Tm}{E:Nat}(np:Nrm p)(bp:∀t∈p,MB E t.2){c:Rat}(hc:c≠0):exO [(c,[])] p=some (Qag p (1/c)):=by
 have n1:=Qe7 np.s (1/c)
 have n2:Nrm [(c,([]:List Int))]:=Nrm.one hc (by simp)
 have e:Qaf (Qag p (1/c)) [(c,[])]=p:=by
  rw[Q6z n1,Ql2 np,show 1/c*c=1 by grind,Qpf np]
 have hc1:1/c≠0:=by grind
 have h:=Qalv (E:=E) n1 n2 (fun t ht=>by
  rw[Qvm np hc1]at ht
  obtain⟨s,hs,rfl⟩:=List.mem_map.1 ht
  exact bp s hs) (fun t ht=>by
  obtain rfl:t=(c,[]):=by simpa using ht
  exact⟨by simp,by simp,by simp⟩) (by simp)
 rwa[e]at h
def Qd8(x:List Tm×Int):Bool:=decide (0<Qdx x.1)&&decide (0<x.2)
def Qe0(s c:Rat):Nat->Rat
 |0=>s
 |n+1=>Qe0 s c n/c
def Qep(s:Rat)(x:List Tm×Int):Rat:=if Qdx x.1=0 then Qe0 s (hdT x.1).1 x.2.toNat else s
def Qb8(l:List (List Tm×Int)):Rat:=l.foldl Qep 1
def Qck(l:List (List Tm×Int)):List (List Tm):=(l.filter Qd8).map (·.1)
def Qct(l:List (List Tm×Int)):List Int:=(l.filter Qd8).map (·.2)
theorem Qkz{l:List (List Tm×Int)}{i:Nat}(h:i<l.length):Qb8 (l.take (i+1))=Qep (Qb8 (l.take i)) l[i]:=by
 unfold Qb8
 rw[List.take_succ_eq_append_getElem h,List.foldl_append];rfl
theorem Qvq{l:List (List Tm×Int)}{i:Nat}(h:i<l.length):Qck (l.take (i+1))=Qck (l.take i)++(if Qd8 l[i]then [l[i].1]else []):=by
 unfold Qck
 rw[List.take_succ_eq_append_getElem h,List.filter_append,List.map_append,List.filter_cons,List.filter_nil]
 split<;>rfl
theorem Qvr{l:List (List Tm×Int)}{i:Nat}(h:i<l.length):Qct (l.take (i+1))=Qct (l.take i)++(if Qd8 l[i]then [l[i].2]else []):=by
 unfold Qct
 rw[List.take_succ_eq_append_getElem h,List.filter_append,List.map_append,List.filter_cons,List.filter_nil]
 split<;>rfl
theorem Qpm(l:List (List Tm×Int)):(Qct l).length=(Qck l).length/\(Qck l).length<=l.length:=by
 unfold Qct Qck
 rw[List.length_map,List.length_map]
 exact⟨rfl,List.length_filter_le _ _⟩
theorem Q4t{s c:Rat}(hs:s≠0)(hc:c≠0):∀n,Qe0 s c n≠0
 |0=>hs
 |n+1=>by
  have:=Q4t hs hc n
  show Qe0 s c n/c≠0
  grind
theorem Qw6{s c:Rat}(hc:c≠0){b:Nat}(hb:rs c<=b):∀n,rs (Qe0 s c n)<=rs s+n*b
 |0=>by show rs s<=_;omega
 |n+1=>by
  have h1:=Qw6 hc hb (s:=s) n
  have h2:=Qapq (a:=Qe0 s c n) hc
  show rs (Qe0 s c n/c)<=_
  rw[Nat.succ_mul];omega
def Qmt(x:List Tm×Int):Prop:=Sm4 x.1/\x.1≠[]/\0<=x.2/\x.2<=4
theorem Qtv{l:List (List Tm×Int)}(hl:∀x∈l,Qmt x):∀i,i<=l.length->rs (Qb8 (l.take i))<=1+i*8/\Qb8 (l.take i)≠0
 |0,_=>by
  rw[List.take_zero]
  exact⟨Qth,by show(1:Rat)≠0;decide⟩
 | i+1,h=>by
  obtain⟨h1,h2⟩:=Qtv hl i (by omega)
  rw[Qkz (by omega)]
  obtain⟨g1,g2,g3,g4⟩:=hl _ (List.getElem_mem (show i<l.length by omega))
  unfold Qep
  split
  ·have hm:=Qas g2
   have hz:=g1.n.z _ hm
   have hb:=(g1.b _ hm).c
   have:=Qw6 (s:=Qb8 (l.take i)) hz (b:=2) (by omega) (l[i].2).toNat
   refine⟨?_,Q4t h2 hz _⟩
   have:(l[i].2).toNat*2<=8:=by omega
   omega
  ·exact⟨by omega,h2⟩
end Go.FW
