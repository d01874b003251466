/- Part 8 of the proof of IdealCancels: G6, G7, G8, FwVB, FwVD, FwWH. Own lemmas; no conditions. -/
import Derived.Test.YtonfajmchebkeaaGreatIdealCancelsPart7
set_option linter.unusedSimpArgs false
set_option linter.unnecessarySimpa false
set_option linter.unusedVariables false
namespace Go.Proofs.YtonfajmchebkeaaGreat
open Go Go.FW
set_option linter.unusedSimpArgs false
set_option linter.unusedVariables false
set_option maxRecDepth 100000
theorem i_Ex{j:Nat}{p q:List Tm}(hp:Cf j p)(hq:Sm4 q)(h0:q≠[])(hj:j<=16):Qe Tryz.prog 89 [PV.poly p,PV.poly q] (· =PV.exO (exO q p)):=by
 obtain⟨k,h1,h2,h3,h4,_⟩:=Q0h hp hq h0 hj
 have hl:=hq.l
 have:=Qxe (K:=4194304) (E:=6560) (L:=4294967296) hp.n hq.n (hq.b.mono (by omega) (by omega)) h0 (by omega) h2 h3 h4 (by omega) (by omega) (by omega) (by omega) (by omega)
 rwa[Q8c ⟨h3,h4⟩]at this
theorem r_Ex{j:Nat}{p q:List Tm}(hp:Cf j p)(hq:Sm4 q)(h0:q≠[])(hj:j<=16):Qe Tryz.prog 177 [PV.poly p,PV.poly q] (· =PV.exO (exO q p)):=by
 obtain⟨k,h1,h2,h3,h4,_⟩:=Q0h hp hq h0 hj
 have hl:=hq.l
 have bq:PB 4194304 6560 q:=hq.b.mono (by omega) (by omega)
 have hbQ:∀i,i<=k->PB (4194304+4194304) 6560 (exQ q p i):=fun i hi t ht=>by
  obtain⟨m,hm,rfl⟩:=Qvf ht
  exact Qz5 (h2 m (by omega)).1 bq hq.n h0 (h3 m (by omega))
 have:=Qxf (K:=4194304) (E:=6560) (L:=4294967296) hp.n hq.n bq h0 (by omega) h2 h3 h4 hbQ (by omega) (by omega) (by omega) (by omega) (by omega)
 rwa[Q8c ⟨h3,h4⟩]at this
theorem Q8n{q:List Tm}:∀ {cs:List (List Tm)} {xs:List PV},xs.length=cs.length->(∀j (h:j<cs.length),∃s,exO q cs[j]=some s/\xs[j]? =some (PV.poly s))->∃r,exL q cs=some r/\xs=r.map PV.poly
 | [],[],_,_=>⟨[],rfl,rfl⟩
 | [],_::_,h,_=>by simp at h
 |_::_,[],h,_=>by simp at h
 | c::cs,x::xs,h,hi=>by
  obtain⟨s,h1,h2⟩:=hi 0 (by simp)
  obtain⟨r,h3,h4⟩:=Q8n (cs:=cs) (xs:=xs) (by simpa using h) fun j hj=>by
   obtain⟨s,g1,g2⟩:=hi (j+1) (by simpa using hj)
   exact⟨s,by simpa using g1,by simpa using g2⟩
  simp only[List.getElem_cons_zero]at h1
  simp only[List.getElem?_cons_zero,Option.some.injEq]at h2
  exact⟨s::r,by simp[exL,h1,h3],by rw[h2,h4];rfl⟩
noncomputable def cancelO (fs : List (List Tm)) (ps : List Int) (cs : List (List Tm)) (i : Int) : Option (List Int × List (List Tm)) :=
 if 0 <= i /\ i.toNat < fs.length /\ i.toNat < ps.length /\ 1 <= ps.getD i.toNat 0 then (exL (fs.getD i.toNat []) cs).map fun l => (ps.set i.toNat (ps.getD i.toNat 0 - 1), l) else none
def PV.cancel(fs:List (List Tm))(n:Int):Option (List Int×List (List Tm))->PV
 |some r=> .tup [PV.cert fs r.1 n r.2,.bool true]
 |none=> .tup [PV.cert [] [] 0 [],.bool false]
theorem Qet{fs:List (List Tm)}{ps:List Int}{cs:List (List Tm)}{i:Int}(h:¬(0<=i/\i.toNat<fs.length/\i.toNat<ps.length/\1<=ps.getD i.toNat 0)):cancelO fs ps cs i=none:=by unfold cancelO;rw[if_neg h]
theorem Qjk{fs:List (List Tm)}{ps:List Int}{cs:List (List Tm)}{m:Nat}(h1:m<fs.length)(h2:m<ps.length)(h3:1<=ps[m]):cancelO fs ps cs (m:Nat)=(exL fs[m] cs).map fun l=>(ps.set m (ps[m]-1),l):=by
 have e1:ps.getD m 0=ps[m]:=by simp[h2]
 have e2:fs.getD m []=fs[m]:=by simp[h1]
 unfold cancelO
 rw[Int.toNat_natCast,e1,e2,if_pos ⟨by omega,h1,h2,h3⟩]
theorem Qe6:PV.le (.agg [.nilS,.nilS,.int .i64 0,.nilS]) (PV.cert [] [] 0 []):=⟨trivial,trivial,rfl,trivial,trivial⟩
theorem Qg1{fs:List (List Tm)}{ps:List Int}{n i:Int}{cs:List (List Tm)}{j:Nat}(hf:∀f∈fs,Sm4 f/\f≠[])(hc:∀c∈cs,Cf j c)(hj:j<=16)(hfl:fs.length<=2^20)(hpl:ps.length<=2^20)(hcl:cs.length<=2^20)(hpi:∀x∈ps,-9223372036854775808<=x/\x<=9223372036854775807):
  Qe Tryz.prog 43 [PV.cert fs ps n cs,.int .i64 i] (· =PV.cancel fs n (cancelO fs ps cs i)):=by
 refine Qf Qi Tryz.func43 rfl Qamt (by simp[c43]) fun C hP=> ?_;simp only[c43,Zo,Zg,Zm,Zc,Zf,Zl,Zh,Zs,Zi,Zb,Zk,Zn,Zu,Zq,Zr,Zz]
 simp+decide (disch:=first|exact D0|fail) only[go_sem,↓reduceIte]
 refine Q7 (fun h1=> ?_) (fun h1=> ?_)
 ·
  simp+decide (disch:=first|exact D0|fail) only[go_sem,↓reduceIte]
  refine Qdg ?_
  simp+decide (disch:=first|exact D0|fail) only[go_sem,↓reduceIte]
  exact Qbn (by rw[Qet (by omega)];rfl) rfl rfl Qe6 (Qt _)
 simp+decide (disch:=first|exact D0|fail) only[go_sem,↓reduceIte]
 refine Q7 (fun h2=> ?_) (fun h2=> ?_)
 ·
  simp+decide (disch:=first|exact D0|fail) only[go_sem,↓reduceIte]
  refine Qdg ?_
  simp+decide (disch:=first|exact D0|fail) only[go_sem,↓reduceIte]
  exact Qbn (by rw[Qet (by omega)];rfl) rfl rfl Qe6 (Qt _)
 simp+decide (disch:=first|exact D0|fail) only[go_sem,↓reduceIte]
 refine Q7 (fun h3=> ?_) (fun h3=> ?_)
 ·
  simp+decide (disch:=first|exact D0|fail) only[go_sem,↓reduceIte]
  refine Qdg ?_
  simp+decide (disch:=first|exact D0|fail) only[go_sem,↓reduceIte]
  exact Qbn (by rw[Qet (by omega)];rfl) rfl rfl Qe6 (Qt _)
 obtain⟨m,rfl⟩:∃m:Nat,i=m:=⟨i.toNat,by omega⟩
 have hm1:m<fs.length:=by omega
 have hm2:m<ps.length:=by omega
 have hca:= @Qjk fs ps cs m hm1 hm2
 have e1:ps.getD m 0=ps[m]:=by simp[hm2]
 have hcn:¬1<=ps[m]->cancelO fs ps cs (m:Nat)=none:=fun h=>Qet fun g=>h (by have:=g.2.2.2;rwa[Int.toNat_natCast,e1]at this)
 clear e1
 have hpm:=hpi _ (List.getElem_mem hm2)
 obtain⟨hf1,hf2⟩:=hf _ (List.getElem_mem hm1)
 generalize hx:ps[m]=x at *
 generalize hy:fs[m]=f at *
 simp+decide (disch:=first|exact D1 hx|fail) only[go_sem,↓reduceIte,hx]
 refine Qb (fun h4=> ?_) (fun h4=> ?_)
 ·simp+decide (disch:=first|exact D0|fail) only[go_sem,↓reduceIte]
  refine Qdg ?_
  simp+decide (disch:=first|exact D0|fail) only[go_sem,↓reduceIte]
  exact Qbn (by rw[hcn (by omega)];rfl) rfl rfl Qe6 (Qt _)
 have hca:=hca (by omega)
 simp+decide (disch:=first|exact D1 hx|fail) only[go_sem,↓reduceIte,hx]
 refine Qy (by repeat (first|exact Qv|exact Qo|exact Qp|exact Qq|exact Qr|apply Qn|apply Qu|apply Q2|apply Q8|apply Q9|apply Ql|apply Qx)) [(5,5),(7,9),(42,66)] [] (fun r J hp=>∃k xs,r=cs.length-k/\k<=cs.length/\J 42= .int .i64 (k:Nat)/\xs.length=cs.length/\hp 39=some ⟨1,51,xs,false⟩/\hp 2=some ⟨4,79,[PV.cert fs ps n cs],false⟩/\hp 4=some ⟨4,79,[.agg [.nilS,.nilS,.int .i64 0,.nilS]],false⟩/\∀j (h:j<cs.length),j<k->∃s,exO f cs[j]=some s/\xs[j]? =some (PV.poly s)) cs.length ?_ ?_
 ·refine⟨0,List.replicate cs.length .nilS,rfl,by omega,?_⟩
  simp+decide (disch:=first|exact D0|fail) only[go_sem,↓reduceIte]
  exact⟨rfl,by simp,fun j hj=>by omega⟩
 rintro _ J h ⟨k,xs,rfl,hk,h42,hl,h39,b2,b4,hq⟩
 simp+decide (disch:=first|exact D1 h42|fail) only[go_sem,↓reduceIte,h42]
 refine Qb (fun hg=> ?_) (fun hg=> ?_)
 ·have hk':k<cs.length:=by omega
  have hex:=i_Ex (hc _ (List.getElem_mem hk')) hf1 hf2 hj
  have hnn:=Qol (q:=f) hk'
  have hadd:∀s,exO f cs[k]=some s->∀j (h:j<cs.length),j<k+1->∃t,exO f cs[j]=some t/\(xs.set k (PV.poly s))[j]? =some (PV.poly t):=fun s hs j hj hjk=>by
   rw[List.getElem?_set]
   by_cases e:j=k
   ·subst e;exact⟨s,hs,by rw[if_pos rfl,if_pos (by omega)]⟩
   ·rw[if_neg (fun e2=>e e2.symm)];exact hq j hj (by omega)
  generalize hz:cs[k]=z at *
  simp+decide (disch:=first|exact D6 h42 h39 b2 b4 hz hy|fail) only[go_sem,↓reduceIte,h42,h39,b2,b4,hz,hy]
  refine Qa hP hex rfl rfl rfl ?_
  cases hr:exO f z with
  |none=>
   rw[hnn hr]at hca
   simp+decide (disch:=first|omega|rfl|(simp+decide only[go_sem,↓reduceIte,PV.exO,b4]<;>rfl)|fail) only[go_sem,↓reduceIte,PV.exO,b4]
   refine Qdg ?_
   simp+decide (disch:=first|exact D0|fail) only[go_sem,↓reduceIte]
   exact Qbn (by rw[hca];rfl) rfl rfl Qe6 (Qt _)
  |some s=>
   simp+decide (disch:=first|omega|rfl|(simp+decide only[go_sem,↓reduceIte,PV.exO,h42,h39]<;>rfl)|fail) only[go_sem,↓reduceIte,PV.exO,h42,h39]
   rw[Qo7 (n:=1) (xs:=xs) (v:=PV.poly s) (by omega) rfl rfl]
   simp+decide (disch:=first|exact D1 h42|fail) only[go_sem,↓reduceIte,h42]
   refine Qj (cs.length-(k+1)) (by omega) ⟨k+1,xs.set k (PV.poly s),rfl,by omega,?_⟩
   simp+decide (disch:=first|exact D2 b2 b4|fail) only[go_sem,↓reduceIte,b2,b4]
   exact⟨by simp[hl],hadd s hr⟩
 ·obtain rfl:k=cs.length:=by omega
  obtain⟨r,hr1,hr2⟩:=Q8n hl fun j hj=>hq j hj hj
  rw[hr1]at hca
  simp+decide (disch:=first|exact D5 h42 h39 b2 b4 hx|fail) only[go_sem,↓reduceIte,h42,h39,b2,b4,hx]
  have hcp:(Qei ps).take ps.length++(Qei (List.replicate ps.length 0)).drop (Qei ps).length=Qei ps:=by
   rw[List.take_of_length_le (by simp),List.drop_of_length_le (by simp),List.append_nil]
  rw[Qul (ty:=3) (xs:=Qei (List.replicate ps.length 0)) T0 (by simp),hcp]
  simp+decide (disch:=first|exact D3 b2 b4 hx|fail) only[go_sem,↓reduceIte,b2,b4,hx]
  rw[Qxo (Qcd.flat rfl) (Qcd.own (e:=1) (ty:=3) (xs:=Qei (ps.set m (x-1))) (fz:=false) T0 (by simp)) (Qcd.flat rfl) (Qcd.own (e:=1) (ty:=51) (xs:=xs) (fz:=false) (T1 h39) (by omega))]
  refine⟨⟨rfl,by simp⟩,⟨rfl,by simp⟩,⟨rfl,by simp⟩,⟨rfl,by simp⟩,?_⟩
  simp+decide (disch:=first|exact E1 b4|fail) only[go_sem,↓reduceIte,b4,Q5,List.contains_cons,List.contains_nil,List.flatMap_cons,List.flatMap_nil,List.append_nil]
  refine Qdg ?_
  simp+decide (disch:=first|exact D0|fail) only[go_sem,↓reduceIte]
  subst hr2
  exact Qbn (by rw[hca];rfl) rfl rfl (Qt _) (Qt _)
def PV.quots:Option (List (List Tm))->PV
 |some r=> .tup [PV.polys r,.bool true]
 |none=> .tup [PV.polys [],.bool false]
theorem Q8o:PV.le .nilS (PV.polys []):=trivial
theorem Qr8{f:List Tm}{cs:List (List Tm)}{j:Nat}(hf1:Sm4 f)(hf2:f≠[])(hc:∀c∈cs,Cf j c)(hj:j<=16)(hcl:cs.length<=2^20):Qe Tryz.prog 94 [PV.polys cs,PV.poly f] (· =PV.quots (exL f cs)):=by
 refine Qf Qi Tryz.func94 rfl Qamy (by simp[c94]) fun C hP=> ?_;simp only[c94,Zo,Zg,Zm,Zc,Zf,Zl,Zh,Zs,Zi,Zb,Zk,Zn,Zu,Zq,Zr,Zz]
 simp+decide (disch:=first|exact D0|fail) only[go_sem,↓reduceIte]
 refine Qfs 6 900 1 51 (by omega) T0 ?_
 refine Qy (by repeat (first|exact Qv|exact Qo|exact Qp|exact Qq|exact Qr|apply Qn|apply Qu|apply Q2|apply Q8|apply Q9|apply Ql|apply Qx)) [(4,30)] [29,30,900] (fun n J hp=>∃(k:Nat)(xs:List (List Tm)),n=cs.length-k/\k<=cs.length/\J 6= .ms 900 k/\J 7= .int .i64 (k:Nat)/\xs.length=k/\hp 900=some ⟨1,51,xs.map PV.poly,false⟩/\∀j (h:j<cs.length) (h2:j<xs.length),exO f cs[j]=some xs[j]) cs.length ?_ ?_
 ·refine⟨0,[],rfl,by omega,?_⟩
  simp+decide (disch:=first|exact D0|fail) only[go_sem,↓reduceIte]
  exact⟨rfl,fun j h h2=>absurd h2 (Nat.not_lt_zero j)⟩
 rintro _ J h ⟨k,xs,rfl,hk,h6,h7,hl,h9,hq⟩
 simp+decide (disch:=first|exact D1 h7|fail) only[go_sem,↓reduceIte,h7]
 refine Qb (fun hg=> ?_) (fun hg=> ?_)
 ·have hk':k<cs.length:=by omega
  have hex:=r_Ex (hc _ (List.getElem_mem hk')) hf1 hf2 hj
  have hnn:=Qol (q:=f) hk'
  have hadd:∀s,exO f cs[k]=some s->∀j (h:j<cs.length) (h2:j<(xs++[s]).length),exO f cs[j]=some (xs++[s])[j]:=fun s hs j hj hj2=>by
   rw[List.length_append,List.length_singleton]at hj2
   by_cases e:j=xs.length
   ·subst e
    rw[List.getElem_append_right (Nat.le_refl _)]
    simp only[Nat.sub_self,List.getElem_singleton]
    rw[<-hs];congr 2
   ·rw[List.getElem_append_left (by omega)];exact hq j hj (by omega)
  generalize hz:cs[k]=z at *
  simp+decide (disch:=first|exact D2 h7 hz|fail) only[go_sem,↓reduceIte,h7,hz]
  refine Qa hP hex rfl rfl rfl ?_
  cases hr:exO f z with
  |none=>
   rw[hnn hr]
   simp+decide (disch:=first|omega|rfl|(simp+decide only[go_sem,↓reduceIte,PV.exO]<;>rfl)|fail) only[go_sem,↓reduceIte,PV.exO]
   exact Qbn rfl rfl rfl Q8o (Qt _)
  |some s=>
   simp+decide (disch:=first|omega|rfl|(simp+decide only[go_sem,↓reduceIte,PV.exO,h6,h7,h9]<;>rfl)|fail) only[go_sem,↓reduceIte,PV.exO,h6,h7,h9]
   rw[Qai (f:=PV.poly) (y:=s) (xs:=xs) (ty':=51) (fz:=false) (T1 h9) Tr0 (by omega) hl.symm (by omega) (by omega)]
   simp+decide (disch:=first|exact D1 h7|fail) only[go_sem,↓reduceIte,h7]
   refine Qj (cs.length-(k+1)) (by omega) ⟨k+1,xs++[s],rfl,by omega,?_⟩
   simp+decide (disch:=first|exact D0|fail) only[go_sem,↓reduceIte]
   exact⟨by simp[hl],hadd s hr⟩
 ·obtain rfl:k=cs.length:=by omega
  rw[Q0j (r:=xs) hl.symm fun i a b=>hq i a b]
  simp+decide (disch:=first|exact E2 h6 h9|fail) only[go_sem,↓reduceIte,h6,h9,Q5,List.contains_cons,List.contains_nil,List.flatMap_cons,List.flatMap_nil,List.append_nil]
  exact Qbn (r:=PV.quots (some xs)) rfl rfl rfl (by simp[List.take_of_length_le,hl,Qt]) (Qt _)
theorem Qxg{fs:List (List Tm)}{ps:List Int}{n i:Int}{cs:List (List Tm)}{j:Nat}(hf:∀f∈fs,Sm4 f/\f≠[])(hc:∀c∈cs,Cf j c)(hj:j<=16)(hfl:fs.length<=2^20)(hpl:ps.length<=2^20)(hcl:cs.length<=2^20)(hpi:∀x∈ps,-9223372036854775808<=x/\x<=9223372036854775807):
  Qe Tryz.prog 49 [PV.cert fs ps n cs,.int .i64 i] (· =PV.cancel fs n (cancelO fs ps cs i)):=by
 refine Qf Qi Tryz.func49 rfl Qamz (by simp[c49]) fun C hP=> ?_;simp only[c49,Zo,Zg,Zm,Zc,Zf,Zl,Zh,Zs,Zi,Zb,Zk,Zn,Zu,Zq,Zr,Zz]
 simp+decide (disch:=first|exact D0|fail) only[go_sem,↓reduceIte]
 refine Q7 (fun h1=> ?_) (fun h1=> ?_)
 ·
  simp+decide (disch:=first|exact D0|fail) only[go_sem,↓reduceIte]
  refine Qdg ?_
  simp+decide (disch:=first|exact D0|fail) only[go_sem,↓reduceIte]
  exact Qbn (by rw[Qet (by omega)];rfl) rfl rfl Qe6 (Qt _)
 simp+decide (disch:=first|exact D0|fail) only[go_sem,↓reduceIte]
 refine Q7 (fun h2=> ?_) (fun h2=> ?_)
 ·
  simp+decide (disch:=first|exact D0|fail) only[go_sem,↓reduceIte]
  refine Qdg ?_
  simp+decide (disch:=first|exact D0|fail) only[go_sem,↓reduceIte]
  exact Qbn (by rw[Qet (by omega)];rfl) rfl rfl Qe6 (Qt _)
 simp+decide (disch:=first|exact D0|fail) only[go_sem,↓reduceIte]
 refine Q7 (fun h3=> ?_) (fun h3=> ?_)
 ·
  simp+decide (disch:=first|exact D0|fail) only[go_sem,↓reduceIte]
  refine Qdg ?_
  simp+decide (disch:=first|exact D0|fail) only[go_sem,↓reduceIte]
  exact Qbn (by rw[Qet (by omega)];rfl) rfl rfl Qe6 (Qt _)
 obtain⟨m,rfl⟩:∃m:Nat,i=m:=⟨i.toNat,by omega⟩
 have hm1:m<fs.length:=by omega
 have hm2:m<ps.length:=by omega
 have hca:= @Qjk fs ps cs m hm1 hm2
 have e1:ps.getD m 0=ps[m]:=by simp[hm2]
 have hcn:¬1<=ps[m]->cancelO fs ps cs (m:Nat)=none:=fun h=>Qet fun g=>h (by have:=g.2.2.2;rwa[Int.toNat_natCast,e1]at this)
 clear e1
 have hpm:=hpi _ (List.getElem_mem hm2)
 obtain⟨hf1,hf2⟩:=hf _ (List.getElem_mem hm1)
 have hqs:=Qr8 hf1 hf2 hc hj hcl
 generalize hx:ps[m]=x at *
 generalize hy:fs[m]=f at *
 simp+decide (disch:=first|exact D1 hx|fail) only[go_sem,↓reduceIte,hx]
 refine Q7 (fun h4=> ?_) (fun h4=> ?_)
 ·simp+decide (disch:=first|exact D0|fail) only[go_sem,↓reduceIte]
  refine Qdg ?_
  simp+decide (disch:=first|exact D0|fail) only[go_sem,↓reduceIte]
  exact Qbn (by rw[hcn (by omega)];rfl) rfl rfl Qe6 (Qt _)
 have hca:=hca (by omega)
 have hfl0:f.length≠0:=fun e=>hf2 (List.length_eq_zero_iff.1 e)
 simp+decide (disch:=first|exact D2 hx hy|fail) only[go_sem,↓reduceIte,hx,hy]
 refine Qb (fun h5=>absurd h5 (by omega)) (fun h5=> ?_)
 simp+decide (disch:=first|exact D2 hx hy|fail) only[go_sem,↓reduceIte,hx,hy]
 refine Qa hP hqs rfl rfl rfl ?_
 cases hr:exL f cs with
 |none=>
  rw[hr]at hca
  simp+decide (disch:=first|omega|rfl|(simp+decide only[go_sem,↓reduceIte,PV.quots]<;>rfl)|fail) only[go_sem,↓reduceIte,PV.quots]
  refine Qdg ?_
  simp+decide (disch:=first|exact D0|fail) only[go_sem,↓reduceIte]
  exact Qbn (by rw[hca];rfl) rfl rfl Qe6 (Qt _)
 | some r=>
  rw[hr]at hca
  simp+decide (disch:=first|omega|rfl|(simp+decide only[go_sem,↓reduceIte,PV.quots,hx]<;>rfl)|fail) only[go_sem,↓reduceIte,PV.quots,hx]
  rw[bs0e (by omega)]
  simp+decide (disch:=first|exact D1 hx|fail) only[go_sem,↓reduceIte,hx]
  rw[Qht (ys:=Qei ps) (xs:=[]) rfl T0 (by omega) (by simp) (by simp;omega) (by simp;omega),List.take_nil,List.nil_append,Nat.zero_add]
  have hil:(Qei ps).length=ps.length:=by simp
  simp+decide (disch:=first|exact D2 hx hil|fail) only[go_sem,↓reduceIte,hx,hil]
  have hpl2:(fs.map PV.poly).length=fs.length:=by simp
  repeat' first
   |refine Qd8 ?_ ?_
   |rw[bs0e (by omega)]
   |rw[Qht (ys:=fs.map PV.poly) (xs:=[]) rfl T0 (by omega) (by simp) (by rw[hpl2];omega) (by rw[hpl2];omega),List.take_nil,List.nil_append,Nat.zero_add,hpl2]
   |rw[Qxo (Qcd.own (e:=1) (ty:=51) (xs:=fs.map PV.poly) (fz:=false) T0 (by simp)) (Qcd.own (e:=1) (ty:=3) (xs:=Qei (ps.set m (x-1))) (fz:=false) T0 (by simp)) (Qcd.flat rfl) (Qcd.flat rfl)]
   |simp+decide (disch:=first|exact E0|fail) only[go_sem,↓reduceIte,Q5,List.contains_cons,List.contains_nil,List.flatMap_cons,List.flatMap_nil,List.append_nil]
  all_goals
   refine Qdg ?_
   simp+decide (disch:=first|exact D0|fail) only[go_sem,↓reduceIte]
   exact Qbn (by rw[hca];rfl) rfl rfl (Qt _) (Qt _)
end Go.Proofs.YtonfajmchebkeaaGreat
namespace Go.Proofs.YtonfajmchebkeaaGreat
open Go Go.FW
set_option linter.unusedSimpArgs false
set_option linter.unusedVariables false
set_option maxRecDepth 100000
theorem Qvh{fs:List (List Tm)}{ps:List Int}{n:Int}{cs:List (List Tm)}{i:Nat}(hi:i<fs.length)(hl:ps.length=fs.length)(hfl:fs.length<=2^20):
  Qe Tryz.prog 88 [PV.cert fs ps n cs,.int .i64 i] (· =PV.cert (fs.eraseIdx i) (ps.eraseIdx i) n cs):=by
 refine Qf Qi Tryz.func88 rfl Qamu (by simp[c88]) fun C hP=> ?_;simp only[c88,Zo,Zg,Zm,Zc,Zf,Zl,Zh,Zs,Zi,Zb,Zk,Zn,Zu,Zq,Zr,Zz]
 have e1:=List.eraseIdx_eq_take_drop_succ fs i
 have e2:=List.eraseIdx_eq_take_drop_succ ps i
 have l1:(fs.take i).length=i:=by rw[List.length_take];omega
 have l2:(fs.drop (i+1)).length=fs.length-(i+1):=List.length_drop ..
 have l3:(ps.take i).length=i:=by rw[List.length_take];omega
 have l4:(ps.drop (i+1)).length=fs.length-(i+1):=by rw[List.length_drop,hl]
 simp+decide (disch:=first|exact D0|fail) only[go_sem,↓reduceIte]
 repeat' first
  |refine Qd8 ?_ ?_
  |rw[Qc5 (f:=PV.poly) (xs:=fs.take i) (ys:=fs.drop (i+1)) T0 rfl (by omega) (by rw[l1,l2];omega) (by rw[l1,l2];omega),<-e1]
  |rw[Qc5 (f:=fun(x:Int)=>PV.int .i64 x) (xs:=ps.take i) (ys:=ps.drop (i+1)) T0 rfl (by omega) (by rw[l3,l4];omega) (by rw[l3,l4];omega),<-e2]
  |simp+decide (disch:=first|exact E0|fail) only[go_sem,↓reduceIte,Q5,List.contains_cons,List.contains_nil,List.flatMap_cons,List.flatMap_nil,List.append_nil]
 all_goals
  refine Qa6 ?_
  simp+decide (disch:=first|exact D0|fail) only[go_sem,↓reduceIte]
  refine Qc ?_ rfl
  rw[List.take_of_length_le (by rw[List.length_map,e1,List.length_append];exact Nat.le_refl _),List.take_of_length_le (by rw[List.length_map,e2,List.length_append];exact Nat.le_refl _)]
end Go.Proofs.YtonfajmchebkeaaGreat
namespace Go.Proofs.YtonfajmchebkeaaGreat
open Go Go.FW
set_option linter.unusedSimpArgs false
set_option linter.unusedVariables false
set_option maxRecDepth 100000
end Go.Proofs.YtonfajmchebkeaaGreat
namespace Go.FW
open Go
end Go.FW
namespace Go.FW
open Go
theorem Qanl{a b:Rat}(h:b≠0):rs (a/b)<=rs a+rs b:=by
 rw[Rat.div_def]
 have:=Qta a b⁻¹
 have:=Q7y b h
 omega
end Go.FW
namespace Go.FW
open Go
set_option maxRecDepth 100000
theorem Qajx{p q:List Tm}{E:Nat}(np:Nrm p)(nq:Nrm q)(bp:∀t∈p,MB E t.2)(bq:∀t∈q,MB E t.2)(hq:q≠[]):exO q (Qag p q)=some p:=by
 obtain⟨h1,h2⟩:=Q0c np nq bp bq hq p.length (Nat.le_refl _)
 rw[List.drop_length,Q4d]at h1
 rw[List.take_length]at h2
 rw[Qm6 (k:=p.length) ⟨fun k hk=>Qaoi np nq bp bq hq hk,fun h=>h.1 h1⟩,if_pos h1,h2]
theorem Q40{p:List Tm}(np:Nrm p){c:Rat}:Qag p [(c,[])]=Qar p c:=by
 refine Qhj (Qc2 np.s (Qi2 _)) (Qeq np.s c) fun φ=> ?_
 rw[Qio,Qh4 φ np.c,<-Qrz]
 refine Qgc fun t ht=> ?_
 show pev _ [(c,[])]=_
 rw[Qaq,Qcl,Qk0 (np.c t ht)];grind
theorem Q8p{p:List Tm}{E:Nat}(np:Nrm p)(bp:∀t∈p,MB E t.2){c:Rat}(hc:c≠0):exO [(c,[])] p=some (Qar p (1/c)):=by
 have n1:=Qeq np.s (1/c)
 have n2:Nrm [(c,([]:List Int))]:=Nrm.one hc (by simp)
 have e:Qag (Qar p (1/c)) [(c,[])]=p:=by
  rw[Q40 n1,Qpv np,show 1/c*c=1 by grind,Qt3 np]
 have hc1:1/c≠0:=by grind
 have h:=Qajx (E:=E) n1 n2 (fun t ht=>by
  rw[Qt2 np hc1]at ht
  obtain⟨s,hs,rfl⟩:=List.mem_map.1 ht
  exact bp s hs) (fun t ht=>by
  obtain rfl:t=(c,[]):=by simpa using ht
  exact⟨by simp,by simp,by simp⟩) (by simp)
 rwa[e]at h
def Qgr(x:List Tm×Int):Bool:=decide (0<Qgs x.1)&&decide (0<x.2)
def Qju(s c:Rat):Nat->Rat
 |0=>s
 |n+1=>Qju s c n/c
def Qgf(s:Rat)(x:List Tm×Int):Rat:=if Qgs x.1=0 then Qju s (hdT x.1).1 x.2.toNat else s
def Qdb(l:List (List Tm×Int)):Rat:=l.foldl Qgf 1
def Qe7(l:List (List Tm×Int)):List (List Tm):=(l.filter Qgr).map (·.1)
def Qeu(l:List (List Tm×Int)):List Int:=(l.filter Qgr).map (·.2)
theorem Qom{l:List (List Tm×Int)}{i:Nat}(h:i<l.length):Qdb (l.take (i+1))=Qgf (Qdb (l.take i)) l[i]:=by
 unfold Qdb
 rw[List.take_succ_eq_append_getElem h,List.foldl_append];rfl
theorem Q41{l:List (List Tm×Int)}{i:Nat}(h:i<l.length):Qe7 (l.take (i+1))=Qe7 (l.take i)++(if Qgr l[i]then [l[i].1]else []):=by
 unfold Qe7
 rw[List.take_succ_eq_append_getElem h,List.filter_append,List.map_append,List.filter_cons,List.filter_nil]
 split<;>rfl
theorem Q42{l:List (List Tm×Int)}{i:Nat}(h:i<l.length):Qeu (l.take (i+1))=Qeu (l.take i)++(if Qgr l[i]then [l[i].2]else []):=by
 unfold Qeu
 rw[List.take_succ_eq_append_getElem h,List.filter_append,List.map_append,List.filter_cons,List.filter_nil]
 split<;>rfl
theorem Qr9(l:List (List Tm×Int)):(Qeu l).length=(Qe7 l).length/\(Qe7 l).length<=l.length:=by
 unfold Qeu Qe7
 rw[List.length_map,List.length_map]
 exact⟨rfl,List.length_filter_le _ _⟩
theorem Q2y{s c:Rat}(hs:s≠0)(hc:c≠0):∀n,Qju s c n≠0
 |0=>hs
 |n+1=>by
  have:=Q2y hs hc n
  show Qju s c n/c≠0
  grind
theorem Qvi{s c:Rat}(hc:c≠0){b:Nat}(hb:rs c<=b):∀n,rs (Qju s c n)<=rs s+n*b
 |0=>by show rs s<=_;omega
 |n+1=>by
  have h1:=Qvi hc hb (s:=s) n
  have h2:=Qanl (a:=Qju s c n) hc
  show rs (Qju s c n/c)<=_
  rw[Nat.succ_mul];omega
def Qqk(x:List Tm×Int):Prop:=Sm4 x.1/\x.1≠[]/\0<=x.2/\x.2<=4
theorem Qsa{l:List (List Tm×Int)}(hl:∀x∈l,Qqk x):∀i,i<=l.length->rs (Qdb (l.take i))<=1+i*8/\Qdb (l.take i)≠0
 |0,_=>by
  rw[List.take_zero]
  exact⟨Qy6,by show(1:Rat)≠0;decide⟩
 | i+1,h=>by
  obtain⟨h1,h2⟩:=Qsa hl i (by omega)
  rw[Qom (by omega)]
  obtain⟨g1,g2,g3,g4⟩:=hl _ (List.getElem_mem (show i<l.length by omega))
  unfold Qgf
  split
  ·have hm:=Qat g2
   have hz:=g1.n.z _ hm
   have hb:=(g1.b _ hm).c
   have:=Qvi (s:=Qdb (l.take i)) hz (b:=2) (by omega) (l[i].2).toNat
   refine⟨?_,Q2y h2 hz _⟩
   have:(l[i].2).toNat*2<=8:=by omega
   omega
  ·exact⟨by omega,h2⟩
end Go.FW
