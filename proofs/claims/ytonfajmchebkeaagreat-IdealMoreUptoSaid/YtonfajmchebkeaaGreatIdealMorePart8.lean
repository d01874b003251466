/- Part 8 of the proof of IdealMore: G6, G7, G8, FwVB, FwVD, FwWH. Own lemmas; no conditions. -/
import Derived.Test.YtonfajmchebkeaaGreatIdealMorePart7
set_option linter.unusedSimpArgs false
set_option linter.unnecessarySimpa false
set_option linter.unusedVariables false
namespace Go.Proofs.YtonfajmchebkeaaGreat
open Go Go.FW
set_option linter.unusedSimpArgs false
set_option linter.unusedVariables false
set_option maxRecDepth 100000
theorem i_Ex{j:Nat}{p q:List Tm}(hp:Cf j p)(hq:Sm4 q)(h0:q≠[])(hj:j<=16):Qd Tryz.prog 89 [PV.poly p,PV.poly q] (· =PV.exO (exO q p)):=by
 obtain⟨k,h1,h2,h3,h4,_⟩:=Q8y hp hq h0 hj
 have hl:=hq.l
 have:=Qxz (K:=4194304) (E:=6560) (L:=4294967296) hp.n hq.n (hq.b.mono (by omega) (by omega)) h0 (by omega) h2 h3 h4 (by omega) (by omega) (by omega) (by omega) (by omega)
 rwa[Qana ⟨h3,h4⟩]at this
theorem Q9a{q:List Tm}:∀ {cs:List (List Tm)} {xs:List PV},xs.length=cs.length->(∀j (h:j<cs.length),∃s,exO q cs[j]=some s/\xs[j]? =some (PV.poly s))->∃r,exL q cs=some r/\xs=r.map PV.poly
 | [],[],_,_=>⟨[],rfl,rfl⟩
 | [],_::_,h,_=>by simp at h
 |_::_,[],h,_=>by simp at h
 | c::cs,x::xs,h,hi=>by
  obtain⟨s,h1,h2⟩:=hi 0 (by simp)
  obtain⟨r,h3,h4⟩:=Q9a (cs:=cs) (xs:=xs) (by simpa using h) fun j hj=>by
   obtain⟨s,g1,g2⟩:=hi (j+1) (by simpa using hj)
   exact⟨s,by simpa using g1,by simpa using g2⟩
  simp only[List.getElem_cons_zero]at h1
  simp only[List.getElem?_cons_zero,Option.some.injEq]at h2
  exact⟨s::r,by simp[exL,h1,h3],by rw[h2,h4];rfl⟩
noncomputable def cancelO (fs : List (List Tm)) (ps : List Int) (cs : List (List Tm)) (i : Int) : Option (List Int × List (List Tm)) :=
 if 0 <= i /\ i.toNat < fs.length /\ i.toNat < ps.length /\ 1 <= ps.getD i.toNat 0 then (exL (fs.getD i.toNat []) cs).map fun l => (ps.set i.toNat (ps.getD i.toNat 0 - 1), l) else none
def PV.cancel(fs:List (List Tm))(n:Int):Option (List Int×List (List Tm))->PV
 |some r=> .tup [PV.cert fs r.1 n r.2,.bool true]
 |none=> .tup [PV.cert [] [] 0 [],.bool false]
theorem Qjv{fs:List (List Tm)}{ps:List Int}{cs:List (List Tm)}{i:Int}(h:¬(0<=i/\i.toNat<fs.length/\i.toNat<ps.length/\1<=ps.getD i.toNat 0)):cancelO fs ps cs i=none:=by unfold cancelO;rw[if_neg h]
theorem Qmb{fs:List (List Tm)}{ps:List Int}{cs:List (List Tm)}{m:Nat}(h1:m<fs.length)(h2:m<ps.length)(h3:1<=ps[m]):cancelO fs ps cs (m:Nat)=(exL fs[m] cs).map fun l=>(ps.set m (ps[m]-1),l):=by
 have e1:ps.getD m 0=ps[m]:=by simp[h2]
 have e2:fs.getD m []=fs[m]:=by simp[h1]
 unfold cancelO
 rw[Int.toNat_natCast,e1,e2,if_pos ⟨by omega,h1,h2,h3⟩]
theorem Qlm:PV.le (.agg [.nilS,.nilS,.int .i64 0,.nilS]) (PV.cert [] [] 0 []):=⟨trivial,trivial,rfl,trivial,trivial⟩
theorem Qhc{fs:List (List Tm)}{ps:List Int}{n i:Int}{cs:List (List Tm)}{j:Nat}(hf:∀f∈fs,Sm4 f/\f≠[])(hc:∀c∈cs,Cf j c)(hj:j<=16)(hfl:fs.length<=2^20)(hpl:ps.length<=2^20)(hcl:cs.length<=2^20)(hpi:∀x∈ps,-9223372036854775808<=x/\x<=9223372036854775807):
  Qd Tryz.prog 43 [PV.cert fs ps n cs,.int .i64 i] (· =PV.cancel fs n (cancelO fs ps cs i)):=by
 refine Qf Qk Tryz.func43 rfl Qamv (by simp[c43]) fun C hP=> ?_;simp only[c43,Zo,Zg,Zm,Zc,Zf,Zl,Zh,Zs,Zi,Zb,Zk,Zn,Zu,Zq,Zr,Zz]
 simp+decide (disch:=first|exact D0|fail) only[go_sem,↓reduceIte]
 refine Qaa (fun h1=> ?_) (fun h1=> ?_)
 ·
  simp+decide (disch:=first|exact D0|fail) only[go_sem,↓reduceIte]
  refine Qh7 ?_
  simp+decide (disch:=first|exact D0|fail) only[go_sem,↓reduceIte]
  exact Qc5 (by rw[Qjv (by omega)];rfl) rfl rfl Qlm (Qz _)
 simp+decide (disch:=first|exact D0|fail) only[go_sem,↓reduceIte]
 refine Qaa (fun h2=> ?_) (fun h2=> ?_)
 ·
  simp+decide (disch:=first|exact D0|fail) only[go_sem,↓reduceIte]
  refine Qh7 ?_
  simp+decide (disch:=first|exact D0|fail) only[go_sem,↓reduceIte]
  exact Qc5 (by rw[Qjv (by omega)];rfl) rfl rfl Qlm (Qz _)
 simp+decide (disch:=first|exact D0|fail) only[go_sem,↓reduceIte]
 refine Qaa (fun h3=> ?_) (fun h3=> ?_)
 ·
  simp+decide (disch:=first|exact D0|fail) only[go_sem,↓reduceIte]
  refine Qh7 ?_
  simp+decide (disch:=first|exact D0|fail) only[go_sem,↓reduceIte]
  exact Qc5 (by rw[Qjv (by omega)];rfl) rfl rfl Qlm (Qz _)
 obtain⟨m,rfl⟩:∃m:Nat,i=m:=⟨i.toNat,by omega⟩
 have hm1:m<fs.length:=by omega
 have hm2:m<ps.length:=by omega
 have hca:= @Qmb fs ps cs m hm1 hm2
 have e1:ps.getD m 0=ps[m]:=by simp[hm2]
 have hcn:¬1<=ps[m]->cancelO fs ps cs (m:Nat)=none:=fun h=>Qjv fun g=>h (by have:=g.2.2.2;rwa[Int.toNat_natCast,e1]at this)
 clear e1
 have hpm:=hpi _ (List.getElem_mem hm2)
 obtain⟨hf1,hf2⟩:=hf _ (List.getElem_mem hm1)
 generalize hx:ps[m]=x at *
 generalize hy:fs[m]=f at *
 simp+decide (disch:=first|exact D1 hx|fail) only[go_sem,↓reduceIte,hx]
 refine Qb (fun h4=> ?_) (fun h4=> ?_)
 ·simp+decide (disch:=first|exact D0|fail) only[go_sem,↓reduceIte]
  refine Qh7 ?_
  simp+decide (disch:=first|exact D0|fail) only[go_sem,↓reduceIte]
  exact Qc5 (by rw[hcn (by omega)];rfl) rfl rfl Qlm (Qz _)
 have hca:=hca (by omega)
 simp+decide (disch:=first|exact D1 hx|fail) only[go_sem,↓reduceIte,hx]
 refine Q6 (by repeat (first|exact Qx|exact Qp|exact Qq|exact Qr|exact Qt|apply Qo|apply Qw|apply Q4|apply Qac|apply Qad|apply Qm|apply Q5)) [(5,5),(7,9),(42,66)] [] (fun r J hp=>∃k xs,r=cs.length-k/\k<=cs.length/\J 42= .int .i64 (k:Nat)/\xs.length=cs.length/\hp 39=some ⟨1,51,xs,false⟩/\hp 2=some ⟨4,79,[PV.cert fs ps n cs],false⟩/\hp 4=some ⟨4,79,[.agg [.nilS,.nilS,.int .i64 0,.nilS]],false⟩/\∀j (h:j<cs.length),j<k->∃s,exO f cs[j]=some s/\xs[j]? =some (PV.poly s)) cs.length ?_ ?_
 ·refine⟨0,List.replicate cs.length .nilS,rfl,by omega,?_⟩
  simp+decide (disch:=first|exact D0|fail) only[go_sem,↓reduceIte]
  exact⟨rfl,by simp,fun j hj=>by omega⟩
 rintro _ J h ⟨k,xs,rfl,hk,h42,hl,h39,b2,b4,hq⟩
 simp+decide (disch:=first|exact D1 h42|fail) only[go_sem,↓reduceIte,h42]
 refine Qb (fun hg=> ?_) (fun hg=> ?_)
 ·have hk':k<cs.length:=by omega
  have hex:=i_Ex (hc _ (List.getElem_mem hk')) hf1 hf2 hj
  have hnn:=Qsq (q:=f) hk'
  have hadd:∀s,exO f cs[k]=some s->∀j (h:j<cs.length),j<k+1->∃t,exO f cs[j]=some t/\(xs.set k (PV.poly s))[j]? =some (PV.poly t):=fun s hs j hj hjk=>by
   rw[List.getElem?_set]
   by_cases e:j=k
   ·subst e;exact⟨s,hs,by rw[if_pos rfl,if_pos (by omega)]⟩
   ·rw[if_neg (fun e2=>e e2.symm)];exact hq j hj (by omega)
  generalize hz:cs[k]=z at *
  simp+decide (disch:=first|exact D6 h42 h39 b2 b4 hz hy|fail) only[go_sem,↓reduceIte,h42,h39,b2,b4,hz,hy]
  refine Qa hP hex rfl rfl rfl ?_
  cases hr:exO f z with
  |none=>
   rw[hnn hr]at hca
   simp+decide (disch:=first|omega|rfl|(simp+decide only[go_sem,↓reduceIte,PV.exO,b4]<;>rfl)|fail) only[go_sem,↓reduceIte,PV.exO,b4]
   refine Qh7 ?_
   simp+decide (disch:=first|exact D0|fail) only[go_sem,↓reduceIte]
   exact Qc5 (by rw[hca];rfl) rfl rfl Qlm (Qz _)
  |some s=>
   simp+decide (disch:=first|omega|rfl|(simp+decide only[go_sem,↓reduceIte,PV.exO,h42,h39]<;>rfl)|fail) only[go_sem,↓reduceIte,PV.exO,h42,h39]
   rw[Qpl (n:=1) (xs:=xs) (v:=PV.poly s) (by omega) rfl rfl]
   simp+decide (disch:=first|exact D1 h42|fail) only[go_sem,↓reduceIte,h42]
   refine Qi (cs.length-(k+1)) (by omega) ⟨k+1,xs.set k (PV.poly s),rfl,by omega,?_⟩
   simp+decide (disch:=first|exact D2 b2 b4|fail) only[go_sem,↓reduceIte,b2,b4]
   exact⟨by simp[hl],hadd s hr⟩
 ·obtain rfl:k=cs.length:=by omega
  obtain⟨r,hr1,hr2⟩:=Q9a hl fun j hj=>hq j hj hj
  rw[hr1]at hca
  simp+decide (disch:=first|exact D5 h42 h39 b2 b4 hx|fail) only[go_sem,↓reduceIte,h42,h39,b2,b4,hx]
  have hcp:(Qeh ps).take ps.length++(Qeh (List.replicate ps.length 0)).drop (Qeh ps).length=Qeh ps:=by
   rw[List.take_of_length_le (by simp),List.drop_of_length_le (by simp),List.append_nil]
  rw[Qu2 (ty:=3) (xs:=Qeh (List.replicate ps.length 0)) T0 (by simp),hcp]
  simp+decide (disch:=first|exact D3 b2 b4 hx|fail) only[go_sem,↓reduceIte,b2,b4,hx]
  rw[Q5l (Qcy.flat rfl) (Qcy.own (e:=1) (ty:=3) (xs:=Qeh (ps.set m (x-1))) (fz:=false) T0 (by simp)) (Qcy.flat rfl) (Qcy.own (e:=1) (ty:=51) (xs:=xs) (fz:=false) (T1 h39) (by omega))]
  refine⟨⟨rfl,by simp⟩,⟨rfl,by simp⟩,⟨rfl,by simp⟩,⟨rfl,by simp⟩,?_⟩
  simp+decide (disch:=first|exact E1 b4|fail) only[go_sem,↓reduceIte,b4,Q7,List.contains_cons,List.contains_nil,List.flatMap_cons,List.flatMap_nil,List.append_nil]
  refine Qh7 ?_
  simp+decide (disch:=first|exact D0|fail) only[go_sem,↓reduceIte]
  subst hr2
  exact Qc5 (by rw[hca];rfl) rfl rfl (Qz _) (Qz _)
end Go.Proofs.YtonfajmchebkeaaGreat
namespace Go.Proofs.YtonfajmchebkeaaGreat
open Go Go.FW
set_option linter.unusedSimpArgs false
set_option linter.unusedVariables false
set_option maxRecDepth 100000
theorem Qvw{fs:List (List Tm)}{ps:List Int}{n:Int}{cs:List (List Tm)}{i:Nat}(hi:i<fs.length)(hl:ps.length=fs.length)(hfl:fs.length<=2^20):
  Qd Tryz.prog 88 [PV.cert fs ps n cs,.int .i64 i] (· =PV.cert (fs.eraseIdx i) (ps.eraseIdx i) n cs):=by
 refine Qf Qk Tryz.func88 rfl Qamw (by simp[c88]) fun C hP=> ?_;simp only[c88,Zo,Zg,Zm,Zc,Zf,Zl,Zh,Zs,Zi,Zb,Zk,Zn,Zu,Zq,Zr,Zz]
 have e1:=List.eraseIdx_eq_take_drop_succ fs i
 have e2:=List.eraseIdx_eq_take_drop_succ ps i
 have l1:(fs.take i).length=i:=by rw[List.length_take];omega
 have l2:(fs.drop (i+1)).length=fs.length-(i+1):=List.length_drop ..
 have l3:(ps.take i).length=i:=by rw[List.length_take];omega
 have l4:(ps.drop (i+1)).length=fs.length-(i+1):=by rw[List.length_drop,hl]
 simp+decide (disch:=first|exact D0|fail) only[go_sem,↓reduceIte]
 repeat' first
  |refine Qfx ?_ ?_
  |rw[Qde (f:=PV.poly) (xs:=fs.take i) (ys:=fs.drop (i+1)) T0 rfl (by omega) (by rw[l1,l2];omega) (by rw[l1,l2];omega),<-e1]
  |rw[Qde (f:=fun(x:Int)=>PV.int .i64 x) (xs:=ps.take i) (ys:=ps.drop (i+1)) T0 rfl (by omega) (by rw[l3,l4];omega) (by rw[l3,l4];omega),<-e2]
  |simp+decide (disch:=first|exact E0|fail) only[go_sem,↓reduceIte,Q7,List.contains_cons,List.contains_nil,List.flatMap_cons,List.flatMap_nil,List.append_nil]
 all_goals
  refine Qbc ?_
  simp+decide (disch:=first|exact D0|fail) only[go_sem,↓reduceIte]
  refine Qc ?_ rfl
  rw[List.take_of_length_le (by rw[List.length_map,e1,List.length_append];exact Nat.le_refl _),List.take_of_length_le (by rw[List.length_map,e2,List.length_append];exact Nat.le_refl _)]
end Go.Proofs.YtonfajmchebkeaaGreat
namespace Go.Proofs.YtonfajmchebkeaaGreat
open Go Go.FW
set_option linter.unusedSimpArgs false
set_option linter.unusedVariables false
set_option maxRecDepth 100000
end Go.Proofs.YtonfajmchebkeaaGreat
namespace Go.FW
open Go
end Go.FW
namespace Go.FW
open Go
theorem Qanj{a b:Rat}(h:b≠0):rs (a/b)<=rs a+rs b:=by
 rw[Rat.div_def]
 have:=Qtq a b⁻¹
 have:=Q8n b h
 omega
end Go.FW
namespace Go.FW
open Go
set_option maxRecDepth 100000
theorem Qajt{p q:List Tm}{E:Nat}(np:Nrm p)(nq:Nrm q)(bp:∀t∈p,MB E t.2)(bq:∀t∈q,MB E t.2)(hq:q≠[]):exO q (Qu p q)=some p:=by
 obtain⟨h1,h2⟩:=Q0p np nq bp bq hq p.length (Nat.le_refl _)
 rw[List.drop_length,Qos]at h1
 rw[List.take_length]at h2
 rw[Qnf (k:=p.length) ⟨fun k hk=>Qaoi np nq bp bq hq hk,fun h=>h.1 h1⟩,if_pos h1,h2]
theorem Q5m{p:List Tm}(np:Nrm p){c:Rat}:Qu p [(c,[])]=Qal p c:=by
 refine Qex (Qa1 np.s (Qjb _)) (Qe2 np.s c) fun φ=> ?_
 rw[Qb4,Qia φ np.c,<-Qsg]
 refine Qdg fun t ht=> ?_
 show pev _ [(c,[])]=_
 rw[Qat,Qce,Qn6 (np.c t ht)];grind
theorem Q9b{p:List Tm}{E:Nat}(np:Nrm p)(bp:∀t∈p,MB E t.2){c:Rat}(hc:c≠0):exO [(c,[])] p=some (Qal p (1/c)):=by
 have n1:=Qe2 np.s (1/c)
 have n2:Nrm [(c,([]:List Int))]:=Nrm.one hc (by simp)
 have e:Qu (Qal p (1/c)) [(c,[])]=p:=by
  rw[Q5m n1,Qlj np,show 1/c*c=1 by grind,Qo0 np]
 have hc1:1/c≠0:=by grind
 have h:=Qajt (E:=E) n1 n2 (fun t ht=>by
  rw[Qoz np hc1]at ht
  obtain⟨s,hs,rfl⟩:=List.mem_map.1 ht
  exact bp s hs) (fun t ht=>by
  obtain rfl:t=(c,[]):=by simpa using ht
  exact⟨by simp,by simp,by simp⟩) (by simp)
 rwa[e]at h
def Qfe(x:List Tm×Int):Bool:=decide (0<Qcl x.1)&&decide (0<x.2)
def Qg5(s c:Rat):Nat->Rat
 |0=>s
 |n+1=>Qg5 s c n/c
def Qel(s:Rat)(x:List Tm×Int):Rat:=if Qcl x.1=0 then Qg5 s (hdT x.1).1 x.2.toNat else s
def Qc1(l:List (List Tm×Int)):Rat:=l.foldl Qel 1
def Qdb(l:List (List Tm×Int)):List (List Tm):=(l.filter Qfe).map (·.1)
def Qdc(l:List (List Tm×Int)):List Int:=(l.filter Qfe).map (·.2)
theorem Qkj{l:List (List Tm×Int)}{i:Nat}(h:i<l.length):Qc1 (l.take (i+1))=Qel (Qc1 (l.take i)) l[i]:=by
 unfold Qc1
 rw[List.take_succ_eq_append_getElem h,List.foldl_append];rfl
theorem Quk{l:List (List Tm×Int)}{i:Nat}(h:i<l.length):Qdb (l.take (i+1))=Qdb (l.take i)++(if Qfe l[i]then [l[i].1]else []):=by
 unfold Qdb
 rw[List.take_succ_eq_append_getElem h,List.filter_append,List.map_append,List.filter_cons,List.filter_nil]
 split<;>rfl
theorem Qul{l:List (List Tm×Int)}{i:Nat}(h:i<l.length):Qdc (l.take (i+1))=Qdc (l.take i)++(if Qfe l[i]then [l[i].2]else []):=by
 unfold Qdc
 rw[List.take_succ_eq_append_getElem h,List.filter_append,List.map_append,List.filter_cons,List.filter_nil]
 split<;>rfl
theorem Qo3(l:List (List Tm×Int)):(Qdc l).length=(Qdb l).length/\(Qdb l).length<=l.length:=by
 unfold Qdc Qdb
 rw[List.length_map,List.length_map]
 exact⟨rfl,List.length_filter_le _ _⟩
theorem Q3c{s c:Rat}(hs:s≠0)(hc:c≠0):∀n,Qg5 s c n≠0
 |0=>hs
 |n+1=>by
  have:=Q3c hs hc n
  show Qg5 s c n/c≠0
  grind
theorem Qvx{s c:Rat}(hc:c≠0){b:Nat}(hb:rs c<=b):∀n,rs (Qg5 s c n)<=rs s+n*b
 |0=>by show rs s<=_;omega
 |n+1=>by
  have h1:=Qvx hc hb (s:=s) n
  have h2:=Qanj (a:=Qg5 s c n) hc
  show rs (Qg5 s c n/c)<=_
  rw[Nat.succ_mul];omega
def Qo4(x:List Tm×Int):Prop:=Sm4 x.1/\x.1≠[]/\0<=x.2/\x.2<=4
theorem Qsr{l:List (List Tm×Int)}(hl:∀x∈l,Qo4 x):∀i,i<=l.length->rs (Qc1 (l.take i))<=1+i*8/\Qc1 (l.take i)≠0
 |0,_=>by
  rw[List.take_zero]
  exact⟨Qzn,by show(1:Rat)≠0;decide⟩
 | i+1,h=>by
  obtain⟨h1,h2⟩:=Qsr hl i (by omega)
  rw[Qkj (by omega)]
  obtain⟨g1,g2,g3,g4⟩:=hl _ (List.getElem_mem (show i<l.length by omega))
  unfold Qel
  split
  ·have hm:=Qau g2
   have hz:=g1.n.z _ hm
   have hb:=(g1.b _ hm).c
   have:=Qvx (s:=Qc1 (l.take i)) hz (b:=2) (by omega) (l[i].2).toNat
   refine⟨?_,Q3c h2 hz _⟩
   have:(l[i].2).toNat*2<=8:=by omega
   omega
  ·exact⟨by omega,h2⟩
end Go.FW
