/- Part 14 of the proof of IdealMore: G16, FwWL, FwWM, FwWN. Own lemmas; no conditions. -/
import Derived.Test.YtonfajmchebkeaaGreatIdealMorePart13
set_option linter.unusedSimpArgs false
set_option linter.unnecessarySimpa false
set_option linter.unusedVariables false
namespace Go.Proofs.YtonfajmchebkeaaGreat
open Go Go.FW
set_option linter.unusedSimpArgs false
set_option linter.unusedVariables false
set_option maxRecDepth 100000
theorem Q4i{x:Int}(h1: -1<=x)(h2:x<=1):rs (x:Rat)<=1:=by
 have:x= -1∨x=0∨x=1:=by omega
 rcases this with rfl|rfl|rfl<;>decide+kernel
end Go.Proofs.YtonfajmchebkeaaGreat
namespace Go.FW
open Go
set_option maxRecDepth 100000
theorem Qjw:∀ {l:List (List Tm×Nat)} {p:List Tm},(∀x∈l,Nrm x.1)->Nrm p->Nrm (Qdj l p)
 | [],_,_,hp=>hp
 |x::l,p,hl,hp=>Qjw (l:=l) (fun y hy=>hl y (List.mem_cons_of_mem _ hy)) (Qg2 hp (hl x (List.mem_cons_self ..)) x.2)
theorem Qxf{a b c:List Tm}(ha:Nrm a)(hb:Nrm b)(hc:Nrm c):Qu (Qu a b) c=Qu (Qu a c) b:=by
 rw[Qt2 ha hb hc,Q77 hb hc,<-Qt2 ha hc hb]
theorem Qkl{q p r:List Tm}(hq:Nrm q)(hp:Nrm p)(hr:Nrm r):∀n,Qdk q (Qu p r) n=Qu (Qdk q p n) r
 |0=>rfl
 |n+1=>by
  show Qu (Qdk q (Qu p r) n) q=Qu (Qu (Qdk q p n) q) r
  rw[Qkl hq hp hr n,Qxf (Qg2 hp hq n) hr hq]
theorem Qxg:∀ {l:List (List Tm×Nat)} {p r:List Tm},(∀x∈l,Nrm x.1)->Nrm p->Nrm r->Qdj l (Qu p r)=Qu (Qdj l p) r
 | [],_,_,_,_,_=>rfl
 |x::l,p,r,hl,hp,hr=>by
  have hx:=hl x (List.mem_cons_self ..)
  show Qdj l (Qdk x.1 (Qu p r) x.2)=Qu (Qdj l (Qdk x.1 p x.2)) r
  rw[Qkl hx hp hr,Qxg (fun y hy=>hl y (List.mem_cons_of_mem _ hy)) (Qg2 hp hx _) hr]
theorem Qgp(a b:List (List Tm×Nat))(p:List Tm):Qdj (a++b) p=Qdj b (Qdj a p):=List.foldl_append
theorem Q9h{a b:List (List Tm×Nat)}{f p:List Tm}{n:Nat}(ha:∀x∈a,Nrm x.1)(hb:∀x∈b,Nrm x.1)(hf:Nrm f)(hp:Nrm p):Qdj (a++(f,n+1)::b) p=Qu (Qdj (a++(f,n)::b) p) f:=by
 rw[Qgp,Qgp]
 have h1:=Qjw ha hp
 show Qdj b (Qu (Qdk f (Qdj a p) n) f)=Qu (Qdj b (Qdk f (Qdj a p) n)) f
 exact Qxg hb (Qg2 h1 hf n) hf
theorem Q5t{a b:List (List Tm×Nat)}{f p:List Tm}:Qdj (a++(f,0)::b) p=Qdj (a++b) p:=by
 rw[Qgp,Qgp];rfl
theorem Qqc{f:List Tm}(hf:Nrm f){a b:List (List Tm×List Tm)}(hl:a.length=b.length)(ha:∀x∈a,Nrm x.1/\Nrm x.2)(hb:∀x∈b,Nrm x.1/\Nrm x.2)
  (h:∀i (h1:i<a.length) (h2:i<b.length),a[i].1=Qu b[i].1 f/\a[i].2=b[i].2):∀i,i<=a.length->Qcf a i=Qu (Qcf b i) f
 |0,_=>by
  show []=Qu [] f
  rw[Qos]
 |i+1,hi=>by
  obtain⟨e1,e2⟩:=h i (by omega) (by omega)
  obtain⟨n1,n2⟩:=hb _ (List.getElem_mem (show i<b.length by omega))
  rw[Qg1 (by omega),Qg1 (by omega),Qqc hf hl ha hb h i (by omega),e1,e2,Qxf n1 hf n2,Q78 (Ql9 hb i (by omega)) (Qa1 n1.s n2.s) hf]
theorem Q13{a b f:List Tm}(ha:Nrm a)(hb:Nrm b)(hf:Nrm f)(h0:f≠[])(h:Qu a f=Qu b f):a=b:=by
 have hn:=Qsi ha hb
 have h1:Qu (Qlb a b) f=[]:=by
  refine Qex (Qa1 hn.s hf.s) Nrm.nil fun φ=> ?_
  have h2:=congrArg (pev φ) h
  rw[Qb4,Qb4]at h2
  rw[Qb4,Qoo _ ha.c hb,h2,Qce];grind
 have h2:Qlb a b=[]:=Decidable.byContradiction fun hne=>(Qvs hn hf hne h0).1 h1
 refine Qex ha hb fun φ=> ?_
 have:=congrArg (pev φ) h2
 rw[Qoo φ ha.c hb,Qce]at this
 grind
def Qdd(fs:List (List Tm))(ps:List Int)(cs hs:List (List Tm))(g:List Tm)(n:Nat):Prop:=Qdk g (Qdj (Qb6 fs ps) (Qbj 1)) n=Qcf (cs.zip hs) (cs.zip hs).length
theorem Q0y{fs:List (List Tm)}{ps:List Int}{i:Nat}{v:Int}(hl:fs.length=ps.length)(h:i<fs.length):Qb6 fs (ps.set i v)=(Qb6 fs ps).take i++(fs[i],v.toNat)::(Qb6 fs ps).drop (i+1):=by
 have e:Qb6 fs (ps.set i v)=(Qb6 fs ps).set i (fs[i],v.toNat):=by
  refine List.ext_getElem (by simp[Qb6]) fun k h1 h2=> ?_
  have hk:k<fs.length:=by simp[Qb6]at h1;omega
  rw[Qo1 (by simpa using hl) hk]
  by_cases e:i=k
  ·subst e;simp
  ·rw[List.getElem_set_ne e,List.getElem_set_ne e,Qo1 hl hk]
 rw[e,List.set_eq_take_append_cons_drop,if_pos (by rw[Qiy hl];exact h)]
theorem Q3i{fs:List (List Tm)}{ps:List Int}{i:Nat}(hl:fs.length=ps.length)(h:i<fs.length):Qb6 fs ps=(Qb6 fs ps).take i++(fs[i],(ps[i]'(by omega)).toNat)::(Qb6 fs ps).drop (i+1):=by
 rw[<-Q0y hl h,List.set_getElem_self]
theorem Q5u{fs:List (List Tm)}{ps:List Int}{i:Nat}(hl:fs.length=ps.length)(h:i<fs.length):Qb6 (fs.eraseIdx i) (ps.eraseIdx i)=(Qb6 fs ps).take i++(Qb6 fs ps).drop (i+1):=by
 unfold Qb6
 rw[List.eraseIdx_eq_take_drop_succ,List.eraseIdx_eq_take_drop_succ,List.map_append,List.zip_append (by simp;omega),List.map_take,List.map_drop]
 simp only[List.zip_eq_zipWith,List.take_zipWith,List.drop_zipWith]
theorem Qst{fs:List (List Tm)}{ps:List Int}(h:∀f∈fs,Nrm f):∀x∈Qb6 fs ps,Nrm x.1:=fun x hx=>by
 obtain⟨a,b⟩:=x
 exact h _ (List.of_mem_zip hx).1
theorem Q3j{p q:List Tm}(np:Nrm p)(nq:Nrm q)(φ:List Int->Rat):∀k,pev φ (exP q p k)+pev φ (Qu (exQ q p k) q)=pev φ p
 |0=>by
  show pev φ p+pev φ (Qu [] q)=_
  rw[Qos,Qce];grind
 |k+1=>by
  have ih:=Q3j np nq φ k
  have h1:=Qq0 (Qna np nq k) nq φ
  show pev φ (exN q (exP q p k))+pev φ (Qu (exQ q p k++[exT q (exP q p k)]) q)=_
  rw[Qb4]at ih⊢
  rw[h1,Qt0,Qat,Qce]
  grind
theorem Q0z{p q s:List Tm}(np:Nrm p)(nq:Nrm q)(ns:Nrm s)(h:exO q p=some s):Qu s q=p:=by
 unfold exO at h
 split at h
 ·rename_i hx
  split at h
  ·rename_i h0
   cases h
   refine Qex (Qa1 ns.s nq.s) np fun φ=> ?_
   have:=Q3j np nq φ hx.choose
   rw[h0,Qce]at this
   grind
  ·cases h
 ·cases h
theorem Qdd.cut{fs:List (List Tm)}{ps:List Int}{cs hs r:List (List Tm)}{g:List Tm}{n i:Nat}(h:Qdd fs ps cs hs g n)(hl:fs.length=ps.length)(hfn:∀f∈fs,Nrm f)(hcn:∀c∈cs,Nrm c)(hrn:∀c∈r,Nrm c)(hh:∀c∈hs,Nrm c)(hg:Nrm g)(hi:i<fs.length)(hi2:i<ps.length)(g2:fs[i]≠[])(h1:1<=ps[i])(he:exL fs[i] cs=some r):Qdd fs (ps.set i (ps[i]-1)) r hs g n:=by
 have g1:=hfn _ (List.getElem_mem hi)
 have hrl:=Qkt he
 have hge:=Qvv he
 have hF:=Qst (ps:=ps) hfn
 have hA:∀x∈(Qb6 fs ps).take i,Nrm x.1:=fun x hx=>hF x (List.mem_of_mem_take hx)
 have hB:∀x∈(Qb6 fs ps).drop (i+1),Nrm x.1:=fun x hx=>hF x (List.mem_of_mem_drop hx)
 unfold Qdd at h⊢
 rw[Q3i hl hi,show(ps[i]).toNat=(ps[i]-1).toNat+1 by omega,Q9h hA hB g1 (Qib 1),Qkl hg (Qjw (fun x hx=>by
  rcases List.mem_append.1 hx with hx|hx
  ·exact hA x hx
  ·rcases List.mem_cons.1 hx with rfl|hx
   ·exact g1
   ·exact hB x hx) (Qib 1)) g1,<-Q0y hl hi]at h
 have hz1:=Qnc (P:=Nrm) (Q:=Nrm) hcn hh
 have hz2:=Qnc (P:=Nrm) (Q:=Nrm) hrn hh
 have hzl:(cs.zip hs).length=(r.zip hs).length:=by rw[List.length_zip,List.length_zip,hrl]
 rw[Qqc (b:=r.zip hs) g1 hzl hz1 hz2 (fun k k1 k2=>by
  rw[List.getElem_zip,List.getElem_zip]
  rw[List.length_zip]at k1 k2
  exact⟨(Q0z (hcn _ (List.getElem_mem _)) g1 (hrn _ (List.getElem_mem _)) (hge k (by omega) (by omega))).symm,rfl⟩) _ (Nat.le_refl _),hzl]at h
 exact Q13 (Qg2 (Qjw (Qst hfn) (Qib 1)) hg n) (Ql9 hz2 _ (Nat.le_refl _)) g1 g2 h
theorem Qdd.erase{fs:List (List Tm)}{ps:List Int}{cs hs:List (List Tm)}{g:List Tm}{n i:Nat}(h:Qdd fs ps cs hs g n)(hl:fs.length=ps.length)(hi:i<fs.length)(hi2:i<ps.length)(h1:ps[i]=0):Qdd (fs.eraseIdx i) (ps.eraseIdx i) cs hs g n:=by
 unfold Qdd at h⊢
 rw[Q3i hl hi,h1,show(0:Int).toNat=0 from rfl,Q5t,<-Q5u hl hi]at h
 exact h
end Go.FW
namespace Go.FW
open Go
set_option maxRecDepth 100000
theorem Q00{α:Type}(A:List α){l:List α}{t:Nat}(h:t<l.length):(A++l.drop t)[A.length]? =some l[t]:=by
 rw[List.getElem?_append_right (Nat.le_refl _),Nat.sub_self,List.getElem?_drop,Nat.add_zero,List.getElem?_eq_getElem h]
theorem Qun{α:Type}(A:List α){l:List α}{t:Nat}(h:t<l.length):(A++l.drop t).eraseIdx A.length=A++l.drop (t+1):=by
 rw[List.eraseIdx_append_of_length_le (Nat.le_refl _),Nat.sub_self,List.drop_eq_getElem_cons h,List.eraseIdx_cons_zero]
theorem Qxh{α:Type}(A:List α){l:List α}{t:Nat}(h:t<l.length):(A++[l[t]])++l.drop (t+1)=A++l.drop t:=by
 rw[List.append_assoc,List.drop_eq_getElem_cons h];rfl
theorem Qdd.trim{fs:List (List Tm)}{ps:List Int}{cs hs:List (List Tm)}{g:List Tm}{n:Nat}(hl:ps.length=fs.length)(hf:∀x∈fs.zip ps,Qo4 x)(hc:∀c∈cs,Sm4 c)(h16:Qd9 ps<=16)(hfl:fs.length<=8)(hcl:cs.length<=8)(hh:∀c∈hs,Nrm c)(hg:Nrm g)(h:Qdd fs ps cs hs g n):
  ∀t,t<=fs.length->Qdd (Qdb ((fs.zip ps).take t)++fs.drop t) (Qdc ((fs.zip ps).take t)++ps.drop t) (cs.map fun c=>Qal c (Qc1 ((fs.zip ps).take t))) hs g n
 | 0,_=>by
  have e0:(cs.map fun c=>Qal c (Qc1 []))=cs:=by
   conv=>rhs;rw[<-List.map_id cs]
   refine List.map_congr_left fun c h=> ?_
   show Qal c 1=c
   exact Qo0 (hc c h).n
  rw[List.take_zero,e0]
  exact h
 | t +1,ht=>by
  have ih:=Qdd.trim hl hf hc h16 hfl hcl hh hg h t (by omega)
  have hLl:(fs.zip ps).length=fs.length:=by rw[List.length_zip,hl,Nat.min_self]
  have hLp:(fs.zip ps).map (·.2)=ps:=List.map_snd_zip (by omega)
  have ht':t<fs.length:=by omega
  have htp:t<ps.length:=by omega
  have eL:(fs.zip ps)[t]'(by omega)=(fs[t],ps[t]):=List.getElem_zip
  have hck:=Qss (fs.zip ps)
  rw[hLp]at hck
  have hcf:=fun c (h:c∈cs) i hi=>Qv0 hf (by omega) (hc c h) i hi
  have hfm:∀f∈fs,Sm4 f/\f≠[]:=fun f hf'=>by
   obtain⟨i,hi,rfl⟩:=List.getElem_of_mem hf'
   have:=hf (fs[i],ps[i]) (by rw[<-List.getElem_zip (h:=by omega)];exact List.getElem_mem _)
   exact⟨this.1,this.2.1⟩
  have e1:=Quk (l:=fs.zip ps) (i:=t) (by omega)
  have e2:=Qul (l:=fs.zip ps) (i:=t) (by omega)
  have e3:=Qkj (l:=fs.zip ps) (i:=t) (by omega)
  have hsp:=Q0w (l:=fs.zip ps) (i:=t) (by omega)
  have hcle:=Q9d (fs.zip ps) (t+1)
  have hFI:=hf (fs[t],ps[t]) (by rw[<-eL];exact List.getElem_mem _)
  obtain⟨k1,_⟩:=Qo3 ((fs.zip ps).take t)
  have hF:=Q00 (Qdb ((fs.zip ps).take t)) ht'
  have hB:=Q00 (Qdc ((fs.zip ps).take t)) htp
  have pF:=Qxh (Qdb ((fs.zip ps).take t)) ht'
  have pB:=Qxh (Qdc ((fs.zip ps).take t)) htp
  have rF:=Qun (Qdb ((fs.zip ps).take t)) ht'
  have rB:=Qun (Qdc ((fs.zip ps).take t)) htp
  have hct:=fun c h=>hcf c h t (by omega)
  have hAm:∀f∈Qdb ((fs.zip ps).take t),f∈fs:=fun f hf'=>by
   obtain⟨x,hx,rfl⟩:=List.mem_map.1 hf'
   exact(List.of_mem_zip (show(x.1,x.2)∈fs.zip ps from List.mem_of_mem_take (List.mem_filter.1 hx).1)).1
  have lA:(Qdb ((fs.zip ps).take t)++fs.drop t).length=(Qdc ((fs.zip ps).take t)++ps.drop t).length:=by rw[List.length_append,List.length_append,List.length_drop,List.length_drop,k1,hl]
  rw[eL]at e1 e2 e3 hsp
  obtain⟨g1,g2,g3,g4⟩:=hFI
  simp only[k1]at hB rB
  simp only[Qqa]at g1 g2 g3 g4 e1 e2 e3 hsp
  generalize Qdb ((fs.zip ps).take t)=A at *
  generalize Qdc ((fs.zip ps).take t)=B at *
  generalize Qc1 ((fs.zip ps).take t)=s at *
  generalize cnt ((fs.zip ps).take t)=j at *
  rw[e1,e2,e3]
  generalize hx:fs[t]=x at *
  generalize hy:ps[t]=y at *
  have hFm:∀f∈A++fs.drop t,Nrm f:=fun f hf'=>by
   rcases List.mem_append.1 hf' with h|h
   ·exact(hfm f (hAm f h)).1.n
   ·exact(hfm f (List.mem_of_mem_drop h)).1.n
  by_cases hk:Qfe (x,y)=true
  ·have hd:¬Qcl x=0:=by unfold Qfe at hk;simp at hk;omega
   rw[hk,if_pos rfl,if_pos rfl,pF,pB,Qel,if_neg hd]
   exact ih
  ·rw [if_neg hk,if_neg hk,List.append_nil,List.append_nil,<-rF,<-rB]
   obtain⟨N,rfl⟩:∃N:Nat,y=N:=⟨y.toNat,by omega⟩
   generalize hFS:A++fs.drop t=FS at *
   generalize hPS:B++ps.drop t=PS at *
   generalize A.length=m at *
   obtain⟨mF,hF⟩:=List.getElem?_eq_some_iff.1 hF
   obtain⟨mP,hB⟩:=List.getElem?_eq_some_iff.1 hB
   have hor:Qcl x=0∨N=0:=by
    by_cases hd:Qcl x=0
    ·exact .inl hd
    ·refine .inr ?_
     have hge:0<Qcl x:=by
      have:=(Qhl x).1 _ (Qau g2)
      have:=(Qkr (g1.b _ (Qau g2)).m).1
      omega
     unfold Qfe at hk
     simp[hge]at hk
     omega
   have key:∀k,k<=N->Qdd FS (PS.set m ((N:Int)-k)) (cs.map fun c=>Qal c (Qg5 s (hdT x).1 k)) hs g n:=fun k=>by
    induction k with
    |zero=>
     intro _
     rw[show(N:Int)-((0:Nat):Int)=PS[m]by rw[hB];omega,List.set_getElem_self]
     exact ih
    | succ k ihk=>
     intro hkN
     have hd0:Qcl x=0:=hor.resolve_right (by omega)
     rw[if_pos hd0,Int.toNat_natCast]at hsp
     have hcl2:∀c∈cs,Nrm c/\Cf (j+k) (Qal c (Qg5 s (hdT x).1 k)):=fun c hc'=>⟨(hc c hc').n,Qvz g1 g2 hd0 (hc c hc').n (hct c hc') k (by omega)⟩
     obtain⟨x1,x2⟩:=Qxd g1 g2 hd0 (by omega) hcl2
     have h1:=(ihk (by omega)).cut (i:=m) (r:=cs.map fun c=>Qal c (Qg5 s (hdT x).1 (k+1))) (by rw[List.length_set];exact lA) hFm (fun c hc'=>by
      obtain⟨d,hd,rfl⟩:=List.mem_map.1 hc';exact(hcl2 d hd).2.n) (fun c hc'=>by
      obtain⟨d,hd,rfl⟩:=List.mem_map.1 hc';exact(x2 d hd).n) hh hg mF (by rw[List.length_set];exact mP) (by rw[hF];exact g2) (by rw[List.getElem_set_self];omega) (by rw[hF];exact x1)
     rw[List.getElem_set_self,List.set_set]at h1
     rw[show(N:Int)-((k+1:Nat):Int)=(N:Int)-k-1 by omega]
     exact h1
   have hlast:=key N (Nat.le_refl _)
   have hs':Qel s (x,(N:Int))=Qg5 s (hdT x).1 N:=by
    rw[Qel]
    simp only[Int.toNat_natCast]
    split
    ·rfl
    ·rw[show N=0 from hor.resolve_left (by assumption)];rfl
   rw[hs']
   have h2:=hlast.erase (i:=m) (by rw[List.length_set];exact lA) mF (by rw[List.length_set];exact mP) (by rw[List.getElem_set_self];omega)
   rwa[List.eraseIdx_set_eq]at h2
theorem Qet.acc{fs:List (List Tm)}{ps:List Int}{cs:List (List Tm)}{i:Nat}{fs':List (List Tm)}{ps':List Int}{cs':List (List Tm)}{hs:List (List Tm)}{g:List Tm}{n:Nat}(hh:∀c∈hs,Nrm c)(hg:Nrm g)(h:Qet fs ps cs i fs' ps' cs'):∀ {j:Nat},Mn fs ps cs j->Qdd fs ps cs hs g n->Qdd fs' ps' cs' hs g n:=by
 induction h with
 |done _=>exact fun _ h=>h
 |skip _ _ _ _ ih=>exact ih
 |cut h1 h2 h3 h4 _ _ ih=>
  intro j hm ha
  have hm2:=hm.cut h1 h2 h3 h4
  exact ih hm2 (ha.cut hm.l.symm (fun f hf=>(hm.f f hf).1.n) (fun c hc=>(hm.c c hc).n) (fun c hc=>(hm2.c c hc).n) hh hg h1 h2 (hm.f _ (List.getElem_mem _)).2 h3 h4)
 |drop h1 h2 h3 h4 h5 _ ih=>
  intro j hm ha
  have hm2:=hm.cut h1 h2 h3 h4
  have h6:=ha.cut hm.l.symm (fun f hf=>(hm.f f hf).1.n) (fun c hc=>(hm.c c hc).n) (fun c hc=>(hm2.c c hc).n) hh hg h1 h2 (hm.f _ (List.getElem_mem _)).2 h3 h4
  exact ih (hm2.erase h1) (h6.erase hm2.l.symm h1 (by rw[List.length_set];exact h2) (by rw[List.getElem_set_self];omega))
def Qae9(fs:List (List Tm))(ps:List Int)(cs:List (List Tm))(k:Nat):Prop:=∀(h:k<fs.length)(h2:k<ps.length),ps[k]<1∨exL fs[k] cs=none
theorem Qet.fin{fs:List (List Tm)}{ps:List Int}{cs:List (List Tm)}{i:Nat}{fs':List (List Tm)}{ps':List Int}{cs':List (List Tm)}(h:Qet fs ps cs i fs' ps' cs'):(∀k,k<i->Qae9 fs ps cs k)->∀k,Qae9 fs' ps' cs' k:=by
 induction h with
 |done hle=>exact fun h k h1 h2=>h k (by omega) h1 h2
 |skip h1 h2 hor _ ih=>
  refine fun h=>ih fun k hk=> ?_
  rcases Nat.lt_or_eq_of_le (Nat.le_of_lt_succ hk)with e|e
  ·exact h k e
  ·subst e;exact fun _ _=>hor
 |cut _ _ _ _ _ _ ih=>exact fun _=>ih fun k hk=>absurd hk (Nat.not_lt_zero k)
 |drop _ _ _ _ _ _ ih=>exact fun _=>ih fun k hk=>absurd hk (Nat.not_lt_zero k)
theorem Q01{fs:List (List Tm)}{ps:List Int}{n:Int}{cs hs:List (List Tm)}{g:List Tm}(hl:fs.length=ps.length)(hp:Qg3 ps=true)(hf:∀f∈fs,f≠[])(h1:1<=n)(h2:n<=64)(hc:cs.length=hs.length)(h:Qdd fs ps cs hs g n.toNat):Qfo fs ps n cs hs g=0∨Qfo fs ps n cs hs g=4:=by
 have ha:fs.any List.isEmpty=false:=by
  rw[List.any_eq_false]
  intro f hf' e
  exact hf f hf' (List.isEmpty_iff.1 e)
 unfold Qfo
 rw[Q0r hl hp]
 cases hr:Qfn (Qb6 fs ps) (Qbj 1)with
 |none=>exact .inr rfl
 | some P=>
  have e1:=Qmq hr
  rw[ha]
  simp only[Qgd,if_true,Bool.false_eq_true,if_false,if_pos hc]
  rw[if_neg (by omega)]
  cases hr2:Qcm g n.toNat P with
  |none=>exact .inr rfl
  | some L=>
   have e2:=Qig hr2
   have hcr:Qcg cs hs=Qgd (Qfm (cs.zip hs) []):=by unfold Qcg;rw[if_pos hc]
   simp only
   rw[hcr]
   cases hr3:Qfm (cs.zip hs) []with
   |none=>exact .inr rfl
   |some s=>
    obtain⟨_,_,e3,_⟩:=Qsp (cs:=cs) (ls:=hs) (by rw[hcr,hr3];rfl)
    rw[hcr,hr3]at e3
    simp only[Qgd,if_true]at e3⊢
    unfold Qdd at h
    have hLs:L=s:=by rw[e2,e1,h,e3]
    exact .inl (if_pos hLs)
theorem Qdd.more{fs:List (List Tm)}{ps:List Int}{cs hs:List (List Tm)}{g f:List Tm}{n:Nat}(h:Qdd fs ps cs hs g n)(hl:fs.length=ps.length)(hfn:∀f∈fs,Nrm f)(hcn:∀c∈cs,Nrm c)(hh:∀c∈hs,Nrm c)(hg:Nrm g)(hf:Nrm f):Qdd (fs++[f]) (ps++[1]) (cs.map fun c=>Qu c f) hs g n:=by
 have e1:Qb6 (fs++[f]) (ps++[1])=Qb6 fs ps++[(f,1)]:=by
  unfold Qb6
  rw[List.map_append,List.zip_append (by simpa using hl)];rfl
 have hP:=Qjw (Qst (ps:=ps) hfn) (Qib 1)
 unfold Qdd at h⊢
 have e2:Qdj (Qb6 (fs++[f]) (ps++[1])) (Qbj 1)=Qu (Qdj (Qb6 fs ps) (Qbj 1)) f:=by rw[e1,Qgp];rfl
 rw[e2,Qkl hg hP hf,h]
 have hz1:=Qnc (P:=Nrm) (Q:=Nrm) hcn hh
 have hz2:=Qnc (P:=Nrm) (Q:=Nrm) (cs:=cs.map fun c=>Qu c f) (fun c hc=>by
  obtain⟨d,hd,rfl⟩:=List.mem_map.1 hc
  exact Qa1 (hcn d hd).s hf.s) hh
 have hzl:((cs.map fun c=>Qu c f).zip hs).length=(cs.zip hs).length:=by rw[List.length_zip,List.length_zip,List.length_map]
 rw[Qqc hf hzl hz2 hz1 (fun k k1 k2=>by
  rw[List.getElem_zip,List.getElem_zip,List.getElem_map]
  exact⟨rfl,rfl⟩) _ (Nat.le_refl _),hzl]
end Go.FW
namespace Go.FW
open Go
set_option maxRecDepth 100000
theorem Q5v{a:List Int}(h:a.length<=4):Qa3 a=eN a 0+eN a 1+eN a 2+eN a 3:=by
 match a,h with
 | [],_=>rfl
 | [x],_=>simp[Qa3,eN]
 | [x,y],_=>simp[Qa3,eN]
 | [x,y,z],_=>simp[Qa3,eN];omega
 | [x,y,z,w],_=>simp[Qa3,eN];omega
 |_::_::_::_::_::_,h=>simp at h
def c17(m:List Int):Nat:=(((eN m 3).toNat*17+(eN m 2).toNat)*17+(eN m 1).toNat)*17+(eN m 0).toNat
theorem Qans{a b:List Int}(ha:∀i,0<=eN a i)(hb:∀i,0<=eN b i)(la:a.length<=4)(lb:b.length<=4)(pa:Qa3 a<=16)(pb:Qa3 b<=16)(h:Qah a b<0):c17 a<c17 b:=by
 have a0:=ha 0;have a1:=ha 1;have a2:=ha 2;have a3:=ha 3
 have b0:=hb 0;have b1:=hb 1;have b2:=hb 2;have b3:=hb 3
 have:=Qvn la lb h
 rw[Q5v la]at pa
 rw[Q5v lb]at pb
 simp only[c17,Zo,Zg,Zm,Zc,Zf,Zl,Zh,Zs,Zi,Zb,Zk,Zn,Zu,Zq,Zr,Zz]
 omega
theorem Qant{a:List Int}(ha:∀i,0<=eN a i)(la:a.length<=4)(pa:Qa3 a<=16):c17 a<83521:=by
 have a0:=ha 0;have a1:=ha 1;have a2:=ha 2;have a3:=ha 3
 rw[Q5v la]at pa
 simp only[c17,Zo,Zg,Zm,Zc,Zf,Zl,Zh,Zs,Zi,Zb,Zk,Zn,Zu,Zq,Zr,Zz]
 omega
theorem Qaey{p:List Tm}:(∀t∈p,Qa3 t.2<=16)->Pos p->ML 4 p->Qbe p->p≠[]->p.length<=c17 (hdT p).2+1:=by
 induction p with
 |nil=>intro _ _ _ _ h;exact absurd rfl h
 | cons t p ih=>
  intro hp hP hM hs _
  cases p with
  |nil=>simp
  |cons s p=>
   have h1:=ih (fun x hx=>hp x (by simp[hx])) (fun x hx=>hP x (by simp[hx])) (fun x hx=>hM x (by simp[hx])) hs.2 (by simp)
   have h2:=hs.1 s (by simp)
   have h3:=Qc8 t.2 s.2
   have h4:=Qans (hP s (by simp)) (hP t (by simp)) (hM s (by simp)) (hM t (by simp)) (hp s (by simp)) (hp t (by simp)) (by omega)
   simp only[hdT,List.headD_cons,List.length_cons]at h1⊢
   omega
theorem Quo{p:List Tm}{d:Int}(hd: -1<=d)(h:∀t∈p,Qa3 t.2<=d):Qcl p<=d:=by
 rcases(Qhl p).2 with e|⟨t,ht,e⟩
 ·omega
 ·rw[e];exact h t ht
theorem Cf.big{j:Nat}{p:List Tm}(h:Cf j p)(hj:j<=16)(hd:Qcl p<=16):Big p:=by
 obtain⟨D,N,h1,h2,h3,h4,h5,h6⟩:=h.d
 refine⟨⟨⟨D,N,h1,h2,by omega,by omega,h5,h6⟩,1073741824,fun t ht=>⟨((h.pb (by omega)).1 t ht).1,(h.mb t ht).mono (by omega),h.n.c t ht⟩⟩,?_,h.n⟩
 by_cases h0:p=[]
 ·subst h0;simp
 ·have hall:∀t∈p,Qa3 t.2<=16:=fun t ht=>by have:=(Qhl p).1 t ht;omega
  have g1:=Qaey hall h.pos h.ml h.n.s h0
  have hm:=Qau h0
  have g2:=Qant (h.pos _ hm) (h.ml _ hm) (hall _ hm)
  omega
theorem Sm4.deg{p:List Tm}(h:Sm4 p):Qcl p<=16:=Quo (by omega) fun t ht=>by
 have c0:=(h.b t ht).m.eN 0;have c1:=(h.b t ht).m.eN 1;have c2:=(h.b t ht).m.eN 2;have c3:=(h.b t ht).m.eN 3
 rw[Q5v (h.m t ht)];omega
theorem Q5w{p:List Tm}{c:Rat}(h:Nrm p)(hd:Qcl p<=16):Qcl (Qal p c)<=16:=Quo (by omega) fun t ht=>by
 by_cases hc:c=0
 ·rw[Qal,if_pos hc]at ht;cases ht
 ·rw[Qoz h hc]at ht
  obtain⟨s,hs,rfl⟩:=List.mem_map.1 ht
  have:=(Qhl p).1 s hs
  exact Int.le_trans this hd
theorem Qanu{f c s:List Tm}{j i:Nat}(hf:Sm4 f)(h0:f≠[])(hc:Cf j c)(hs:Cf i s)(hj:j<=20)(hi:i<=20)(h:exO f c=some s)(hd:Qcl c<=16):Qcl s<=16:=by
 by_cases e:s=[]
 ·subst e;decide
 ·have hb:=Q0z hc.n hf.n hs.n h
  obtain⟨hne,hl⟩:=Q2s (o:=1) hs.n hf.n e h0
  rw[hb]at hne hl
  have d1:=Qw1 (hs.pb hi).1 hs.n e
  have d2:=Qw1 (hc.pb hj).1 hc.n hne
  have d3:=Qiw (o:=1) hf.n h0
  rw[hl,Qsj]at d2
  have:=(Qkr (hf.b _ d3.1).m).1
  omega
theorem Q3k{f:List Tm}{j i:Nat}(hf:Sm4 f)(h0:f≠[])(hj:j<=20)(hi:i<=20):∀ {cs r:List (List Tm)},(∀c∈cs,Cf j c/\Qcl c<=16)->(∀c∈r,Cf i c)->exL f cs=some r->∀c∈r,Qcl c<=16:=fun {cs r} hc hr h c hm=>by
 obtain⟨k,hk,rfl⟩:=List.getElem_of_mem hm
 have hl:=Qkt h
 have hk2:k<cs.length:=by omega
 obtain⟨q1,q2⟩:=hc _ (List.getElem_mem hk2)
 exact Qanu hf h0 q1 (hr _ hm) hj hi (Qvv h k hk2 hk) q2
theorem Qet.deg{fs:List (List Tm)}{ps:List Int}{cs:List (List Tm)}{i:Nat}{fs':List (List Tm)}{ps':List Int}{cs':List (List Tm)}(h:Qet fs ps cs i fs' ps' cs'):∀ {j:Nat},Mn fs ps cs j->(∀c∈cs,Qcl c<=16)->∀c∈cs',Qcl c<=16:=by
 induction h with
 |done _=>exact fun _ h=>h
 |skip _ _ _ _ ih=>exact ih
 |cut h1 h2 h3 h4 _ _ ih=>
  intro j hm ha
  have hm2:=hm.cut h1 h2 h3 h4
  obtain⟨g1,g2⟩:=hm.f _ (List.getElem_mem h1)
  exact ih hm2 (Q3k g1 g2 (by have:=hm.s;omega) (by have:=hm2.s;omega) (fun c hc=>⟨hm.c c hc,ha c hc⟩) hm2.c h4)
 |drop h1 h2 h3 h4 h5 _ ih=>
  intro j hm ha
  have hm2:=hm.cut h1 h2 h3 h4
  obtain⟨g1,g2⟩:=hm.f _ (List.getElem_mem h1)
  exact ih (hm2.erase h1) (Q3k g1 g2 (by have:=hm.s;omega) (by have:=hm2.s;omega) (fun c hc=>⟨hm.c c hc,ha c hc⟩) hm2.c h4)
theorem Qet.len{fs:List (List Tm)}{ps:List Int}{cs:List (List Tm)}{i:Nat}{fs':List (List Tm)}{ps':List Int}{cs':List (List Tm)}(h:Qet fs ps cs i fs' ps' cs'):cs'.length=cs.length:=by
 induction h with
 |done _=>rfl
 |skip _ _ _ _ ih=>exact ih
 |cut _ _ _ h4 _ _ ih=>exact ih.trans (Qkt h4)
 |drop _ _ _ h4 _ _ ih=>exact ih.trans (Qkt h4)
end Go.FW
