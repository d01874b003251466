/- Part 10 of the proof of IdealSound: G10, G11, FwUG. Own lemmas; no conditions. -/
import Derived.Test.YtonfajmchebkeaaGreatIdealSoundPart9
set_option linter.unusedSimpArgs false
set_option linter.unnecessarySimpa false
set_option linter.unusedVariables false
namespace Go.Proofs.YtonfajmchebkeaaGreat
open Go Go.FW
set_option linter.unusedSimpArgs false
set_option linter.unusedVariables false
set_option maxRecDepth 100000
theorem Qaar{p:List Tm}(hp:Sm4 p)(h0:p≠[]):Qdx p=0↔p.length=1/\(hdT p).2.length=0:=by
 constructor
 ·intro h
  have:=Q2b hp.n hp.b h0 h
  rw[this];exact⟨rfl,rfl⟩
 ·intro⟨h1,h2⟩
  cases p with
  |nil=>exact absurd rfl h0
  |cons t p=>
   obtain rfl:p=[]:=List.length_eq_zero_iff.1 (by simpa using h1)
   have e:t.2=[]:=List.length_eq_zero_iff.1 h2
   show max (-1) (Qbu t.2)=0
   rw[e];rfl
theorem Qvt{p:List Tm}(hp:Sm4 p)(h0:p≠[]):Qe Tryz.prog 178 [PV.poly p] (· = .bool (decide (Qdx p=0))):=by
 have hl:0<p.length:=List.length_pos_iff.2 h0
 have hh:=Qh5 hl
 have hi:=Qaar hp h0
 have hle:=hp.l
 have hm:=hp.m _ (Qas h0)
 refine Qf Qj Tryz.func178 rfl Qale (by simp[c178]) fun C hP=> ?_;simp only[c178,Zo,Zg,Zm,Zc,Zf,Zl,Zh,Zs,Zi,Zb,Zk,Zn,Zu,Zq,Zr,Zz]
 simp+decide (disch:=first|exact D0|fail) only[go_sem,↓reduceIte]
 refine Qaa (fun h=>absurd h (by omega)) (fun _=> ?_)
 simp+decide (disch:=first|exact D0|fail) only[go_sem,↓reduceIte]
 refine Q8 (fun h1=> ?_) (fun h1=> ?_)
 ·simp+decide (disch:=first|exact D1 hh|fail) only[go_sem,↓reduceIte,hh]
  exact Qc (congrArg PV.bool (decide_eq_decide.2 (hi.trans ⟨fun h=>by omega,fun h=>⟨by omega,by omega⟩⟩).symm)) rfl
 ·simp+decide (disch:=first|exact D0|fail) only[go_sem,↓reduceIte]
  exact Qc (by rw[decide_eq_false fun h=>h1 (by have:=(hi.1 h).1;omega)]) rfl
theorem Q4v{α:Type}(A:List α){l:List α}{t:Nat}(h:t<l.length):(A++l.drop t)[A.length]? =some l[t]:=by
 rw[List.getElem?_append_right (Nat.le_refl _),Nat.sub_self,List.getElem?_drop,Nat.add_zero,List.getElem?_eq_getElem h]
theorem Qym{α:Type}(A:List α){l:List α}{t:Nat}(h:t<l.length):(A++l.drop t).eraseIdx A.length=A++l.drop (t+1):=by
 rw[List.eraseIdx_append_of_length_le (Nat.le_refl _),Nat.sub_self,List.drop_eq_getElem_cons h,List.eraseIdx_cons_zero]
theorem Qyn{α:Type}(A:List α){l:List α}{t:Nat}(h:t<l.length):(A++[l[t]])++l.drop (t+1)=A++l.drop t:=by
 rw[List.append_assoc,List.drop_eq_getElem_cons h];rfl
theorem Q2d{fs:List (List Tm)}{ps:List Int}{n:Int}{cs:List (List Tm)}(hl:ps.length=fs.length)(hf:∀x∈fs.zip ps,Qmt x)(hfl:fs.length<=8)(hc:∀c∈cs,Sm4 c)(hcl:cs.length<=8)(h16:Qc5 ps<=16):
  Qe Tryz.prog 96 [PV.cert fs ps n cs] (· =PV.cert (Qck (fs.zip ps)) (Qct (fs.zip ps)) n (cs.map fun c=>Qag c (Qb8 (fs.zip ps)))):=by
 have hLl:(fs.zip ps).length=fs.length:=by rw[List.length_zip,hl,Nat.min_self]
 have hLp:(fs.zip ps).map (·.2)=ps:=List.map_snd_zip (by omega)
 generalize hL:fs.zip ps=L at *
 rw[<-hLp]at h16
 have h16:cnt L<=16:=by have:=Qtw L;omega
 have hcf:=fun c (h:c∈cs) i hi=>Qw8 hf h16 (hc c h) i hi
 refine Qf Qj Tryz.func96 rfl Qaoy (by simp[c96]) fun C hP=> ?_;simp only[c96,Zo,Zg,Zm,Zc,Zf,Zl,Zh,Zs,Zi,Zb,Zk,Zn,Zu,Zq,Zr,Zz]
 simp+decide (disch:=first|exact D0|fail) only[go_sem,↓reduceIte]
 refine Qx (by repeat (first|exact Qt|exact Qm|exact Qn|exact Qo|exact Qp|apply Ql|apply Qr|apply Qy|apply Q3|apply Q4|apply Qi|apply Qw)) [(3,70)] [] (fun q J hp=>∃t,q=fs.length-t/\t<=fs.length/\J 3= .int .i64 ((Qck (L.take t)).length:Nat)/\hp 1=some ⟨4,79,[PV.cert (Qck (L.take t)++fs.drop t) (Qct (L.take t)++ps.drop t) n (cs.map fun c=>Qag c (Qb8 (L.take t)))],false⟩/\hp 2=some ⟨4,79,[.agg [.nilS,.nilS,.int .i64 0,.nilS]],false⟩) fs.length ?_ ?_
 ·refine⟨0,rfl,by omega,?_⟩
  have e0:(cs.map fun c=>Qag c (Qb8 []))=cs:=by
   conv=>rhs;rw[<-List.map_id cs]
   refine List.map_congr_left fun c h=> ?_
   show Qag c 1=c
   exact Qpf (hc c h).n
  simp+decide (disch:=first|exact D0|fail) only[go_sem,↓reduceIte]
  rw[e0]
  exact⟨rfl,rfl⟩
 rintro _ J h ⟨t,rfl,ht,j3,b1,b2⟩
 obtain⟨k1,k2⟩:=Qpm (L.take t)
 rw[List.length_take]at k2
 have lA:(Qck (L.take t)++fs.drop t).length=(Qck (L.take t)).length+(fs.length-t):=by rw[List.length_append,List.length_drop]
 have lB:(Qct (L.take t)++ps.drop t).length=(Qck (L.take t)).length+(fs.length-t):=by rw[List.length_append,List.length_drop,k1,hl]
 by_cases ht':t<fs.length
 ·have htp:t<ps.length:=by omega
  have htL:t<L.length:=by omega
  have eL:L[t]=(fs[t],ps[t]):=by subst hL;exact List.getElem_zip
  have hFI:=hf _ (List.getElem_mem htL)
  have e1:=Qvq htL
  have e2:=Qvr htL
  have e3:=Qkz htL
  have hF:=Q4v (Qck (L.take t)) ht'
  have hB:=Q4v (Qct (L.take t)) htp
  have pF:=Qyn (Qck (L.take t)) ht'
  have pB:=Qyn (Qct (L.take t)) htp
  have rF:=Qym (Qck (L.take t)) ht'
  have rB:=Qym (Qct (L.take t)) htp
  have hct:=fun c h=>hcf c h t (by omega)
  have hsp:=Q2c htL
  have hct2:=Qaaq L (t+1)
  rw[eL]at hFI e1 e2 e3 hsp
  obtain⟨g1,g2,g3,g4⟩:=hFI
  simp only[k1]at hB rB
  simp only[Qq3]at g1 g2 g3 g4 e1 e2 e3 hsp
  generalize Qck (L.take t)=A at *
  generalize Qct (L.take t)=B at *
  generalize Qb8 (L.take t)=s at *
  generalize cnt (L.take t)=j at *
  generalize hx:fs[t]=x at *
  generalize hy:ps[t]=y at *
  generalize hFS:A++fs.drop t=FS at *
  generalize hPS:B++ps.drop t=PS at *
  generalize hmA:A.length=m at *
  obtain⟨mF,hF⟩:=List.getElem?_eq_some_iff.1 hF
  obtain⟨mP,hB⟩:=List.getElem?_eq_some_iff.1 hB
  simp+decide (disch:=first|exact D2 j3 b1|fail) only[go_sem,↓reduceIte,j3,b1]
  refine Q8 (fun _=> ?_) (fun h9=>absurd h9 (by omega))
  simp+decide (disch:=first|exact D2 j3 b1|fail) only[go_sem,↓reduceIte,j3,b1]
  refine Qb (fun _=> ?_) (fun h9=>absurd h9 (by omega))
  simp+decide (disch:=first|exact D3 j3 b1 hB|fail) only[go_sem,↓reduceIte,j3,b1,hB]
  obtain⟨N,rfl⟩:∃N:Nat,y=N:=⟨y.toNat,by omega⟩
  simp only[Int.toNat_natCast]at hsp
  have hxl:x.length≠0:=fun e=>g2 (List.length_eq_zero_iff.1 e)
  refine Q8 (fun hn=> ?_) (fun hn=> ?_)
  ·simp+decide (disch:=first|exact D3 j3 b1 hF|fail) only[go_sem,↓reduceIte,j3,b1,hF]
   refine Qa hP (Qvt g1 g2) rfl rfl rfl ?_
   by_cases hd:Qdx x=0
   ·have hor:Qdx x=0∨N=0:= .inl hd
    have hk0:Qd8 (x,(N:Int))=false:=by unfold Qd8;rw[decide_eq_false (by simp only;omega),Bool.false_and]
    have e3':Qb8 (L.take (t+1))=Qe0 s (hdT x).1 N:=by rw[e3,Qep,if_pos hd,Int.toNat_natCast]
    simp+decide (disch:=first|exact D4 j3 b1 hd hF|fail) only[go_sem,↓reduceIte,j3,b1,hd,hF]
    refine Qb (fun h9=>absurd h9 (by omega)) (fun _=> ?_)
    simp+decide (disch:=first|exact D3 j3 b1 hB|fail) only[go_sem,↓reduceIte,j3,b1,hB]
    refine Qx (by repeat (first|exact Qt|exact Qm|exact Qn|exact Qo|exact Qp|apply Ql|apply Qr|apply Qy|apply Q3|apply Q4|apply Qi|apply Qw)) [(4,4),(43,67)] [] (fun q J hp=>∃k,q=N-k/\k<=N/\J 4= .int .i64 (k:Nat)/\hp 1=some ⟨4,79,[PV.cert FS PS n (cs.map fun c=>Qag c (Qe0 s (hdT x).1 k))],false⟩/\hp 2=some ⟨4,79,[.agg [.nilS,.nilS,.int .i64 0,.nilS]],false⟩) N ?_ ?_
    ·refine⟨0,rfl,by omega,?_⟩
     simp+decide (disch:=first|exact D2 b1 b2|fail) only[go_sem,↓reduceIte,b1,b2]
     exact⟨rfl,rfl⟩
    rintro _ J1 h' ⟨k,rfl,hk,i4,c1,c2⟩
    simp+decide (disch:=first|exact D4 j3 i4 c1 hB|fail) only[go_sem,↓reduceIte,j3,i4,c1,hB]
    refine Q8 (fun hg=> ?_) (fun hg=> ?_)
    ·simp+decide (disch:=first|exact D3 j3 i4 c1|fail) only[go_sem,↓reduceIte,j3,i4,c1]
     refine Qb (fun _=> ?_) (fun h9=>absurd h9 (by omega))
     have hd0:Qdx x=0:=hor.resolve_right (by omega)
     rw[if_pos hd0]at hsp
     have hcl2:∀c∈cs,Nrm c/\Cf (j+k) (Qag c (Qe0 s (hdT x).1 k)):=fun c hc'=>⟨(hc c hc').n,Qry g1 g2 hd0 (hc c hc').n (hct c hc') k (by omega)⟩
     have hq:=Qhx (j:=j+k) (cs:=cs.map fun c=>Qag c (Qe0 s (hdT x).1 k)) g1 g2 (fun c hc'=>by obtain⟨d,hd,rfl⟩:=List.mem_map.1 hc';exact(hcl2 d hd).2) (by omega) (by rw[List.length_map];omega)
     rw[(Qq2 g1 g2 hd0 (by omega) hcl2).1]at hq
     simp+decide (disch:=first|exact D4 j3 i4 c1 hF|fail) only[go_sem,↓reduceIte,j3,i4,c1,hF]
     refine Qa hP hq rfl rfl rfl ?_
     simp+decide (disch:=first|omega|rfl|(simp+decide only[go_sem,↓reduceIte,j3,i4,c1,PV.quots]<;>rfl)|fail) only[go_sem,↓reduceIte,j3,i4,c1,PV.quots]
     refine Qg (N-(k+1)) (by omega) ⟨k+1,rfl,by omega,?_⟩
     simp+decide (disch:=first|exact D2 j3 c2|fail) only[go_sem,↓reduceIte,j3,c2]
     rfl
    ·obtain rfl:k=N:=by omega
     simp+decide (disch:=first|exact D3 j3 i4 c1|fail) only[go_sem,↓reduceIte,j3,i4,c1]
     refine Qa hP (Qjd (fs:=FS) (ps:=PS) (n:=n) (cs:=cs.map fun c=>Qag c (Qe0 s (hdT x).1 k)) mF (by omega) (by omega)) rfl rfl rfl ?_
     simp+decide (disch:=first|exact D2 j3 c1|fail) only[go_sem,↓reduceIte,j3,c1]
     simp (disch:=decide) only[Qbw,Qf8]
     refine Qg (fs.length-(t+1)) (by omega) ⟨t+1,rfl,by omega,?_⟩
     rw[hk0]at e1 e2
     simp only[Bool.false_eq_true,if_false,List.append_nil]at e1 e2
     rw[e1,e2,e3',<-rF,<-rB,hmA]
     simp+decide (disch:=first|exact D2 j3 c2|fail) only[go_sem,↓reduceIte,j3,c2]
   ·have hge:0<Qdx x:=by
     have:=(Q1g x).1 _ (Qas g2)
     have:=(Qrq (g1.b _ (Qas g2)).m).1
     omega
    have hk1:Qd8 (x,(N:Int))=true:=by unfold Qd8;rw[decide_eq_true hge,decide_eq_true hn];rfl
    have e3':Qb8 (L.take (t+1))=s:=by rw[e3,Qep,if_neg hd]
    rw[hk1,if_pos rfl]at e1 e2
    simp+decide (disch:=first|exact D3 j3 b1 hd|fail) only[go_sem,↓reduceIte,j3,b1,hd]
    refine Qg (fs.length-(t+1)) (by omega) ⟨t+1,rfl,by omega,?_⟩
    rw[e1,e2,e3',pF,pB,List.length_append,List.length_singleton,hmA]
    simp+decide (disch:=first|exact D2 b1 b2|fail) only[go_sem,↓reduceIte,b1,b2]
  ·have hor:Qdx x=0∨N=0:= .inr (by omega)
   have hk0:Qd8 (x,(N:Int))=false:=by unfold Qd8;rw[decide_eq_false (show ¬0<((x,(N:Int)):List Tm×Int).2 by simp only;omega),Bool.and_false]
   have e3':Qb8 (L.take (t+1))=Qe0 s (hdT x).1 N:=by
    rw[e3,Qep,Int.toNat_natCast]
    obtain rfl:N=0:=by omega
    split<;>rfl
   simp+decide (disch:=first|exact D3 j3 b1 hF|fail) only[go_sem,↓reduceIte,j3,b1,hF]
   refine Qb (fun h9=>absurd h9 (by omega)) (fun _=> ?_)
   simp+decide (disch:=first|exact D3 j3 b1 hB|fail) only[go_sem,↓reduceIte,j3,b1,hB]
   refine Qx (by repeat (first|exact Qt|exact Qm|exact Qn|exact Qo|exact Qp|apply Ql|apply Qr|apply Qy|apply Q3|apply Q4|apply Qi|apply Qw)) [(4,4),(43,67)] [] (fun q J hp=>∃k,q=N-k/\k<=N/\J 4= .int .i64 (k:Nat)/\hp 1=some ⟨4,79,[PV.cert FS PS n (cs.map fun c=>Qag c (Qe0 s (hdT x).1 k))],false⟩/\hp 2=some ⟨4,79,[.agg [.nilS,.nilS,.int .i64 0,.nilS]],false⟩) N ?_ ?_
   ·refine⟨0,rfl,by omega,?_⟩
    simp+decide (disch:=first|exact D2 b1 b2|fail) only[go_sem,↓reduceIte,b1,b2]
    exact⟨rfl,rfl⟩
   rintro _ J1 h' ⟨k,rfl,hk,i4,c1,c2⟩
   simp+decide (disch:=first|exact D4 j3 i4 c1 hB|fail) only[go_sem,↓reduceIte,j3,i4,c1,hB]
   refine Q8 (fun hg=> ?_) (fun hg=> ?_)
   ·simp+decide (disch:=first|exact D3 j3 i4 c1|fail) only[go_sem,↓reduceIte,j3,i4,c1]
    refine Qb (fun _=> ?_) (fun h9=>absurd h9 (by omega))
    have hd0:Qdx x=0:=hor.resolve_right (by omega)
    rw[if_pos hd0]at hsp
    have hcl2:∀c∈cs,Nrm c/\Cf (j+k) (Qag c (Qe0 s (hdT x).1 k)):=fun c hc'=>⟨(hc c hc').n,Qry g1 g2 hd0 (hc c hc').n (hct c hc') k (by omega)⟩
    have hq:=Qhx (j:=j+k) (cs:=cs.map fun c=>Qag c (Qe0 s (hdT x).1 k)) g1 g2 (fun c hc'=>by obtain⟨d,hd,rfl⟩:=List.mem_map.1 hc';exact(hcl2 d hd).2) (by omega) (by rw[List.length_map];omega)
    rw[(Qq2 g1 g2 hd0 (by omega) hcl2).1]at hq
    simp+decide (disch:=first|exact D4 j3 i4 c1 hF|fail) only[go_sem,↓reduceIte,j3,i4,c1,hF]
    refine Qa hP hq rfl rfl rfl ?_
    simp+decide (disch:=first|omega|rfl|(simp+decide only[go_sem,↓reduceIte,j3,i4,c1,PV.quots]<;>rfl)|fail) only[go_sem,↓reduceIte,j3,i4,c1,PV.quots]
    refine Qg (N-(k+1)) (by omega) ⟨k+1,rfl,by omega,?_⟩
    simp+decide (disch:=first|exact D2 j3 c2|fail) only[go_sem,↓reduceIte,j3,c2]
    rfl
   ·obtain rfl:k=N:=by omega
    simp+decide (disch:=first|exact D3 j3 i4 c1|fail) only[go_sem,↓reduceIte,j3,i4,c1]
    refine Qa hP (Qjd (fs:=FS) (ps:=PS) (n:=n) (cs:=cs.map fun c=>Qag c (Qe0 s (hdT x).1 k)) mF (by omega) (by omega)) rfl rfl rfl ?_
    simp+decide (disch:=first|exact D2 j3 c1|fail) only[go_sem,↓reduceIte,j3,c1]
    simp (disch:=decide) only[Qbw,Qf8]
    refine Qg (fs.length-(t+1)) (by omega) ⟨t+1,rfl,by omega,?_⟩
    rw[hk0]at e1 e2
    simp only[Bool.false_eq_true,if_false,List.append_nil]at e1 e2
    rw[e1,e2,e3',<-rF,<-rB,hmA]
    simp+decide (disch:=first|exact D2 j3 c2|fail) only[go_sem,↓reduceIte,j3,c2]
 ·obtain rfl:t=fs.length:=by omega
  rw[List.take_of_length_le (by omega),List.drop_length,List.drop_of_length_le (by omega),List.append_nil,List.append_nil]at b1
  rw[List.take_of_length_le (by omega)]at j3
  simp+decide (disch:=first|exact D2 j3 b1|fail) only[go_sem,↓reduceIte,j3,b1]
  refine Q8 (fun h9=>absurd h9 (by omega)) (fun _=> ?_)
  simp+decide (disch:=first|exact D2 b1 b2|fail) only[go_sem,↓reduceIte,b1,b2]
  refine Qa2 ?_
  simp+decide (disch:=first|exact D0|fail) only[go_sem,↓reduceIte]
  exact Qc rfl rfl
end Go.Proofs.YtonfajmchebkeaaGreat
namespace Go.Proofs.YtonfajmchebkeaaGreat
open Go Go.FW
set_option linter.unusedSimpArgs false
set_option linter.unusedVariables false
set_option maxRecDepth 100000
theorem Qs2{fs:List (List Tm)}{ps:List Int}{cs:List (List Tm)}{i:Nat}(h:i<fs.length)(h2:i<ps.length)(hor:ps[i]<1∨exL fs[i] cs=none):cancelO fs ps cs (i:Nat)=none:=by
 by_cases h3:1<=ps[i]
 ·rw[Qgu h h2 h3,hor.resolve_left (by omega)];rfl
 ·refine Qfa fun g=>h3 ?_
  have:=g.2.2.2
  have e1:ps.getD i 0=ps[i]:=by simp[h2]
  rwa[Int.toNat_natCast,e1]at this
theorem Qrz{fs:List (List Tm)}{ps:List Int}{cs:List (List Tm)}{j:Nat}(h:Mn fs ps cs j):∀x∈ps,-9223372036854775808<=x/\x<=9223372036854775807:=fun x hx=>by have:=h.p x hx;omega
theorem Qn4{fs:List (List Tm)}{ps:List Int}{n:Int}{cs:List (List Tm)}{fs':List (List Tm)}{ps':List Int}{cs':List (List Tm)}(hl:ps.length=fs.length)(hf:∀x∈fs.zip ps,Qmt x)(hfl:fs.length<=8)(hc:∀c∈cs,Sm4 c)(hcl:cs.length<=8)(h16:Qc5 ps<=16)
  (hR:Qix (Qck (fs.zip ps)) (Qct (fs.zip ps)) (cs.map fun c=>Qag c (Qb8 (fs.zip ps))) 0 fs' ps' cs'):Qe Tryz.prog 42 [PV.cert fs ps n cs] (· =PV.cert fs' ps' n cs'):=by
 have ht:=Qw7 (n:=n) hl hf hfl hc hcl
 have hm0:=Qw9 hl hf hfl hc hcl h16
 generalize Qck (fs.zip ps)=FS at *
 generalize Qct (fs.zip ps)=PS at *
 generalize(cs.map fun c=>Qag c (Qb8 (fs.zip ps)))=CS at *
 refine Qf Qj Tryz.func42 rfl Qaot (by simp[c42]) fun C hP=> ?_;simp only[c42,Zo,Zg,Zm,Zc,Zf,Zl,Zh,Zs,Zi,Zb,Zk,Zn,Zu,Zq,Zr,Zz]
 simp+decide (disch:=first|exact D0|fail) only[go_sem,↓reduceIte]
 refine Qb (fun h9=>absurd h9 (by omega)) (fun _=> ?_)
 simp+decide (disch:=first|exact D0|fail) only[go_sem,↓reduceIte]
 refine Qa hP ht rfl rfl rfl ?_
 simp+decide (disch:=first|exact D0|fail) only[go_sem,↓reduceIte]
 refine Qx (by repeat (first|exact Qt|exact Qm|exact Qn|exact Qo|exact Qp|apply Ql|apply Qr|apply Qy|apply Q3|apply Q4|apply Qi|apply Qw)) [(3,5),(16,40)] [4] (fun q J hp=>∃gs qs ds j i,q=Qc5 qs*16+(gs.length-i)/\Mn gs qs ds j/\Qix gs qs ds i fs' ps' cs'/\J 3= .int .i64 (i:Nat)/\hp 1=some ⟨4,79,[PV.cert gs qs n ds],false⟩/\hp 2=some ⟨4,79,[.agg [.nilS,.nilS,.int .i64 0,.nilS]],false⟩) (Qc5 PS*16+(FS.length-0)) ?_ ?_
 ·refine⟨FS,PS,CS,_,0,rfl,hm0,hR,?_⟩
  simp+decide (disch:=first|exact D0|fail) only[go_sem,↓reduceIte]
  rfl
 rintro _ J h ⟨gs,qs,ds,j,i,rfl,hm,hR,j3,b1,b2⟩
 have hgl:=hm.fl
 have hql:=hm.l
 have hdl:=hm.cl
 have hjs:=hm.s
 cases hR with
 |done hle=>
  simp+decide (disch:=first|exact D2 j3 b1|fail) only[go_sem,↓reduceIte,j3,b1]
  refine Qb (fun h9=>absurd h9 (by omega)) (fun _=> ?_)
  simp+decide (disch:=first|exact D2 b1 b2|fail) only[go_sem,↓reduceIte,b1,b2]
  refine Qa2 ?_
  simp+decide (disch:=first|exact D0|fail) only[go_sem,↓reduceIte]
  exact Qc rfl rfl
 |skip h1 h2 hor hR=>
  have hca:=Qki (n:=n) (i:=(i:Nat)) hm.f hm.c (by omega) (by omega) (by omega) (by omega) (Qrz hm)
  rw[Qs2 h1 h2 hor]at hca
  simp+decide (disch:=first|exact D2 j3 b1|fail) only[go_sem,↓reduceIte,j3,b1]
  refine Qb (fun _=> ?_) (fun h9=>absurd h9 (by omega))
  simp+decide (disch:=first|exact D2 j3 b1|fail) only[go_sem,↓reduceIte,j3,b1]
  refine Qa hP hca rfl rfl rfl ?_
  simp+decide (disch:=first|omega|rfl|(simp+decide only[go_sem,↓reduceIte,PV.cancel,j3]<;>rfl)|fail) only[go_sem,↓reduceIte,PV.cancel,j3]
  refine Qg (Qc5 qs*16+(gs.length-(i+1))) (by omega) ⟨gs,qs,ds,j,i+1,rfl,hm,hR,?_⟩
  simp+decide (disch:=first|exact D2 b1 b2|fail) only[go_sem,↓reduceIte,b1,b2]
 | @cut _ _ _ _ r _ _ _ h1 h2 hge he hne hR=>
  have hca:=Qki (n:=n) (i:=(i:Nat)) hm.f hm.c (by omega) (by omega) (by omega) (by omega) (Qrz hm)
  rw[Qgu h1 h2 hge,he]at hca
  have hm2:=hm.cut h1 h2 hge he
  have hs2:=Qgv h2 hge
  have hset:(qs.set i (qs[i]-1))[i]? =some (qs[i]-1):=List.getElem?_set_self h2
  generalize qs.set i (qs[i]-1)=Q at *
  obtain⟨hi3,hset⟩:=List.getElem?_eq_some_iff.1 hset
  generalize qs[i]=y at *
  simp+decide (disch:=first|exact D2 j3 b1|fail) only[go_sem,↓reduceIte,j3,b1]
  refine Qb (fun _=> ?_) (fun h9=>absurd h9 (by omega))
  simp+decide (disch:=first|exact D2 j3 b1|fail) only[go_sem,↓reduceIte,j3,b1]
  refine Qa hP hca rfl rfl rfl ?_
  simp+decide (disch:=first|omega|rfl|(simp+decide only[go_sem,↓reduceIte,PV.cancel,j3,b1,hset,Option.map_some]<;>rfl)|fail) only[go_sem,↓reduceIte,PV.cancel,j3,b1,hset,Option.map_some]
  refine Qb (fun h9=>absurd h9 (by omega)) (fun _=> ?_)
  simp+decide (disch:=first|exact D1 j3|fail) only[go_sem,↓reduceIte,j3]
  refine Qg (Qc5 Q*16+(gs.length-0)) (by omega) ⟨gs,Q,r,j+1,0,rfl,hm2,hR,?_⟩
  simp+decide (disch:=first|exact D1 b2|fail) only[go_sem,↓reduceIte,b2]
  rfl
 | @drop _ _ _ _ r _ _ _ h1 h2 hge he heq hR=>
  have hca:=Qki (n:=n) (i:=(i:Nat)) hm.f hm.c (by omega) (by omega) (by omega) (by omega) (Qrz hm)
  rw[Qgu h1 h2 hge,he]at hca
  have hm2:=hm.cut h1 h2 hge he
  have hs2:=Qgv h2 hge
  have hset:(qs.set i (qs[i]-1))[i]? =some (qs[i]-1):=List.getElem?_set_self h2
  generalize qs.set i (qs[i]-1)=Q at *
  obtain⟨hi3,hset⟩:=List.getElem?_eq_some_iff.1 hset
  have hw:=Qw5 (fs:=gs) (ps:=Q) (n:=n) (cs:=r) h1 hm2.l (by omega)
  have hm3:=hm2.erase h1
  have hs3:=Qiw (ps:=Q) i
  have hl3:(gs.eraseIdx i).length<=gs.length:=by rw[List.length_eraseIdx];split<;>omega
  generalize qs[i]=y at *
  simp+decide (disch:=first|exact D2 j3 b1|fail) only[go_sem,↓reduceIte,j3,b1]
  refine Qb (fun _=> ?_) (fun h9=>absurd h9 (by omega))
  simp+decide (disch:=first|exact D2 j3 b1|fail) only[go_sem,↓reduceIte,j3,b1]
  refine Qa hP hca rfl rfl rfl ?_
  simp+decide (disch:=first|omega|rfl|(simp+decide only[go_sem,↓reduceIte,PV.cancel,j3,b1,hset,Option.map_some]<;>rfl)|fail) only[go_sem,↓reduceIte,PV.cancel,j3,b1,hset,Option.map_some]
  refine Qb (fun _=> ?_) (fun h9=>absurd (show y-1=0 by omega) h9)
  simp+decide (disch:=first|exact D1 j3|fail) only[go_sem,↓reduceIte,j3]
  refine Qa hP hw rfl rfl rfl ?_
  simp+decide (disch:=first|exact D1 j3|fail) only[go_sem,↓reduceIte,j3]
  refine Qg (Qc5 (Q.eraseIdx i)*16+((gs.eraseIdx i).length-0)) (by omega) ⟨gs.eraseIdx i,Q.eraseIdx i,r,j+1,0,rfl,hm3,hR,?_⟩
  simp+decide (disch:=first|exact D1 b2|fail) only[go_sem,↓reduceIte,b2]
  rfl
theorem Qxa{fs:List (List Tm)}{ps:List Int}{n:Int}{cs:List (List Tm)}{fs':List (List Tm)}{ps':List Int}{cs':List (List Tm)}(hl:ps.length=fs.length)(hf:∀x∈fs.zip ps,Qmt x)(hfl:fs.length<=8)(hc:∀c∈cs,Sm4 c)(hcl:cs.length<=8)(h16:Qc5 ps<=16)
  (hR:Qix (Qck (fs.zip ps)) (Qct (fs.zip ps)) (cs.map fun c=>Qag c (Qb8 (fs.zip ps))) 0 fs' ps' cs'):Qe Tryz.prog 52 [PV.cert fs ps n cs] (· =PV.cert fs' ps' n cs'):=by
 have ht:=Q2d (n:=n) hl hf hfl hc hcl h16
 have hm0:=Qw9 hl hf hfl hc hcl h16
 generalize Qck (fs.zip ps)=FS at *
 generalize Qct (fs.zip ps)=PS at *
 generalize(cs.map fun c=>Qag c (Qb8 (fs.zip ps)))=CS at *
 refine Qf Qj Tryz.func52 rfl Qaoz (by simp[c52]) fun C hP=> ?_;simp only[c52,Zo,Zg,Zm,Zc,Zf,Zl,Zh,Zs,Zi,Zb,Zk,Zn,Zu,Zq,Zr,Zz]
 simp+decide (disch:=first|exact D0|fail) only[go_sem,↓reduceIte]
 refine Qa hP ht rfl rfl rfl ?_
 simp+decide (disch:=first|exact D0|fail) only[go_sem,↓reduceIte]
 refine Qx (by repeat (first|exact Qt|exact Qm|exact Qn|exact Qo|exact Qp|apply Ql|apply Qr|apply Qy|apply Q3|apply Q4|apply Qi|apply Qw)) [(3,5),(8,32)] [4] (fun q J hp=>∃gs qs ds j i,q=Qc5 qs*16+(gs.length-i)/\Mn gs qs ds j/\Qix gs qs ds i fs' ps' cs'/\J 3= .int .i64 (i:Nat)/\hp 1=some ⟨4,79,[PV.cert gs qs n ds],false⟩/\hp 2=some ⟨4,79,[.agg [.nilS,.nilS,.int .i64 0,.nilS]],false⟩) (Qc5 PS*16+(FS.length-0)) ?_ ?_
 ·refine⟨FS,PS,CS,_,0,rfl,hm0,hR,?_⟩
  simp+decide (disch:=first|exact D0|fail) only[go_sem,↓reduceIte]
  rfl
 rintro _ J h ⟨gs,qs,ds,j,i,rfl,hm,hR,j3,b1,b2⟩
 have hgl:=hm.fl
 have hql:=hm.l
 have hdl:=hm.cl
 have hjs:=hm.s
 cases hR with
 |done hle=>
  simp+decide (disch:=first|exact D2 j3 b1|fail) only[go_sem,↓reduceIte,j3,b1]
  refine Qb (fun h9=>absurd h9 (by omega)) (fun _=> ?_)
  simp+decide (disch:=first|exact D2 b1 b2|fail) only[go_sem,↓reduceIte,b1,b2]
  refine Qa2 ?_
  simp+decide (disch:=first|exact D0|fail) only[go_sem,↓reduceIte]
  exact Qc rfl rfl
 |skip h1 h2 hor hR=>
  have hca:=Qkj (n:=n) (i:=(i:Nat)) hm.f hm.c (by omega) (by omega) (by omega) (by omega) (Qrz hm)
  rw[Qs2 h1 h2 hor]at hca
  simp+decide (disch:=first|exact D2 j3 b1|fail) only[go_sem,↓reduceIte,j3,b1]
  refine Qb (fun _=> ?_) (fun h9=>absurd h9 (by omega))
  simp+decide (disch:=first|exact D2 j3 b1|fail) only[go_sem,↓reduceIte,j3,b1]
  refine Qa hP hca rfl rfl rfl ?_
  simp+decide (disch:=first|omega|rfl|(simp+decide only[go_sem,↓reduceIte,PV.cancel,j3]<;>rfl)|fail) only[go_sem,↓reduceIte,PV.cancel,j3]
  refine Qg (Qc5 qs*16+(gs.length-(i+1))) (by omega) ⟨gs,qs,ds,j,i+1,rfl,hm,hR,?_⟩
  simp+decide (disch:=first|exact D2 b1 b2|fail) only[go_sem,↓reduceIte,b1,b2]
 | @cut _ _ _ _ r _ _ _ h1 h2 hge he hne hR=>
  have hca:=Qkj (n:=n) (i:=(i:Nat)) hm.f hm.c (by omega) (by omega) (by omega) (by omega) (Qrz hm)
  rw[Qgu h1 h2 hge,he]at hca
  have hm2:=hm.cut h1 h2 hge he
  have hs2:=Qgv h2 hge
  have hset:(qs.set i (qs[i]-1))[i]? =some (qs[i]-1):=List.getElem?_set_self h2
  generalize qs.set i (qs[i]-1)=Q at *
  obtain⟨hi3,hset⟩:=List.getElem?_eq_some_iff.1 hset
  generalize qs[i]=y at *
  simp+decide (disch:=first|exact D2 j3 b1|fail) only[go_sem,↓reduceIte,j3,b1]
  refine Qb (fun _=> ?_) (fun h9=>absurd h9 (by omega))
  simp+decide (disch:=first|exact D2 j3 b1|fail) only[go_sem,↓reduceIte,j3,b1]
  refine Qa hP hca rfl rfl rfl ?_
  simp+decide (disch:=first|omega|rfl|(simp+decide only[go_sem,↓reduceIte,PV.cancel,j3,b1,hset,Option.map_some]<;>rfl)|fail) only[go_sem,↓reduceIte,PV.cancel,j3,b1,hset,Option.map_some]
  refine Qb (fun h9=>absurd h9 (by omega)) (fun _=> ?_)
  simp+decide (disch:=first|exact D1 j3|fail) only[go_sem,↓reduceIte,j3]
  refine Qg (Qc5 Q*16+(gs.length-0)) (by omega) ⟨gs,Q,r,j+1,0,rfl,hm2,hR,?_⟩
  simp+decide (disch:=first|exact D1 b2|fail) only[go_sem,↓reduceIte,b2]
  rfl
 | @drop _ _ _ _ r _ _ _ h1 h2 hge he heq hR=>
  have hca:=Qkj (n:=n) (i:=(i:Nat)) hm.f hm.c (by omega) (by omega) (by omega) (by omega) (Qrz hm)
  rw[Qgu h1 h2 hge,he]at hca
  have hm2:=hm.cut h1 h2 hge he
  have hs2:=Qgv h2 hge
  have hset:(qs.set i (qs[i]-1))[i]? =some (qs[i]-1):=List.getElem?_set_self h2
  generalize qs.set i (qs[i]-1)=Q at *
  obtain⟨hi3,hset⟩:=List.getElem?_eq_some_iff.1 hset
  have hw:=Qjd (fs:=gs) (ps:=Q) (n:=n) (cs:=r) h1 hm2.l (by omega)
  have hm3:=hm2.erase h1
  have hs3:=Qiw (ps:=Q) i
  have hl3:(gs.eraseIdx i).length<=gs.length:=by rw[List.length_eraseIdx];split<;>omega
  generalize qs[i]=y at *
  simp+decide (disch:=first|exact D2 j3 b1|fail) only[go_sem,↓reduceIte,j3,b1]
  refine Qb (fun _=> ?_) (fun h9=>absurd h9 (by omega))
  simp+decide (disch:=first|exact D2 j3 b1|fail) only[go_sem,↓reduceIte,j3,b1]
  refine Qa hP hca rfl rfl rfl ?_
  simp+decide (disch:=first|omega|rfl|(simp+decide only[go_sem,↓reduceIte,PV.cancel,j3,b1,hset,Option.map_some]<;>rfl)|fail) only[go_sem,↓reduceIte,PV.cancel,j3,b1,hset,Option.map_some]
  refine Qb (fun _=> ?_) (fun h9=>absurd (show y-1=0 by omega) h9)
  simp+decide (disch:=first|exact D1 j3|fail) only[go_sem,↓reduceIte,j3]
  refine Qa hP hw rfl rfl rfl ?_
  simp+decide (disch:=first|exact D1 j3|fail) only[go_sem,↓reduceIte,j3]
  refine Qg (Qc5 (Q.eraseIdx i)*16+((gs.eraseIdx i).length-0)) (by omega) ⟨gs.eraseIdx i,Q.eraseIdx i,r,j+1,0,rfl,hm3,hR,?_⟩
  simp+decide (disch:=first|exact D1 b2|fail) only[go_sem,↓reduceIte,b2]
  rfl
end Go.Proofs.YtonfajmchebkeaaGreat
namespace Go.FW
open Go
def pbB(K E:Nat)(p:List Tm):Bool:=p.all fun t=>decide (rs t.1+1<=K)&&(decide (t.2.length<=64)&&((t.2.all fun x=>decide (0<=x)&&decide (x<=E))&&decide (t.2.getLast? ≠some 0)))
theorem Qaq1{K E:Nat}{p:List Tm}(h:pbB K E p=true):PB K E p:=fun t ht=>by
 have:=List.all_eq_true.1 h t ht
 simp only[Bool.and_eq_true,decide_eq_true_eq,List.all_eq_true]at this
 obtain⟨h1,h2,h3,h4⟩:=this
 exact⟨h1,⟨h2,fun x hx=>(h3 x hx).1,fun x hx=>(h3 x hx).2⟩,h4⟩
def Qzf:List Tm->Bool
 | []=>true
 |t::p=>(p.all fun s=>decide (0<Qaj t.2 s.2))&&Qzf p
theorem Q4w:∀ {p:List Tm},Qzf p=true->Qbf p
 | [],_=>trivial
 |t::p,h=>by
  simp only[Qzf,Bool.and_eq_true,List.all_eq_true,decide_eq_true_eq]at h
  exact⟨h.1,Q4w h.2⟩
def nrmB(p:List Tm):Bool:=(p.all fun t=>decide (t.1≠0)&&decide (t.2.getLast? ≠some 0))&&Qzf p
theorem Qaps{p:List Tm}(h:nrmB p=true):Nrm p:=by
 simp only[nrmB,Bool.and_eq_true,List.all_eq_true,decide_eq_true_eq]at h
 exact⟨fun t ht=>(h.1 t ht).2,fun t ht=>(h.1 t ht).1,Q4w h.2⟩
end Go.FW
