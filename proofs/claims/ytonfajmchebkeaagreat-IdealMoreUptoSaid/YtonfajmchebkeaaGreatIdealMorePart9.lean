/- Part 9 of the proof of IdealMore: P5, G9, FwWI. Own lemmas; no conditions. -/
import Derived.Test.YtonfajmchebkeaaGreatIdealMorePart8
set_option linter.unusedSimpArgs false
set_option linter.unnecessarySimpa false
set_option linter.unusedVariables false
namespace Go.Proofs.YtonfajmchebkeaaGreat
open Go Go.FW
set_option linter.unusedSimpArgs false
set_option linter.unusedVariables false
set_option maxRecDepth 100000
theorem Q9c{p:List Tm}{i:Nat}(h:i<p.length):Qcl (p.take (i+1))=max (Qcl (p.take i)) (Qa3 p[i].2):=by
 rw[List.take_succ_eq_append_getElem h,Qcl,List.foldl_append];rfl
theorem Qx0{p:List Tm}{K E:Nat}(hp:PB K E p)(hE:E<=2^38)(hlp:p.length<=2^36):Qd Tryz.prog 164 [PV.poly p] (· = .int .i64 (Qcl p)):=by
 refine Qf Qk Tryz.func164 rfl Qaja (by simp[c164]) fun C hP=> ?_;simp only[c164,Zo,Zg,Zm,Zc,Zf,Zl,Zh,Zs,Zi,Zb,Zk,Zn,Zu,Zq,Zr,Zz]
 simp+decide (disch:=first|exact D0|fail) only[go_sem,↓reduceIte]
 refine Q6 (by repeat (first|exact Qx|exact Qp|exact Qq|exact Qr|exact Qt|apply Qo|apply Qw|apply Q4|apply Qac|apply Qad|apply Qm)) [(3,3),(5,5),(8,17)] [5] (fun n J hp=>∃i,n=p.length-i/\i<=p.length/\J 3= .int .i64 (Qcl (p.take i))/\J 8= .int .i64 (i:Nat)) p.length ?_ ?_
 ·refine⟨0,rfl,by omega,?_⟩
  simp+decide (disch:=first|exact D0|fail) only[go_sem,↓reduceIte]
  simp[Qcl]
 rintro _ J h ⟨i,rfl,hi,h3,h8⟩
 simp+decide (disch:=first|exact D2 h3 h8|fail) only[go_sem,↓reduceIte,h3,h8]
 refine Qb (fun hg=> ?_) (fun hg=> ?_)
 ·have hi':i<p.length:=by omega
  have htp:=hp.get hi'
  have htk:=Q9c hi'
  generalize hx:p[i]=x at *
  have hl:=htp.m.len
  have hd:=Qkr htp.m
  simp+decide (disch:=first|exact D3 h3 h8 hx|fail) only[go_sem,↓reduceIte,h3,h8,hx]
  refine Qa hP (Qj2 (a:=x.2) (by omega) (fun y hy=>⟨htp.m.lo y hy,by have:=htp.m.hi y hy;omega⟩)) rfl rfl rfl ?_
  simp+decide (disch:=first|exact D3 h3 h8 hx|fail) only[go_sem,↓reduceIte,h3,h8,hx]
  refine Qi (p.length-(i+1)) (by omega) ⟨i+1,rfl,by omega,?_⟩
  rw[htk]
  simp+decide (disch:=first|exact D0|fail) only[go_sem,↓reduceIte]
 ·obtain rfl:i=p.length:=by omega
  rw[List.take_length]at h3
  simp+decide (disch:=first|exact D1 h3|fail) only[go_sem,↓reduceIte,h3]
  exact Qc rfl rfl
end Go.Proofs.YtonfajmchebkeaaGreat
namespace Go.Proofs.YtonfajmchebkeaaGreat
open Go Go.FW
set_option linter.unusedSimpArgs false
set_option linter.unusedVariables false
set_option maxRecDepth 100000
def c87:SFn:=⟨96,[.cell 2 4 true],Zr (Zo (.box 1 4 79 (.t 0))<|
 Zo (.alloc 2 4 79 (.agg [.nilS,.nilS,Zz 0,.nilS])) .nil)<|Zr (Zf 8 2 1<|
 Zl 9 1 8<|
 Zf 10 3 1<|
 Zl 11 1 10<|
 Zn 12 11<|
 .br (Zo (.mk 13 1 24 51 .nilS (.t 12) (.t 12))<|
 .wk<|Zo (.bld 14 [.nilS,.nilS,Zz 0,.nilS] [(2,1,.t 9),(3,1,.t 13)])<|
 Zo (.alloc 3 4 79 (.agg [.nilS,.nilS,Zz 0,.nilS]))<|
 .wk<| .wk<|Zs 4 3 14 .nil) (Zo (.alloc 3 4 79 (.agg [.nilS,.nilS,Zz 0,.nilS]))<|
 .wk<| .wk<|Zo (.mk 13 1 24 51 .nilS (.t 12) (.t 12))<|
 .wk<|Zo (.bld 14 [.nilS,.nilS,Zz 0,.nilS] [(2,1,.t 9),(3,1,.t 13)])<|
 Zs 4 3 14 .nil))<|Zr (Zf 15 3 3<|
 .wk<| .wk<|Zl 16 1 15<|
 Zf 17 3 1<|
 Zl 18 1 17<|
 Zo (.cpy 19 1 (.t 16) (.t 18)) .nil)<|Zr (Zq 20 false 78 [.c (Zz 1)]<|
 Zo (.alloc 4 3 32 (.agg [.bool false,.nilS,.nilS]))<|
 Zs 3 4 20 .nil)<| .seq (Zr (Zf 21 0 1<|
 Zl 22 1 21<|
 Zn 23 22<|
 Zc 24 0 .nil)<| .block 0<| .loop<|Zr (Zb 25 .lss 24 23 .nil)<| .seq (.cond (.t 25) .skip (.exit 0))<| .seq (.block 1<|Zr (Zm 26 24<|
 Zi 27 1 22 24<|
 Zl 28 1 27<|
 Zm 5 26<|
 Zm 6 28 .nil)<| .seq (Zr (Zm 29 6<|
 Zq 30 false 164 [.t 29]<|
 Zk 31 .gtr 30 0<|
 Zm 32 31<|
 Zg 32 true (.fld 33 1 (.t 1))<|
 Zg 32 true (.ld 34 1 false (.t 33))<|
 Zg 32 true (.mv 35 (.t 5))<|
 Zg 32 true (.idx 36 1 (.t 34) (.t 35))<|
 Zg 32 true (.ld 37 1 false (.t 36))<|
 Zg 32 true (.bin 38 .gtr false (.t 37) (.c (Zz 0)))<|
 Zo (.pick 39 (.t 32) (.t 38) (.c (.bool false))) .nil)<| .cond (.t 39) (Zr (Zf 40 0 3<|
 Zl 41 1 40<|
 Zm 42 6<|
 Zo (.bs 43 1 51 [.t 42])<|
 Zo (.app 44 1 24 51 (.t 41) (.t 43))<|
 Zf 45 0 3<|
 Zs 1 45 44 .nil)<|Zr (Zf 46 1 3<|
 Zl 47 1 46<|
 Zf 48 1 1<|
 Zl 49 1 48<|
 Zm 50 5<|
 Zi 51 1 49 50<|
 Zl 52 1 51<|
 Zo (.bs 53 1 3 [.t 52])<|
 Zo (.app 54 1 8 3 (.t 47) (.t 53))<|
 Zf 55 1 3<|
 Zs 1 55 54 .nil)<| .exit 1) .skip)<| .seq (Zr (Zm 56 6<|
 Zq 57 false 164 [.t 56]<|
 Zk 58 .neq 57 0 .nil)<| .cond (.t 58) (.exit 1) .skip)<|Zr (Zf 59 1 1<|
 Zl 60 1 59<|
 Zm 61 5<|
 Zi 62 1 60 61<|
 Zl 63 1 62<|
 Zc 64 0 .nil)<| .block 2<| .loop<|Zr (Zb 65 .lss 64 63 .nil)<| .seq (.cond (.t 65) .skip (.exit 2))<| .seq (.block 3<| .rg (Zh 67 3 4<|
 Zm 68 6<|
 Zo (.idx 69 4 (.t 68) (.c (Zz 0)))<|
 Zf 70 0 69<|
 Zh 71 3 70<|
 Zq 72 false 165 [.t 67,.t 71]<|
 Zm 66 72<|
 Zo (.ext 73 (.t 66) 0)<|
 Zo (.ext 74 (.t 66) 1)<|
 Zs 3 4 73 .nil))<| .rg (Zk 75 .add 64 1<|
 Zm 64 75 .nil))<| .rg (Zk 76 .add 24 1<|
 Zm 24 76 .nil))<| .seq (Zr (Zf 77 3 3<|
 Zl 78 1 77<|
 Zn 79 78<|
 Zc 80 0 .nil)<| .block 4<| .loop<|Zr (Zb 81 .lss 80 79 .nil)<| .seq (.cond (.t 81) .skip (.exit 4))<| .seq (.block 5<|Zr (Zm 82 80<|
 Zm 7 82 .nil)<| .rg (Zf 83 3 3<|
 Zl 84 1 83<|
 Zm 85 7<|
 Zf 86 3 3<|
 Zl 87 1 86<|
 Zm 88 7<|
 Zi 89 1 87 88<|
 Zl 90 1 89<|
 Zh 91 3 4<|
 Zq 92 true 166 [.t 90,.t 91]<|
 Zi 93 1 84 85<|
 Zs 1 93 92 .nil))<| .rg (Zk 94 .add 80 1<|
 Zm 80 94 .nil))<|Zr (Zh 95 4 3<|
 .wk<|Zs 4 2 95 .nil) .ret⟩
theorem Qank:Qe Tryz.prog Tryz.f87=some c87.strip:=by kernel_rfl
abbrev Q5n(k L:Nat)(n:Int):PV:= .rag [.mso 2000003 0 k,.mso 2000004 0 k,.int .i64 n,.mso 2000002 0 L]
theorem Qvy{fs:List (List Tm)}{ps:List Int}{n:Int}{cs:List (List Tm)}(hl:ps.length=fs.length)(hf:∀x∈fs.zip ps,Qo4 x)(hfl:fs.length<=8)(hc:∀c∈cs,Sm4 c)(hcl:cs.length<=8):
  Qd Tryz.prog 87 [PV.cert fs ps n cs] (· =PV.cert (Qdb (fs.zip ps)) (Qdc (fs.zip ps)) n (cs.map fun c=>Qal c (Qc1 (fs.zip ps)))):=by
 have hLl:(fs.zip ps).length=fs.length:=by rw[List.length_zip,hl,Nat.min_self]
 generalize hL:fs.zip ps=L at *
 refine Q81 Qk Tryz.func87 rfl Qank (by simp[c87]) fun C hP=> ?_;simp only[c87,Zo,Zg,Zm,Zc,Zf,Zl,Zh,Zs,Zi,Zb,Zk,Zn,Zu,Zq,Zr,Zz]
 simp+decide (disch:=first|exact D0|fail) only[go_sem,↓reduceIte]
 refine Qfx ?a ?b
 case' a=>
  simp+decide (disch:=first|exact D0|fail) only[go_sem,↓reduceIte]
  refine Qkc (Qtz 13 2000002 rfl (by omega) rfl (by omega)) ?_
  simp+decide (disch:=first|exact D0|fail) only[go_sem,↓reduceIte]
  refine Qkc (Qtz 3 2000001 rfl (by omega) rfl (by omega)) ?_
  simp+decide (disch:=first|exact D0|fail) only[go_sem,↓reduceIte]
  refine Qkc (Qzx (γ:=2000001) (e:=4) (ty:=79) (xs:=[.agg [.nilS,.nilS,.int .i64 0,.nilS]]) (fz:=false) T0 (by simp) (by omega) (fun x hx=>by rw[List.mem_singleton.1 hx];rfl)) ?_
 case' b=>
  simp+decide (disch:=first|exact D0|fail) only[go_sem,↓reduceIte]
  refine Qkc (Qtz 3 2000001 rfl (by omega) rfl (by omega)) ?_
  simp+decide (disch:=first|exact D0|fail) only[go_sem,↓reduceIte]
  refine Qkc (Qzx (γ:=2000001) (e:=4) (ty:=79) (xs:=[.agg [.nilS,.nilS,.int .i64 0,.nilS]]) (fz:=false) T0 (by simp) (by omega) (fun x hx=>by rw[List.mem_singleton.1 hx];rfl)) ?_
  simp+decide (disch:=first|exact D0|fail) only[go_sem,↓reduceIte]
  refine Qkc (Qtz 13 2000002 rfl (by omega) rfl (by omega)) ?_
  have hmv:rnP (mvN 13 2000002) (.nst 2000001 4 79 [.agg [.nilS,.nilS,.int .i64 0,.nilS]])= .nst 2000001 4 79 [.agg [.nilS,.nilS,.int .i64 0,.nilS]]:=rfl
  simp+decide (disch:=first|exact D1 hmv|fail) only[go_sem,↓reduceIte,hmv]
 all_goals
  first|simp+decide (disch:=first|exact D0|fail) only[go_sem,↓reduceIte]|skip
  refine Qkc (Q3a (γ:=2000001) (e:=4) (ty:=79) (cs:=[.nilS,.nilS,.int .i64 n,.mso 2000002 0 cs.length]) (cs':=[.mso 2000003 0 0,.nilS,.int .i64 n,.mso 2000002 0 cs.length]) 2000003 1 51 T0 Tr0 (by omega) (by omega) rfl (by simp)) ?_
  refine Qkc (Q3a (γ:=2000001) (e:=4) (ty:=79) (cs:=[.mso 2000003 0 0,.nilS,.int .i64 n,.mso 2000002 0 cs.length]) (cs':=[.mso 2000003 0 0,.mso 2000004 0 0,.int .i64 n,.mso 2000002 0 cs.length]) 2000004 1 3 T0 Tr0 (by omega) (by omega) rfl (by simp)) ?_
  simp+decide (disch:=first|exact D0|fail) only[go_sem,↓reduceIte]
  have hcp:(cs.map PV.poly).take cs.length++(List.replicate cs.length PV.nilS).drop (cs.map PV.poly).length=cs.map PV.poly:=by
   rw[List.take_of_length_le (by simp),List.drop_of_length_le (by simp),List.append_nil]
  rw[Qu2 (ty:=51) (xs:=List.replicate cs.length PV.nilS) T0 (by simp),hcp]
  simp+decide (disch:=first|exact D0|fail) only[go_sem,↓reduceIte]
  refine Qa hP Qae5 rfl rfl rfl ?_
  simp+decide (disch:=first|exact D0|fail) only[go_sem,↓reduceIte]
  refine Qld (by repeat (first|exact Qx|exact Qp|exact Qq|exact Qr|exact Qt|apply Qo|apply Qw|apply Q4|apply Qac|apply Qad|apply Qm|apply Q5)) [(3,3),(5,6),(24,76),(2000001,2000001)] [43,44,53,54] (fun q J hp=>∃i,q=fs.length-i/\i<=fs.length/\J 3= .np 2000001 0 0/\J 24= .int .i64 (i:Nat)/\J 2000001= .nst 2000001 4 79 [Q5n (Qdb (L.take i)).length cs.length n]/\hp 1=some ⟨4,79,[PV.cert fs ps n cs],false⟩/\hp 2=some ⟨4,79,[.agg [.nilS,.nilS,.int .i64 0,.nilS]],false⟩/\
    hp 4=some ⟨3,32,[PV.rat (Qc1 (L.take i))],false⟩/\hp 2000001=some ⟨4,79,[],false⟩/\hp 2000002=some ⟨1,51,cs.map PV.poly,false⟩/\hp 2000003=some ⟨1,51,(Qdb (L.take i)).map PV.poly,false⟩/\hp 2000004=some ⟨1,3,Qeh (Qdc (L.take i)),false⟩) fs.length ?_ ?_
  ·refine⟨0,rfl,by omega,?_⟩
   simp+decide (disch:=first|exact D0|fail) only[go_sem,↓reduceIte]
   exact⟨rfl,rfl,rfl,rfl,rfl⟩
  rintro _ J h ⟨i,rfl,hi,j3,j24,jn,b1,b2,b4,h1,h2,h3,h4⟩
  simp+decide (disch:=first|exact D1 j24|fail) only[go_sem,↓reduceIte,j24]
  refine Qb (fun hg=> ?_) (fun hg=> ?_)
  ·have hi':i<fs.length:=by omega
   have hip:i<ps.length:=by omega
   have hiL:i<L.length:=by omega
   have eL:L[i]=(fs[i],ps[i]):=by subst hL;exact List.getElem_zip
   have hFI:=hf _ (List.getElem_mem hiL)
   have e1:=Quk hiL
   have e2:=Qul hiL
   have e3:=Qkj hiL
   obtain⟨r1,r2⟩:=Qsr hf i (by omega)
   obtain⟨k1,k2⟩:=Qo3 (L.take i)
   rw[List.length_take]at k2
   rw[eL]at hFI e1 e2 e3
   obtain⟨g1,g2,g3,g4⟩:=hFI
   simp only at g1 g2 g3 g4 e1 e2 e3
   generalize Qdb (L.take i)=A at *
   generalize Qdc (L.take i)=B at *
   generalize Qc1 (L.take i)=s at *
   generalize hx:fs[i]=x at *
   generalize hy:ps[i]=y at *
   have hdeg:=Qx0 (p:=x) (K:=3) (E:=4) g1.b (by omega) (by have:=g1.l;omega)
   simp+decide (disch:=first|exact D2 j24 hx|fail) only[go_sem,↓reduceIte,j24,hx]
   refine Qa hP hdeg rfl rfl rfl ?_
   simp+decide (disch:=first|exact D2 j24 hx|fail) only[go_sem,↓reduceIte,j24,hx]
   refine Qan (fun hd=> ?_) (fun hd=> ?_)
   ·simp+decide (disch:=first|exact D3 j24 b1 hy|fail) only[go_sem,↓reduceIte,j24,b1,hy]
    refine Qb (fun hn=> ?_) (fun hn=> ?_)
    ·have hk:Qfe (x,y)=true:=by unfold Qfe;rw[decide_eq_true hd,decide_eq_true hn];rfl
     rw[hk]at e1 e2
     have e3':Qc1 (L.take (i+1))=s:=by rw[e3,Qel,if_neg (by simp only;omega)]
     simp+decide (disch:=first|exact D10 j3 j24 jn b1 h1 h2 h3 h4 hx hy|fail) only[go_sem,↓reduceIte,j3,j24,jn,b1,h1,h2,h3,h4,hx,hy]
     rw[Qml (f:=PV.poly) (y:=x) (xs:=A) (ty':=51) (fz:=false) (T1 h3) Tr0 (by omega) rfl (by omega) (by omega) (by omega)]
     simp+decide (disch:=first|exact D10 j3 j24 jn b1 h1 h2 h3 h4 hx hy|fail) only[go_sem,↓reduceIte,j3,j24,jn,b1,h1,h2,h3,h4,hx,hy]
     rw[Qml (f:=fun(x:Int)=>PV.int .i64 x) (y:=y) (xs:=B) (ty':=3) (fz:=false) (T1 h4) Tr0 (by omega) k1.symm (by omega) (by omega) (by omega)]
     simp+decide (disch:=first|exact D8 j3 j24 jn b1 h1 h2 h3 h4|fail) only[go_sem,↓reduceIte,j3,j24,jn,b1,h1,h2,h3,h4]
     refine Qfu (fs.length-(i+1)) (by omega) ⟨i+1,rfl,by omega,?_⟩
     simp+decide (disch:=first|exact D6 j3 b1 b2 b4 h1 h2|fail) only[go_sem,↓reduceIte,j3,b1,b2,b4,h1,h2]
     rw[e3']
     simp only[e1,e2,List.length_append,List.length_singleton,if_true]
     exact⟨trivial,trivial,trivial,trivial⟩
    ·have hk:Qfe (x,y)=false:=by unfold Qfe;rw[decide_eq_false hn,Bool.and_false]
     simp+decide (disch:=first|exact D1 j24|fail) only[go_sem,↓reduceIte,j24]
     refine Qa hP hdeg rfl rfl rfl ?_
     simp+decide (disch:=first|exact D1 j24|fail) only[go_sem,↓reduceIte,j24]
     refine Qb (fun hz=> ?_) (fun hz=>absurd hd (by omega))
     have e3':Qc1 (L.take (i+1))=s:=by rw[e3,Qel,if_neg (by simp only;omega)]
     rw[hk]at e1 e2
     simp only[Bool.false_eq_true,if_false,List.append_nil]at e1 e2
     simp+decide (disch:=first|exact D1 j24|fail) only[go_sem,↓reduceIte,j24]
     refine Qfu (fs.length-(i+1)) (by omega) ⟨i+1,rfl,by omega,?_⟩
     rw[e1,e2,e3']
     simp+decide (disch:=first|exact D9 j3 jn b1 b2 b4 h1 h2 h3 h4|fail) only[go_sem,↓reduceIte,j3,jn,b1,b2,b4,h1,h2,h3,h4]
   ·have hk:Qfe (x,y)=false:=by unfold Qfe;rw[decide_eq_false hd,Bool.false_and]
    simp+decide (disch:=first|exact D1 j24|fail) only[go_sem,↓reduceIte,j24]
    refine Qa hP hdeg rfl rfl rfl ?_
    simp+decide (disch:=first|exact D1 j24|fail) only[go_sem,↓reduceIte,j24]
    refine Qb (fun hz=> ?_) (fun hz=> ?_)
    ·
     have e3':Qc1 (L.take (i+1))=s:=by rw[e3,Qel,if_neg (by simp only;omega)]
     rw[hk]at e1 e2
     simp only[Bool.false_eq_true,if_false,List.append_nil]at e1 e2
     simp+decide (disch:=first|exact D1 j24|fail) only[go_sem,↓reduceIte,j24]
     refine Qfu (fs.length-(i+1)) (by omega) ⟨i+1,rfl,by omega,?_⟩
     rw[e1,e2,e3']
     simp+decide (disch:=first|exact D9 j3 jn b1 b2 b4 h1 h2 h3 h4|fail) only[go_sem,↓reduceIte,j3,jn,b1,b2,b4,h1,h2,h3,h4]
    ·obtain⟨k,rfl⟩:∃k:Nat,y=k:=⟨y.toNat,by omega⟩
     have hz0:Qcl x=0:=by omega
     rw[hk]at e1 e2
     simp only[Bool.false_eq_true,if_false,List.append_nil]at e1 e2
     rw[Qel,if_pos hz0]at e3
     simp only[Int.toNat_natCast]at e3
     have hxl:0<x.length:=List.length_pos_iff.2 g2
     have hxh:=Qm8 hxl
     have hxm:=Qau g2
     have hxz:=g1.n.z _ hxm
     have hxc:=(g1.b _ hxm).c
     simp+decide (disch:=first|exact D3 j24 b1 hy|fail) only[go_sem,↓reduceIte,j24,b1,hy]
     refine Qld (by repeat (first|exact Qx|exact Qp|exact Qq|exact Qr|exact Qt|apply Qo|apply Qw|apply Q4|apply Qac|apply Qad|apply Qm|apply Q5)) [(3,3),(64,75),(2000001,2000001)] [] (fun q J hp=>∃r,q=k-r/\r<=k/\J 3= .np 2000001 0 0/\J 64= .int .i64 (r:Nat)/\J 2000001= .nst 2000001 4 79 [Q5n A.length cs.length n]/\hp 1=some ⟨4,79,[PV.cert fs ps n cs],false⟩/\hp 2=some ⟨4,79,[.agg [.nilS,.nilS,.int .i64 0,.nilS]],false⟩/\
       hp 4=some ⟨3,32,[PV.rat (Qg5 s (hdT x).1 r)],false⟩/\hp 2000001=some ⟨4,79,[],false⟩/\hp 2000002=some ⟨1,51,cs.map PV.poly,false⟩/\hp 2000003=some ⟨1,51,A.map PV.poly,false⟩/\hp 2000004=some ⟨1,3,Qeh B,false⟩) k ?_ ?_
     ·refine⟨0,rfl,by omega,?_⟩
      simp+decide (disch:=first|exact D9 j3 jn b1 b2 b4 h1 h2 h3 h4|fail) only[go_sem,↓reduceIte,j3,jn,b1,b2,b4,h1,h2,h3,h4]
      exact⟨rfl,rfl⟩
     rintro _ J1 h' ⟨r,rfl,hr,i3,i64,inn,c1,c2,c4,q1,q2,q3,q4⟩
     simp+decide (disch:=first|exact D1 i64|fail) only[go_sem,↓reduceIte,i64]
     refine Qb (fun hg2=> ?_) (fun hg2=> ?_)
     ·have hr':r<k:=by omega
      have hrd:=Qvx (s:=s) hxz (b:=2) (by omega) r
      have hrm:r*2<=8:=by omega
      have hD:=Qae6 (a:=Qg5 s (hdT x).1 r) (b:=(hdT x).1) (k:=100) (by omega) (by omega) (by omega) hxz
      simp+decide (disch:=first|omega|rfl|(simp+decide only[go_sem,↓reduceIte,i64,c4,hxh]<;>rfl)|fail) only[go_sem,↓reduceIte,i64,c4,hxh]
      refine Qa hP hD rfl rfl rfl ?_
      simp+decide (disch:=first|omega|rfl|(simp+decide only[go_sem,↓reduceIte,i64,c4]<;>rfl)|fail) only[go_sem,↓reduceIte,i64,c4]
      refine Qfu (k-(r+1)) (by omega) ⟨r+1,rfl,by omega,?_⟩
      simp+decide (disch:=first|omega|rfl|(simp+decide only[go_sem,↓reduceIte,i3,inn,c1,c2,c4,q1,q2,q3,q4]<;>rfl)|fail) only[go_sem,↓reduceIte,i3,inn,c1,c2,c4,q1,q2,q3,q4]
      rfl
     ·obtain rfl:r=k:=by omega
      simp (disch:=decide) only[Quj,Q11,Qir,Q5k]
      simp+decide (disch:=first|exact D1 j24|fail) only[go_sem,↓reduceIte,j24]
      refine Qfu (fs.length-(i+1)) (by omega) ⟨i+1,rfl,by omega,?_⟩
      rw[e1,e2,e3]
      simp+decide (disch:=first|omega|rfl|(simp+decide only[go_sem,↓reduceIte,i3,inn,c1,c2,c4,q1,q2,q3,q4]<;>rfl)|fail) only[go_sem,↓reduceIte,i3,inn,c1,c2,c4,q1,q2,q3,q4]
  ·obtain rfl:i=fs.length:=by omega
   obtain⟨r1,r2⟩:=Qsr hf fs.length (by omega)
   rw[<-hLl,List.take_length]at jn h3 h4 b4 r1
   rw[hLl]at r1
   obtain⟨k1,k2⟩:=Qo3 L
   have hsc:∀j (h:j<cs.length),Qd Tryz.prog 166 [PV.poly cs[j],PV.rat (Qc1 L)] (· =PV.poly (Qal cs[j] (Qc1 L))):=fun j h=>Qp2 (K:=100) (E:=4) ((hc _ (List.getElem_mem h)).b.mono (by omega) (by omega)) (by omega) (by omega) (by omega) (by have:=(hc _ (List.getElem_mem h)).l;omega)
   generalize Qdb L=A at *
   generalize Qdc L=B at *
   generalize Qc1 L=s at *
   simp+decide (disch:=first|exact D4 j3 jn h1 h2|fail) only[go_sem,↓reduceIte,j3,jn,h1,h2]
   refine Qld (by repeat (first|exact Qx|exact Qp|exact Qq|exact Qr|exact Qt|apply Qo|apply Qw|apply Q4|apply Qac|apply Qad|apply Qm|apply Q5)) [(3,3),(7,7),(80,94),(2000001,2000001)] [] (fun q J hp=>∃(i:Nat)(M:List (List Tm)),q=cs.length-i/\i<=cs.length/\M.length=cs.length/\(∀j (h:j<cs.length) (h2:j<M.length),M[j]=if j<i then Qal cs[j] s else cs[j])/\J 3= .np 2000001 0 0/\J 80= .int .i64 (i:Nat)/\J 2000001= .nst 2000001 4 79 [Q5n A.length cs.length n]/\hp 2=some ⟨4,79,[.agg [.nilS,.nilS,.int .i64 0,.nilS]],false⟩/\
     hp 4=some ⟨3,32,[PV.rat s],false⟩/\hp 2000001=some ⟨4,79,[],false⟩/\hp 2000002=some ⟨1,51,M.map PV.poly,false⟩/\hp 2000003=some ⟨1,51,A.map PV.poly,false⟩/\hp 2000004=some ⟨1,3,Qeh B,false⟩) cs.length ?_ ?_
   ·refine⟨0,cs,rfl,by omega,rfl,fun j h h2=>by rw[if_neg (Nat.not_lt_zero j)],?_⟩
    simp+decide (disch:=first|exact D9 j3 jn b1 b2 b4 h1 h2 h3 h4|fail) only[go_sem,↓reduceIte,j3,jn,b1,b2,b4,h1,h2,h3,h4]
    rfl
   rintro _ J2 h' ⟨i,M,rfl,hi,hMl,hM,i3,i80,inn,c2,c4,q1,q2,q3,q4⟩
   simp+decide (disch:=first|exact D1 i80|fail) only[go_sem,↓reduceIte,i80]
   refine Qb (fun hg2=> ?_) (fun hg2=> ?_)
   ·have hi':i<cs.length:=by omega
    have hiM:i<M.length:=by omega
    have hc1:=hsc i hi'
    have hMi:=hM i hi' hiM
    rw[if_neg (Nat.lt_irrefl i)]at hMi
    rw[<-hMi]at hc1
    simp+decide (disch:=first|omega|rfl|(simp+decide only[go_sem,↓reduceIte,i3,i80,inn,q1,q2,c4]<;>rfl)|fail) only[go_sem,↓reduceIte,i3,i80,inn,q1,q2,c4]
    rw[Qajr hiM]
    simp+decide (disch:=first|omega|rfl|(simp+decide only[go_sem,↓reduceIte,i3,i80,inn,q1,q2,c4]<;>rfl)|fail) only[go_sem,↓reduceIte,i3,i80,inn,q1,q2,c4]
    refine Qa hP hc1 rfl rfl rfl ?_
    simp+decide (disch:=first|omega|rfl|(simp+decide only[go_sem,↓reduceIte,i3,i80,inn,q1,q2,c4]<;>rfl)|fail) only[go_sem,↓reduceIte,i3,i80,inn,q1,q2,c4]
    rw[Qajs hiM]
    simp+decide (disch:=first|exact D1 i80|fail) only[go_sem,↓reduceIte,i80]
    refine Qfu (cs.length-(i+1)) (by omega) ⟨i+1,M.set i (Qal M[i] s),rfl,by omega,by simp[hMl],fun j h h2=> ?_,?_⟩
    ·rw[List.getElem_set]
     by_cases e:i=j
     ·subst e;rw[if_pos rfl,if_pos (by omega),hMi]
     ·rw[if_neg e,hM j h (by simpa using h2)]
      by_cases e2:j<i
      ·rw[if_pos e2,if_pos (by omega)]
      ·rw[if_neg e2,if_neg (by omega)]
    ·simp+decide (disch:=first|omega|rfl|(simp+decide only[go_sem,↓reduceIte,i3,inn,c2,c4,q1,q2,q3,q4]<;>rfl)|fail) only[go_sem,↓reduceIte,i3,inn,c2,c4,q1,q2,q3,q4]
   ·obtain rfl:i=cs.length:=by omega
    have hMe:M=cs.map fun c=>Qal c s:=List.ext_getElem (by simp[hMl]) fun j h h2=>by
     rw[hM j (by omega) h,if_pos (by omega),List.getElem_map]
    simp+decide (disch:=first|exact D3 i3 inn q1|fail) only[go_sem,↓reduceIte,i3,inn,q1]
    refine Q3b 95 2 [2000003,2000004,2000002] (p:=Q5n A.length cs.length n) T0 (D:=PV.cert A B n (cs.map fun c=>Qal c s)) ?_ ?_ rfl ?_
    ·intro c hc
     simp only[List.mem_cons,List.not_mem_nil,or_false]at hc
     rcases hc with rfl|rfl|rfl|rfl
     ·simp only[okD,isY];simp
     ·simp only[okD,isY];simp
     ·trivial
     ·simp only[okD,isY];simp
    ·show PV.agg [dsn _ h' 2 (.mso 2000003 0 _),dsn _ h' 2 (.mso 2000004 0 _),_,dsn _ h' 2 (.mso 2000002 0 _)]=_
     simp only[dsn,q2,q3,q4,List.drop_zero]
     rw[List.take_of_length_le (by simp),List.take_of_length_le (by simp;omega),List.take_of_length_le (by simp;omega),hMe]
    simp+decide (disch:=first|exact E1 c2|fail) only[go_sem,↓reduceIte,c2,Q7,List.contains_cons,List.contains_nil,List.flatMap_cons,List.flatMap_nil,List.append_nil]
    refine Qfl (Wk.refl _ _) ?_
    refine Qbc ?_
    simp+decide (disch:=first|exact D0|fail) only[go_sem,↓reduceIte]
    exact Qc rfl rfl
end Go.Proofs.YtonfajmchebkeaaGreat
namespace Go.FW
open Go
set_option maxRecDepth 100000
theorem Q0v:∀(a:List Int),(∀x∈a,0<=x)->a.sum<=0->∀x∈a,x=0
 | [],_,_,x,hx=>by cases hx
 | y::a,h,hs,x,hx=>by
  have h1:=h y (List.mem_cons_self ..)
  have hpos:∀l:List Int,(∀x∈l,0<=x)->0<=l.sum:=fun l=>by
   induction l with
   |nil=>intro _;simp
   |cons z l ih=>
    intro h
    have h1:=h z (by simp)
    have h2:=ih fun x hx=>h x (List.mem_cons_of_mem _ hx)
    rw[List.sum_cons];omega
  have h2:=hpos a fun x hx=>h x (List.mem_cons_of_mem _ hx)
  rw[List.sum_cons]at hs
  rcases List.mem_cons.1 hx with rfl|hx
  ·omega
  ·exact Q0v a (fun x hx=>h x (List.mem_cons_of_mem _ hx)) (by omega) x hx
theorem Cf.mb{j:Nat}{p:List Tm}(h:Cf j p):∀t∈p,MB 6560 t.2:=fun t ht=>by
 have h1:=h.w t ht
 refine⟨by have:=h.ml t ht;omega,fun x hx=> ?_,fun x hx=> ?_⟩
 all_goals
  obtain⟨i,hi,rfl⟩:=List.getElem_of_mem hx
  have hp:=h.pos t ht i
  rw[Qc0 hi]at hp
 ·exact hp
 ·have hl:=h.ml t ht
  have c0:=h.pos t ht 0;have c1:=h.pos t ht 1;have c2:=h.pos t ht 2;have c3:=h.pos t ht 3
  simp only[psi]at h1
  rw[<-Qc0 hi]
  rw[<-Qc0 hi]at hp
  have:i=0∨i=1∨i=2∨i=3:=by omega
  rcases this with rfl|rfl|rfl|rfl<;>omega
theorem Cf.pb{j:Nat}{p:List Tm}(h:Cf j p)(hj:j<=20):FW.PB 1073741824 1048576 p/\p.length<=8589934592:=by
 obtain⟨D,N,h1,h2,h3,h4,h5,h6⟩:=h.d
 refine⟨fun t ht=>⟨?_,(h.mb t ht).mono (by omega),h.n.c t ht⟩,?_⟩
 ·have hr:=Q0n h1 h2 h5 h6 ht
  have e:=Qb1 N D
  omega
 ·by_cases h0:p=[]
  ·subst h0;simp
  ·have g1:=Quf h.w h.pos h.ml h.n.s h0
   have g2:=Q5a (h.w _ (Qau h0))
   omega
theorem Qaer{p:List Tm}{K E:Nat}(np:Nrm p)(bp:PB K E p)(h0:p≠[])(hd:Qcl p=0):p=[((hdT p).1,[])]:=by
 have key:∀t∈p,t.2=[]:=fun t ht=>by
  have h1:=(Qhl p).1 t ht
  have hm:=(bp t ht).m
  have hl:=(bp t ht).l
  have hs:=Q0v t.2 hm.lo (by unfold Qa3 at h1;omega)
  cases hl2:t.2.getLast? with
  |none=>exact List.getLast?_eq_none_iff.1 hl2
  |some x=>exact absurd (by rw[hl2,hs x (List.mem_of_getLast? hl2)]) hl
 cases p with
 |nil=>exact absurd rfl h0
 | cons t p=>
  cases p with
  |nil=>
   have:=key t (by simp)
   show [t]=[(t.1,[])]
   rw[<-this]
  |cons s p=>
   have h1:=np.s.1 s (by simp)
   rw[key t (by simp),key s (by simp)]at h1
   exact absurd h1 (by decide)
def Qd9(ps:List Int):Nat:=(ps.map Int.toNat).sum
theorem Qec(x:Int)(l:List Int):Qd9 (x::l)=x.toNat+Qd9 l:=by simp[Qd9]
theorem Qi1:∀ {ps:List Int} {i:Nat} (h:i<ps.length),1<=ps[i]->Qd9 (ps.set i (ps[i]-1))+1=Qd9 ps
 |x::l,0,_,hx=>by
  simp only[List.getElem_cons_zero]at hx⊢
  rw[List.set_cons_zero,Qec,Qec];omega
 |x::l,i+1,h,hx=>by
  simp only[List.getElem_cons_succ]at hx⊢
  rw[List.set_cons_succ,Qec,Qec]
  have:=Qi1 (ps:=l) (i:=i) (by simpa using h) hx
  omega
theorem Qkk:∀ {ps:List Int} (i:Nat),Qd9 (ps.eraseIdx i)<=Qd9 ps
 | [],_=>by simp
 |x::l,0=>by rw[List.eraseIdx_cons_zero,Qec];omega
 |x::l,i+1=>by
  rw[List.eraseIdx_cons_succ,Qec,Qec]
  have:=Qkk (ps:=l) i
  omega
theorem Cf.const{j:Nat}{p f:List Tm}(hp:Cf j p)(hf:Sm4 f)(h0:f≠[])(hd:Qcl f=0)(hj:j<=16):exO f p=some (Qal p (1/(hdT f).1))/\Cf (j+1) (Qal p (1/(hdT f).1)):=by
 have e:=Qaer hf.n hf.b h0 hd
 have hz:=hf.n.z _ (Qau h0)
 have h1:=Q9b hp.n hp.mb hz
 rw[<-e]at h1
 exact⟨h1,Q8z hp hf h0 hj h1⟩
theorem Qxd{j:Nat}{f:List Tm}(hf:Sm4 f)(h0:f≠[])(hd:Qcl f=0)(hj:j<=16){s:Rat}:∀ {l:List (List Tm)},(∀c∈l,Nrm c/\Cf j (Qal c s))->
  exL f (l.map fun c=>Qal c s)=some (l.map fun c=>Qal c (s/(hdT f).1))/\∀c∈l,Cf (j+1) (Qal c (s/(hdT f).1))
 | [],_=>⟨rfl,by simp⟩
 |c::l,h=>by
  obtain⟨n1,h1⟩:=h c (List.mem_cons_self ..)
  obtain⟨h2,h3⟩:=Qxd hf h0 hd hj (l:=l) fun x hx=>h x (List.mem_cons_of_mem _ hx)
  obtain⟨h4,h5⟩:=h1.const hf h0 hd hj
  rw[Qlj n1,show s*(1/(hdT f).1)=s/(hdT f).1 by grind]at h4 h5
  refine⟨by simp[exL,h4,h2],fun x hx=> ?_⟩
  rcases List.mem_cons.1 hx with rfl|hx
  ·exact h5
  ·exact h3 x hx
theorem Qvz{f c:List Tm}{j:Nat}{s:Rat}(hf:Sm4 f)(h0:f≠[])(hd:Qcl f=0)(nc:Nrm c)(h1:Cf j (Qal c s)):∀k,j+k<=17->Cf (j+k) (Qal c (Qg5 s (hdT f).1 k))
 |0,_=>h1
 |k+1,hk=>by
  have:=(Qvz hf h0 hd nc h1 k (by omega)).const hf h0 hd (by omega)
  rw[Qlj nc,show Qg5 s (hdT f).1 k*(1/(hdT f).1)=Qg5 s (hdT f).1 k/(hdT f).1 by grind]at this
  exact this.2
def Qqa(x:List Tm×Int):Nat:=if Qcl x.1=0 then x.2.toNat else 0
def cnt(l:List (List Tm×Int)):Nat:=(l.map Qqa).sum
theorem Q0w{l:List (List Tm×Int)}{i:Nat}(h:i<l.length):cnt (l.take (i+1))=cnt (l.take i)+Qqa l[i]:=by
 unfold cnt
 rw[List.take_succ_eq_append_getElem h,List.map_append]
 simp
theorem Qss:∀l:List (List Tm×Int),cnt l+Qd9 (Qdc l)<=Qd9 (l.map (·.2))
 | []=>by simp[cnt,Qdc,Qd9]
 | x::l=>by
  have ih:=Qss l
  have hc:Qqa x<=x.2.toNat:=by unfold Qqa;split<;>omega
  have hk:Qfe x=true->Qqa x=0:=fun hk=>by
   unfold Qfe at hk
   simp only[Bool.and_eq_true,decide_eq_true_eq]at hk
   unfold Qqa
   rw[if_neg (by omega)]
  unfold cnt Qdc at *
  rw[List.map_cons,List.map_cons,List.sum_cons,Qec,List.filter_cons]
  by_cases h:Qfe x=true
  ·rw[if_pos h,List.map_cons,Qec,hk h];omega
  ·rw[if_neg h];omega
theorem Q9d(l:List (List Tm×Int))(i:Nat):cnt (l.take i)<=cnt l:=by
 have:∀(a b:List (List Tm×Int)),cnt a<=cnt (a++b):=fun a b=>by simp[cnt]
 have h2:=this (l.take i) (l.drop i)
 rwa[List.take_append_drop]at h2
theorem Qv0{l:List (List Tm×Int)}(hl:∀x∈l,Qo4 x)(h16:cnt l<=16){c:List Tm}(hc:Sm4 c):∀i,i<=l.length->Cf (cnt (l.take i)) (Qal c (Qc1 (l.take i)))
 |0,_=>by
  rw[List.take_zero]
  show Cf 0 (Qal c 1)
  rw[Qo0 hc.n];exact hc.cf
 | i+1,h=>by
  have hi:i<l.length:=by omega
  have h1:=Qv0 hl h16 hc i (by omega)
  have hs:=Q0w hi
  have hle:=Q9d l (i+1)
  obtain⟨g1,g2,g3,g4⟩:=hl _ (List.getElem_mem hi)
  rw[hs]at hle⊢
  rw[Qkj hi,Qel]
  unfold Qqa at hle⊢
  split
  ·rename_i hd
   rw[if_pos hd]at hle
   exact Qvz g1 g2 hd hc.n h1 _ (by omega)
  ·exact h1
structure Mn(fs:List (List Tm))(ps:List Int)(cs:List (List Tm))(j:Nat):Prop where
 f:∀f∈fs,Sm4 f/\f≠[]
 p:∀x∈ps,0<=x/\x<=4
 l:ps.length=fs.length
 c:∀c∈cs,Cf j c
 s:j+Qd9 ps<=16
 fl:fs.length<=8
 cl:cs.length<=8
theorem Qaes{ps:List Int}{i:Nat}(h:i<ps.length)(h1:1<=ps[i]):1<=Qd9 ps:=by have:=Qi1 h h1;omega
theorem Mn.cut{fs:List (List Tm)}{ps:List Int}{cs r:List (List Tm)}{j i:Nat}(h:Mn fs ps cs j)(hi:i<fs.length)(hi2:i<ps.length)(h1:1<=ps[i])(he:exL fs[i] cs=some r):Mn fs (ps.set i (ps[i]-1)) r (j+1):=by
 obtain⟨g1,g2⟩:=h.f _ (List.getElem_mem hi)
 have hj:=h.s
 have h2:=Qi1 hi2 h1
 have h3:=Qaes hi2 h1
 refine⟨h.f,fun x hx=> ?_,by rw[List.length_set];exact h.l,Q80 g1 g2 (by omega) h.c he,by omega,h.fl,by rw[Qkt he];exact h.cl⟩
 obtain⟨k,hk,rfl⟩:=List.getElem_of_mem hx
 rw[List.getElem_set]
 have h4:=h.p _ (List.getElem_mem hi2)
 split
 ·omega
 ·exact h.p _ (List.getElem_mem _)
theorem Mn.erase{fs:List (List Tm)}{ps:List Int}{cs:List (List Tm)}{j i:Nat}(h:Mn fs ps cs j)(hi:i<fs.length):Mn (fs.eraseIdx i) (ps.eraseIdx i) cs j:=by
 refine⟨fun f hf=>h.f f (List.mem_of_mem_eraseIdx hf),fun x hx=>h.p x (List.mem_of_mem_eraseIdx hx),?_,h.c,?_,?_,h.cl⟩
 ·rw[List.length_eraseIdx,List.length_eraseIdx,h.l]
 ·have:=Qkk (ps:=ps) i
  have:=h.s
  omega
 ·have:=h.fl
  rw[List.length_eraseIdx];split<;>omega
theorem Q3d{fs:List (List Tm)}{ps:List Int}{cs:List (List Tm)}(hl:ps.length=fs.length)(hf:∀x∈fs.zip ps,Qo4 x)(hfl:fs.length<=8)(hc:∀c∈cs,Sm4 c)(hcl:cs.length<=8)(h16:Qd9 ps<=16):Mn (Qdb (fs.zip ps)) (Qdc (fs.zip ps)) (cs.map fun c=>Qal c (Qc1 (fs.zip ps))) (cnt (fs.zip ps)):=by
 have hLl:(fs.zip ps).length=fs.length:=by rw[List.length_zip,hl,Nat.min_self]
 have hLp:(fs.zip ps).map (·.2)=ps:=List.map_snd_zip (by omega)
 generalize fs.zip ps=L at *
 obtain⟨k1,k2⟩:=Qo3 L
 have h1:=Qss L
 rw[hLp]at h1
 refine⟨fun f h=> ?_,fun x h=> ?_,k1,fun c h=> ?_,by omega,by omega,by rw[List.length_map];exact hcl⟩
 ·obtain⟨x,hx,rfl⟩:=List.mem_map.1 h
  have:=hf x (List.mem_filter.1 hx).1
  exact⟨this.1,this.2.1⟩
 ·obtain⟨x,hx,rfl⟩:=List.mem_map.1 h
  have:=hf x (List.mem_filter.1 hx).1
  exact this.2.2
 ·obtain⟨c,hc',rfl⟩:=List.mem_map.1 h
  have:=Qv0 hf (by omega) (hc c hc') L.length (Nat.le_refl _)
  rwa[List.take_length]at this
inductive Qet:List (List Tm)->List Int->List (List Tm)->Nat->List (List Tm)->List Int->List (List Tm)->Prop
 |done {fs:List (List Tm)} {ps:List Int} {cs:List (List Tm)} {i:Nat}:fs.length<=i->Qet fs ps cs i fs ps cs
 |skip {fs:List (List Tm)} {ps:List Int} {cs:List (List Tm)} {i:Nat} {fs':List (List Tm)} {ps':List Int} {cs':List (List Tm)} (h:i<fs.length) (h2:i<ps.length):(ps[i]<1∨exL fs[i] cs=none)->Qet fs ps cs (i+1) fs' ps' cs'->Qet fs ps cs i fs' ps' cs'
 |cut {fs:List (List Tm)} {ps:List Int} {cs:List (List Tm)} {i:Nat} {r:List (List Tm)} {fs':List (List Tm)} {ps':List Int} {cs':List (List Tm)} (h:i<fs.length) (h2:i<ps.length):1<=ps[i]->exL fs[i] cs=some r->ps[i]≠1->Qet fs (ps.set i (ps[i]-1)) r 0 fs' ps' cs'->Qet fs ps cs i fs' ps' cs'
 |drop {fs:List (List Tm)} {ps:List Int} {cs:List (List Tm)} {i:Nat} {r:List (List Tm)} {fs':List (List Tm)} {ps':List Int} {cs':List (List Tm)} (h:i<fs.length) (h2:i<ps.length):1<=ps[i]->exL fs[i] cs=some r->ps[i]=1->Qet (fs.eraseIdx i) ((ps.set i (ps[i]-1)).eraseIdx i) r 0 fs' ps' cs'->Qet fs ps cs i fs' ps' cs'
theorem Qet.mn{fs:List (List Tm)}{ps:List Int}{cs:List (List Tm)}{i:Nat}{fs':List (List Tm)}{ps':List Int}{cs':List (List Tm)}(h:Qet fs ps cs i fs' ps' cs'):∀ {j:Nat},Mn fs ps cs j->∃j',Mn fs' ps' cs' j':=by
 induction h with
 |done _=>exact fun h=>⟨_,h⟩
 |skip _ _ _ _ ih=>exact ih
 |cut h1 h2 h3 h4 _ _ ih=>exact fun h=>ih (h.cut h1 h2 h3 h4)
 |drop h1 h2 h3 h4 _ _ ih=>exact fun h=>ih ((h.cut h1 h2 h3 h4).erase h1)
theorem Q3e:∀ {ps:List Int},(∀x∈ps,x<=4)->Qd9 ps<=4*ps.length
 | [],_=>by simp[Qd9]
 |x::l,h=>by
  have h1:=h x (List.mem_cons_self ..)
  have h2:=Q3e (ps:=l) fun y hy=>h y (List.mem_cons_of_mem _ hy)
  rw[Qec,List.length_cons];omega
theorem Qum:∀(n:Nat) {fs:List (List Tm)} {ps:List Int} {cs:List (List Tm)} {j i:Nat},Mn fs ps cs j->Qd9 ps*16+(fs.length-i)<=n->∃fs' ps' cs',Qet fs ps cs i fs' ps' cs'
 | n, fs,ps,cs,j,i,hm,hn=>by
  by_cases hi:i<fs.length
  ·have hi2:i<ps.length:=by have:=hm.l;omega
   have hfl:=hm.fl
   obtain⟨n,rfl⟩:∃m,n=m+1:=⟨n-1,by omega⟩
   have skip:(ps[i]<1∨exL fs[i] cs=none)->∃fs' ps' cs',Qet fs ps cs i fs' ps' cs':=fun h=>by
    obtain⟨a,b,c,h1⟩:=Qum n (i:=i+1) hm (by omega)
    exact⟨a,b,c,.skip hi hi2 h h1⟩
   by_cases h1:1<=ps[i]
   ·cases he:exL fs[i] cs with
    |none=>exact skip (.inr he)
    | some r=>
     have h2:=hm.cut hi hi2 h1 he
     have h3:=Qi1 hi2 h1
     by_cases h4:ps[i]=1
     ·obtain⟨a,b,c,h5⟩:=Qum n (i:=0) (h2.erase hi) (by
       have:=Qkk (ps:=ps.set i (ps[i]-1)) i
       have:(fs.eraseIdx i).length<=fs.length:=by rw[List.length_eraseIdx];split<;>omega
       omega)
      exact⟨a,b,c,.drop hi hi2 h1 he h4 h5⟩
     ·obtain⟨a,b,c,h5⟩:=Qum n (i:=0) h2 (by omega)
      exact⟨a,b,c,.cut hi hi2 h1 he h4 h5⟩
   ·exact skip (.inl (by omega))
  ·exact⟨fs,ps,cs,.done (by omega)⟩
end Go.FW
