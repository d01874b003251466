/- Part 15 of the proof of SquaresGrams: Q8, Q9, FwVG. Own lemmas; no conditions. -/
import Derived.Test.YtkoclfmjlolkhaaGreatSquaresGramsPart14
set_option linter.unusedSimpArgs false
set_option linter.unusedVariables false
set_option linter.unnecessarySimpa false
set_option maxRecDepth 100000
namespace Go.Proofs.YtkoclfmjlolkhaaGreat
open Go Go.FW
def c73:SFn:=⟨28,[.t 2],Zr (Zo (.mv 2 (.c .nilS)) .nil)<|Zr (Zo (.mv 3 (.c .nilS)) .nil)<| .seq (Zr (Zm 7 0<|
 Zq 8 false 44 [.t 7]<|
 Zn 9 8<|
 Zc 10 0 .nil)<| .block 0<| .loop<|Zr (Zb 11 .lss 10 9 .nil)<| .seq (.cond (.t 11) .skip (.exit 0))<| .seq (.block 1<|Zr (Zi 12 1 8 10<|
 Zl 13 1 12<|
 Zm 5 13 .nil)<|Zr (Zm 14 5<|
 Zk 15 .add 14 1<|
 Zo (.mk 16 1 8 3 (Zz 0) (.t 15) (.t 15))<|
 Zm 6 16 .nil)<|Zr (Zm 17 6<|
 Zm 18 5<|
 Zi 19 1 17 18<|
 Zo (.st 1 (.t 19) (.c (Zz 1))) .nil)<| .rg (Zm 20 3<|
 Zm 21 6<|
 .wk<|Zo (.bs 22 1 93 [.t 21])<|
 Zo (.app 23 1 24 93 (.t 20) (.t 22))<|
 Zm 3 23 .nil))<| .rg (Zk 24 .add 10 1<|
 Zm 10 24 .nil))<|Zr (Zm 25 3<|
 Zo (.bs 26 1 93 [.c .nilS])<|
 Zo (.app 27 1 24 93 (.t 25) (.t 26))<|
 .wk<|Zm 2 27 .nil) .ret⟩
theorem Qaq7:Qe Tryz.prog Tryz.f73=some c73.strip:=by kernel_rfl
def c137:SFn:=⟨22,[.cell 4 3 true],Zr (Zo (.alloc 4 3 51 (.agg [.bool false,.nilS,.nilS])) .nil)<| .seq (Zr (Zm 7 0<|
 Zn 8 7<|
 Zc 9 0 .nil)<| .block 0<| .loop<|Zr (Zb 10 .lss 9 8 .nil)<| .seq (.cond (.t 10) .skip (.exit 0))<| .seq (.block 1<|Zr (Zi 11 4 7 9<|
 Zh 12 4 11<|
 Zo (.alloc 6 4 95 (.agg [.bool false,.nilS,.nilS,.nilS]))<|
 Zs 4 6 12 .nil)<|Zr (Zf 13 3 6<|
 Zl 14 1 13<|
 Zm 15 1<|
 Zq 16 false 193 [.t 14,.t 15,.c (Zz 0)]<|
 Zk 17 .eql 16 0 .nil)<| .cond (.t 17) (Zr (Zf 18 0 6<|
 Zh 19 3 18<|
 Zs 3 4 19 .nil) .ret) .skip)<| .rg (Zk 20 .add 9 1<|
 Zm 9 20 .nil))<|Zr (Zq 21 false 61 [.c (Zz 0)]<|
 Zs 3 4 21 .nil) .ret⟩
theorem Qanb:Qe Tryz.prog Tryz.f137=some c137:=by kernel_rfl
def c140:SFn:=⟨35,[.t 4],Zr (Zo (.mv 4 (.c .nilS)) .nil)<|Zr (Zo (.mv 5 (.c .nilS)) .nil)<| .seq (Zr (Zm 7 0<|
 Zn 8 7<|
 Zk 9 .sub 8 1<|
 Zc 10 0 .nil)<| .block 0<| .loop<|Zr (Zb 11 .lss 10 9 .nil)<| .seq (.cond (.t 11) .skip (.exit 0))<| .seq (.block 1<|Zr (Zm 12 10<|
 Zm 6 12 .nil)<| .seq (.block 2<| .loop<| .seq (Zr (Zm 13 5<|
 Zn 14 13<|
 Zm 15 0<|
 Zm 16 6<|
 Zi 17 1 15 16<|
 Zl 18 1 17<|
 Zn 19 18<|
 Zk 20 .sub 19 1<|
 Zb 21 .lss 14 20 .nil)<| .cond (.t 21) .skip (.exit 2))<| .block 3<| .rg (Zm 22 5<|
 Zq 23 false 61 [.c (Zz 0)]<|
 Zo (.bs 24 3 51 [.t 23])<|
 Zo (.app 25 3 56 51 (.t 22) (.t 24))<|
 Zm 5 25 .nil))<| .rg (Zm 26 5<|
 Zm 27 1<|
 Zm 28 6<|
 Zi 29 3 27 28<|
 Zh 30 3 29<|
 Zo (.bs 31 3 51 [.t 30])<|
 Zo (.app 32 3 56 51 (.t 26) (.t 31))<|
 Zm 5 32 .nil))<| .rg (Zk 33 .add 10 1<|
 Zm 10 33 .nil))<|Zr (Zm 34 5<|
 Zm 4 34 .nil) .ret⟩
theorem Qanc:Qe Tryz.prog Tryz.f140=some c140:=by kernel_rfl
def c138:SFn:=⟨33,[.t 4],Zr (Zo (.box 2 3 24 (.t 0))<|
 Zo (.mv 4 (.c .nilS)) .nil)<|Zr (Zo (.mv 5 (.c .nilS)) .nil)<| .seq (Zr (Zf 9 0 2<|
 Zl 10 1 9<|
 Zc 11 0 .nil)<| .block 0<| .loop<|Zr (Zb 12 .lss 11 10 .nil)<| .seq (.cond (.t 12) .skip (.exit 0))<| .seq (.block 1<|Zr (Zm 13 11<|
 Zm 6 13 .nil)<|Zr (Zm 14 6<|
 Zm 15 1<|
 Zb 16 .eql 14 15 .nil)<| .cond (.t 16) (.rg (Zm 17 5<|
 Zq 18 false 61 [.c (Zz 1)]<|
 Zo (.bs 19 3 51 [.t 18])<|
 Zo (.app 20 3 56 51 (.t 17) (.t 19))<|
 Zm 5 20 .nil)) (.rg (Zm 21 5<|
 Zq 22 false 61 [.c (Zz 0)]<|
 Zo (.bs 23 3 51 [.t 22])<|
 Zo (.app 24 3 56 51 (.t 21) (.t 23))<|
 Zm 5 24 .nil)))<| .rg (Zk 25 .add 11 1<|
 Zm 11 25 .nil))<|Zr (Zh 27 3 2<|
 Zm 28 5<|
 Zq 29 false 13 [.t 27,.t 28]<|
 Zm 26 29<|
 Zo (.ext 30 (.t 26) 0)<|
 Zo (.ext 31 (.t 26) 1)<|
 Zm 7 30<|
 Zm 8 31 .nil)<|Zr (Zm 32 7<|
 Zm 4 32 .nil) .ret⟩
theorem Qand:Qe Tryz.prog Tryz.f138=some c138:=by kernel_rfl
def Qtn(p:List Tm):List Nat:=(List.range 64).filter (Qei p)
def bsP(p:List Tm):List (List Int):=(Qtn p).map (fun v=>Qc6 v 1)++[[]]
theorem Q45{p:List Tm}{v:Nat}(h:v∈Qtn p):v<64:=by
 simp[Qtn]at h;exact h.1
theorem Qahb(p:List Tm):(Qtn p).length<=64:=by
 have:=List.length_filter_le (Qei p) (List.range 64)
 rw[List.length_range]at this
 exact this
theorem Q7a(p:List Tm):Qahs p=(Qtn p).map fun(v:Nat)=>(v:Int):=rfl
def Q19(T:List (List Int)):Prop:=∀(fr:Fr)(hp:HP)(ty:Nat),hp 900=some ⟨1,ty,T.map PV.mono++[.nilS],false⟩->Wk fr hp fr (Qw hp 900 ⟨1,ty,(T++[[]]).map PV.mono,false⟩)
theorem Q2a(T:List (List Int)):Q19 T:=fun fr hp ty h=>by
 refine Qaq6 h (by simp) fun i x x' hx hx'=> ?_
 by_cases hi:i<T.length
 ·rw[List.getElem?_append_left (by simpa using hi)]at hx
  rw[List.map_append,List.getElem?_append_left (by simpa using hi)]at hx'
  rw[hx]at hx';cases hx'
  rw[List.getElem?_map,Option.map_eq_some_iff]at hx
  obtain⟨a,_,rfl⟩:=hx
  exact⟨rfl,rfl,fun j y y' h1 h2=>by rw[h1]at h2;cases h2;exact Qn9 _⟩
 ·have hi2:i=T.length:=by
   have:=(List.getElem?_eq_some_iff.1 hx).1
   simp at this;omega
  subst hi2
  simp at hx hx'
  subst hx hx'
  exact⟨rfl,rfl,fun j y y' h1 h2=>by
   cases j with
   |zero=>cases h1;cases h2;trivial
   |succ j=>cases h1⟩
theorem Qahc{p:List Tm}{E:Nat}(hp:∀t∈p,MB E t.2)(hlp:p.length<=2^36):Qd Tryz.prog 73 [PV.poly p] (· =PV.monos (bsP p)):=by
 have hv:=Q3m hp hlp
 rw[Q7a]at hv
 have hll:=Qahb p
 have hlt:∀v∈Qtn p,v<64:=fun v h=>Q45 h
 unfold bsP
 generalize Qtn p=V at *
 have hVl:(V.map fun(v:Nat)=>(v:Int)).length=V.length:=List.length_map _
 have hVg:∀i (hi:i<V.length) (hi2:i<(V.map fun(v:Nat)=>(v:Int)).length),(V.map fun(v:Nat)=>(v:Int))[i]=(V[i]:Int):=fun i hi hi2=>List.getElem_map ..
 generalize V.map (fun(v:Nat)=>(v:Int))=W at *
 refine Qea Qq Tryz.func73 rfl Qaq7 (by simp[c73]) fun C hP=> ?_;simp only[c73,Zo,Zg,Zm,Zc,Zf,Zl,Zh,Zs,Zi,Zb,Zk,Zn,Zu,Zq,Zr,Zz]
 simp+decide (disch:=try exact D0) only[go_sem]
 refine Qa hP hv rfl rfl rfl ?_
 simp+decide (disch:=try exact D0) only[go_sem]
 refine Qce 3 900 1 93 (by omega) T0 ?_
 refine Qz (by repeat (first|exact Qn|exact Qi|exact Qj|exact Qk|exact Ql|apply Qh|apply Qm|apply Qt|apply Qx|apply Qy|apply Qg|apply Qr)) [(3,3),(5,6),(10,24)] [16,22,23,900] (fun q J hp=>∃i,q=V.length-i/\i<=V.length/\J 3= .ms 900 i/\J 10= .int .i64 (i:Nat)/\hp 900=some ⟨1,93,((V.take i).map fun v=>Qc6 v 1).map PV.mono,false⟩) V.length ?_ ?_
 ·refine⟨0,rfl,by omega,?_⟩
  simp+decide (disch:=try exact D0) only[go_sem]
  rfl
 rintro _ J h' ⟨i,rfl,hi,j3,j10,b9⟩
 simp+decide (disch:=try exact D1 j10) only[go_sem,j10]
 refine Qb (fun hg=> ?_) (fun hg=> ?_)
 ·have hi':i<V.length:=by omega
  have hlt1:=hlt _ (List.getElem_mem hi')
  have hwi:=hVg i hi' (by omega)
  have htk:(V.take (i+1)).map (fun v=>Qc6 v 1)=(V.take i).map (fun v=>Qc6 v 1)++[Qc6 V[i] 1]:=by
   rw[List.take_succ_eq_append_getElem hi',List.map_append];rfl
  have hTl:((V.take i).map fun v=>Qc6 v 1).length=i:=by rw[List.length_map,List.length_take];omega
  generalize(V.take i).map (fun v=>Qc6 v 1)=T at *
  generalize hx:V[i]=v at *
  have hset:(List.replicate (v+1) (0:Int)).set v 1=Qc6 v 1:=Q1i v 1 rfl
  have hlr:v<(List.replicate (v+1) (0:Int)).length:=by simp
  have hsn:List.take (v+1) (Qkn (Qc6 v 1))=Qkn (Qc6 v 1):=List.take_of_length_le (by simp[Qc6])
  simp+decide (disch:=try exact D3 j10 hwi hset) only[go_sem,j10,hwi,hset]
  refine Qb4 (Q4a 21 U0) ?_
  simp+decide (disch:=try exact E3 hsn j3 b9) only[go_sem,Qac,List.contains_cons,List.contains_nil,List.flatMap_cons,List.flatMap_nil,List.append_nil,hsn,j3,b9]
  rw[Qaf (f:=PV.mono) (y:=Qc6 v 1) (xs:=T) (ty':=93) (fz:=false) (U1 b9) Ur0 (by omega) hTl.symm (by omega) (by omega)]
  simp+decide (disch:=try exact E1 j10) only[go_sem,Qac,List.contains_cons,List.contains_nil,List.flatMap_cons,List.flatMap_nil,List.append_nil,j10]
  refine Qo (V.length-(i+1)) (by omega) ⟨i+1,rfl,by omega,?_⟩
  rw[htk]
  simp+decide (disch:=try exact E0) only[go_sem,Qac,List.contains_cons,List.contains_nil,List.flatMap_cons,List.flatMap_nil,List.append_nil]
 ·obtain rfl:i=V.length:=by omega
  rw[List.take_length]at b9
  have hml:((V.map fun v=>Qc6 v 1).map PV.mono).length=V.length:=by simp
  have hcle:Q19 (V.map fun v=>Qc6 v 1):=Q2a _
  have hsn:List.take (V.length+1) ((V.map (fun v=>Qc6 v 1)++[[]]).map PV.mono)=(V.map (fun v=>Qc6 v 1)++[[]]).map PV.mono:=List.take_of_length_le (by simp)
  generalize V.map (fun v=>Qc6 v 1)=T at *
  simp+decide (disch:=try exact D2 j3 b9) only[go_sem,j3,b9]
  rw[Qod (y:= .nilS) (xs:=T.map PV.mono) (ty':=93) (fz:=false) (T1 b9) T0 (by omega) (by omega) (by omega) (by omega)]
  simp+decide (disch:=try exact D0) only[go_sem]
  refine Qb4 (hcle _ _ 93 T0) ?_
  simp+decide (disch:=try exact E0) only[go_sem,Qac,List.contains_cons,List.contains_nil,List.flatMap_cons,List.flatMap_nil,List.append_nil]
  refine Q4d (Wk.refl _ _) ?_
  simp+decide (disch:=try exact E1 hsn) only[go_sem,Qac,List.contains_cons,List.contains_nil,List.flatMap_cons,List.flatMap_nil,List.append_nil,hsn]
  exact Qc rfl rfl
def Qi5:List Tm->List Int->Rat
 | [],_=>0
 |t::p,m=>if Qau t.2 m=0 then t.1 else Qi5 p m
theorem Q7b{p:List Tm}{m:List Int}{i:Nat}(h:i<p.length):Qi5 (p.drop i) m=if Qau p[i].2 m=0 then p[i].1 else Qi5 (p.drop (i+1)) m:=by
 rw[List.drop_eq_getElem_cons h];rfl
theorem Q2b{m:List Int}{K E:Nat}:∀ {p:List Tm},PB K E p->1<=K->rs (Qi5 p m)<=K
 | [],_,h=>by have:=Qz8;show rs 0<=K;omega
 |t::p,hp,h=>by
  unfold Qi5
  split
  ·have:=(hp t (by simp)).c;omega
  ·exact Q2b (fun s hs=>hp s (List.mem_cons_of_mem _ hs)) h
theorem Qane{p:List Tm}{m:List Int}{K E:Nat}(hp:PB K E p)(hm:MB E m)(hE:E<=2^30)(hlp:p.length<=2^36):Qd Tryz.prog 137 [PV.poly p,PV.mono m] (· =PV.rat (Qi5 p m)):=by
 refine Qf Qq Tryz.func137 rfl Qanb (by simp[c137]) fun C hP=> ?_;simp only[c137,Zo,Zg,Zm,Zc,Zf,Zl,Zh,Zs,Zi,Zb,Zk,Zn,Zu,Zq,Zr,Zz]
 simp+decide (disch:=try exact D0) only[go_sem]
 refine Qz (by repeat (first|exact Qn|exact Qi|exact Qj|exact Qk|exact Ql|apply Qh|apply Qm|apply Qt|apply Qx|apply Qy|apply Qg|apply Qr)) [(6,6),(9,20)] [6] (fun q J hp=>∃i,q=p.length-i/\i<=p.length/\Qi5 (p.drop i) m=Qi5 p m/\J 9= .int .i64 (i:Nat)/\hp 4=some ⟨3,51,[.agg [.bool false,.nilS,.nilS]],false⟩) p.length ?_ ?_
 ·refine⟨0,rfl,by omega,rfl,?_⟩
  simp+decide (disch:=try exact D0) only[go_sem]
  rfl
 rintro _ J h' ⟨i,rfl,hi,he,j9,b4⟩
 simp+decide (disch:=try exact D1 j9) only[go_sem,j9]
 refine Qb (fun hg=> ?_) (fun hg=> ?_)
 ·have hi':i<p.length:=by omega
  have ht:=hp _ (List.getElem_mem hi')
  rw[Q7b hi']at he
  have hcm:=Qpa (o:=0) ht.m hm (by omega)
  rw[Qqk]at hcm
  generalize hx:p[i]=t at *
  simp+decide (disch:=try exact D2 j9 hx) only[go_sem,j9,hx]
  refine Qa hP hcm rfl rfl rfl ?_
  simp+decide (disch:=try exact D1 j9) only[go_sem,j9]
  refine Qb (fun h0=> ?_) (fun h0=> ?_)
  ·rw[if_pos (by omega)]at he
   simp+decide (disch:=try exact D1 b4) only[go_sem,b4]
   refine Qba ?_
   simp+decide (disch:=try exact D0) only[go_sem]
   exact Qc (by rw[he]) rfl
  ·rw[if_neg (by omega)]at he
   simp+decide (disch:=try exact D1 j9) only[go_sem,j9]
   refine Qo (p.length-(i+1)) (by omega) ⟨i+1,rfl,by omega,he,?_⟩
   simp+decide (disch:=try exact D1 b4) only[go_sem,b4]
 ·obtain rfl:i=p.length:=by omega
  rw[List.drop_length]at he
  simp+decide (disch:=try exact D0) only[go_sem]
  refine Qa hP (Qnb (x:=0) (by omega) (by omega)) rfl rfl rfl ?_
  simp+decide (disch:=try exact D1 b4) only[go_sem,b4]
  refine Qba ?_
  simp+decide (disch:=try exact D0) only[go_sem]
  exact Qc (by rw[<-he];rfl) rfl
def Q7c(p:List Tm)(bs:List (List Int))(i k:Nat):Rat:=if i=k then Qi5 p (Qa5 (bs.getD i []) (bs.getD k []))else Qi5 p (Qa5 (bs.getD i []) (bs.getD k []))/2
def Qi6(p:List Tm)(bs:List (List Int))(j:Nat):Rat:=Q7c p bs (j/bs.length) (j%bs.length)
def Qj0(p:List Tm)(bs:List (List Int)):List Rat:=(List.range (bs.length*bs.length)).map (Qi6 p bs)
theorem Qaa9(p:List Tm)(bs:List (List Int)):(Qj0 p bs).length=bs.length*bs.length:=by simp[Qj0]
theorem Qahd{p:List Tm}{bs:List (List Int)}{i k:Nat}(hk:k<bs.length):Qi6 p bs (i*bs.length+k)=Q7c p bs i k:=by
 have hR:0<bs.length:=by omega
 unfold Qi6
 rw[Nat.add_comm,Nat.add_mul_mod_self_right,Nat.mod_eq_of_lt hk,Nat.add_mul_div_right _ _ hR,Nat.div_eq_of_lt hk,Nat.zero_add]
def c74:SFn:=⟨53,[.cell 4 3 true],Zr (Zo (.alloc 4 3 24 (.agg [Zz 0,Zz 0,.nilS])) .nil)<|Zr (Zm 9 1<|
 Zn 10 9<|
 Zm 11 1<|
 Zn 12 11<|
 Zo (.bld 13 [Zz 0,Zz 0,.nilS] [(0,1,.t 10),(1,1,.t 12)])<|
 Zo (.alloc 5 3 24 (.agg [Zz 0,Zz 0,.nilS]))<|
 .wk<| .wk<|Zs 3 5 13<|
 .wk .nil)<| .seq (Zr (Zm 14 1<|
 Zn 15 14<|
 Zc 16 0 .nil)<| .block 0<| .loop<|Zr (Zb 17 .lss 16 15 .nil)<| .seq (.cond (.t 17) .skip (.exit 0))<| .seq (.block 1<|Zr (Zm 18 16<|
 Zm 6 18 .nil)<|Zr (Zm 19 1<|
 Zn 20 19<|
 Zc 21 0 .nil)<| .block 2<| .loop<|Zr (Zb 22 .lss 21 20 .nil)<| .seq (.cond (.t 22) .skip (.exit 2))<| .seq (.block 3<|Zr (Zm 23 21<|
 Zm 7 23 .nil)<|Zr (Zm 24 0<|
 Zm 25 1<|
 Zm 26 6<|
 Zi 27 1 25 26<|
 Zl 28 1 27<|
 Zm 29 1<|
 Zm 30 7<|
 Zi 31 1 29 30<|
 Zl 32 1 31<|
 .br (Zq 33 true 96 [.t 28,.t 32]<|
 .br (Zq 34 true 137 [.t 24,.t 33]<|
 Zo (.alloc 8 3 51 (.agg [.bool false,.nilS,.nilS]))<|
 Zs 3 8 34 .nil) (Zo (.alloc 8 3 51 (.agg [.bool false,.nilS,.nilS]))<|
 Zq 34 true 137 [.t 24,.t 33]<|
 Zs 3 8 34 .nil)) (Zo (.alloc 8 3 51 (.agg [.bool false,.nilS,.nilS]))<|
 Zq 33 true 96 [.t 28,.t 32]<|
 Zq 34 true 137 [.t 24,.t 33]<|
 Zs 3 8 34 .nil))<| .seq (Zr (Zm 35 6<|
 Zm 36 7<|
 Zb 37 .neq 35 36 .nil)<| .cond (.t 37) (.rg (Zh 39 3 8<|
 Zq 40 true 61 [.c (Zz 2)]<|
 Zq 41 true 123 [.t 39,.t 40]<|
 Zm 38 41<|
 Zo (.ext 42 (.t 38) 0)<|
 Zo (.ext 43 (.t 38) 1)<|
 Zs 3 8 42 .nil)) .skip)<| .rg (Zf 44 2 5<|
 Zl 45 1 44<|
 Zh 46 3 8<|
 Zo (.bs 47 3 51 [.t 46])<|
 Zo (.app 48 3 56 51 (.t 45) (.t 47))<|
 Zf 49 2 5<|
 Zs 1 49 48 .nil))<| .rg (Zk 50 .add 21 1<|
 Zm 21 50 .nil))<| .rg (Zk 51 .add 16 1<|
 Zm 16 51 .nil))<|Zr (Zh 52 3 5<|
 .wk<|Zs 3 4 52 .nil) .ret⟩
theorem Qaq8:Qe Tryz.prog Tryz.f74=some c74.strip:=by kernel_rfl
abbrev grmC(n k:Nat):PV:= .rag [.int .i64 (n:Nat),.int .i64 (n:Nat),.mso 2000002 0 k]
theorem Qanf{p:List Tm}{bs:List (List Int)}{K E F:Nat}(hp:PB K E p)(hb:∀b∈bs,MB F b)(hF:F<=1000)(hE:E<=2^29)(hlp:p.length<=2^30)(hbl:bs.length<=1000)(hK:K<=2^30)(hK1:1<=K):
  Qd Tryz.prog 74 [PV.poly p,PV.monos bs] (· =PV.mat bs.length bs.length (Qj0 p bs)):=by
 have hz:([.agg [.int .i64 0,.int .i64 0,.nilS]]:List PV)≠[]:=by simp
 have hzd:∀x∈([.agg [.int .i64 0,.int .i64 0,.nilS]]:List PV),x.ncells=x.cells:=fun x hx=>by rw[List.mem_singleton.1 hx];rfl
 have hnn:bs.length*bs.length<=1000*1000:=Nat.mul_le_mul hbl hbl
 obtain⟨n,hn⟩:∃n,n=bs.length:=⟨_,rfl⟩
 refine Qea Qq Tryz.func74 rfl Qaq8 (by simp[c74]) fun C hP=> ?_;simp only[c74,Zo,Zg,Zm,Zc,Zf,Zl,Zh,Zs,Zi,Zb,Zk,Zn,Zu,Zq,Zr,Zz]
 simp+decide (disch:=try exact D0) only[go_sem]
 refine Qb4 (Qht 5 2000001 Tr0 (by omega) rfl (by omega)) ?_
 simp+decide (disch:=try exact D0) only[go_sem]
 refine Qb4 (Qki (γ:=2000001) (e:=3) (ty:=24) (fz:=false) T0 hz (by omega) hzd) ?_
 simp+decide (disch:=try exact D0) only[go_sem]
 refine Qb4 (Qpg (γ:=2000001) (e:=3) (ty:=24) (cs:=[.int .i64 (bs.length:Nat),.int .i64 (bs.length:Nat),.nilS]) (cs':=[.int .i64 (bs.length:Nat),.int .i64 (bs.length:Nat),.mso 2000002 0 0]) 2000002 3 51 T0 Tr0 (by omega) (by omega) rfl (by simp)) ?_
 simp+decide (disch:=try exact D0) only[go_sem]
 refine Qbn (by repeat (first|exact Qn|exact Qi|exact Qj|exact Qk|exact Ql|apply Qh|apply Qm|apply Qt|apply Qx|apply Qy|apply Qg|apply Qr)) [(5,8),(16,51),(2000001,2000001)] [8,47,48] (fun q J hp=>∃i,q=bs.length-i/\i<=bs.length/\J 5= .np 2000001 0 0/\J 16= .int .i64 (i:Nat)/\J 2000001= .nst 2000001 3 24 [grmC bs.length (i*bs.length)]/\
  hp 4=some ⟨3,24,[.agg [.int .i64 0,.int .i64 0,.nilS]],false⟩/\hp 2000001=some ⟨3,24,[],false⟩/\hp 2000002=some ⟨3,51,((List.range (i*bs.length)).map (Qi6 p bs)).map PV.rat,false⟩) bs.length ?_ ?_
 ·refine⟨0,rfl,by omega,?_⟩
  simp+decide (disch:=first|omega|rfl|(simp+decide only[go_sem,Nat.zero_mul]<;>rfl)|fail) only[go_sem,Nat.zero_mul]
  exact⟨rfl,rfl⟩
 rintro _ J h ⟨i,rfl,hi,j5,j16,jb,b4,hb1,hx⟩
 simp+decide (disch:=try exact D1 j16) only[go_sem,j16]
 refine Qb (fun hc=> ?_) (fun hc=> ?_)
 ·have hi':i<bs.length:=by omega
  have hkR:i*bs.length+bs.length<=bs.length*bs.length:=by
   have:=Nat.mul_le_mul_right bs.length hi'
   rw[Nat.succ_mul]at this;exact this
  simp+decide (disch:=try exact D6 j5 j16 jb b4 hb1 hx) only[go_sem,j5,j16,jb,b4,hb1,hx]
  refine Qbn (by repeat (first|exact Qn|exact Qi|exact Qj|exact Qk|exact Ql|apply Qh|apply Qm|apply Qt|apply Qx|apply Qy|apply Qg|apply Qr)) [(5,5),(7,8),(21,50),(2000001,2000001)] [8,47,48] (fun q J hp=>∃k,q=bs.length-k/\k<=bs.length/\J 5= .np 2000001 0 0/\J 21= .int .i64 (k:Nat)/\J 2000001= .nst 2000001 3 24 [grmC bs.length (i*bs.length+k)]/\
   hp 4=some ⟨3,24,[.agg [.int .i64 0,.int .i64 0,.nilS]],false⟩/\hp 2000001=some ⟨3,24,[],false⟩/\hp 2000002=some ⟨3,51,((List.range (i*bs.length+k)).map (Qi6 p bs)).map PV.rat,false⟩) bs.length ?_ ?_
  ·refine⟨0,rfl,by omega,?_⟩
   simp+decide (disch:=try exact D5 j5 jb b4 hb1 hx) only[go_sem,j5,jb,b4,hb1,hx]
   rfl
  rintro _ J2 g ⟨k,rfl,hk,i5,i21,ib,g4,gb,gx⟩
  simp+decide (disch:=try exact D1 i21) only[go_sem,i21]
  refine Qb (fun hci=> ?_) (fun hci=> ?_)
  ·have hk':k<bs.length:=by omega
   have hct:=Qahd (p:=p) (i:=i) hk'
   have m1:=hb _ (List.getElem_mem hi')
   have m2:=hb _ (List.getElem_mem hk')
   have e1:bs.getD i []=bs[i]:=by simp[hi']
   have e2:bs.getD k []=bs[k]:=by simp[hk']
   unfold Q7c at hct
   rw[e1,e2]at hct
   have hMl:((List.range (i*bs.length+k)).map (Qi6 p bs)).length=i*bs.length+k:=by simp
   have hsu:(List.range (i*bs.length+(k+1))).map (Qi6 p bs)=(List.range (i*bs.length+k)).map (Qi6 p bs)++[Qi6 p bs (i*bs.length+k)]:=by
    rw[<-Nat.add_assoc,List.range_succ,List.map_append];rfl
   rw[hct]at hsu
   have hmu:=Qu1 m1 m2 (by omega)
   have hmm:=m1.mul m2
   generalize(List.range (i*bs.length+k)).map (Qi6 p bs)=T at *
   generalize hx1:bs[i]=x1 at *
   generalize hx2:bs[k]=x2 at *
   have hco:=Qane (p:=p) (m:=Qa5 x1 x2) (K:=K) (E:=E+2000) (hp.mono (by omega) (by omega)) (hmm.mono (by omega)) (by omega) (by omega)
   have hrs:=Q2b (m:=Qa5 x1 x2) hp hK1
   generalize Qa5 x1 x2=y at *
   generalize Qi5 p y=c at *
   have hof:=Qnb (x:=2) (by omega) (by omega)
   have hr2:rs ((2:Int):Rat)<=1:=by decide+kernel
   have hdv:=Qva (a:=c) (b:=((2:Int):Rat)) (k:=K+1) (by omega) (by omega) (by omega) (by decide+kernel)
   rw[show((2:Int):Rat)=2 from rfl]at hof hdv
   simp+decide (disch:=try exact D9 i5 i21 ib g4 gb gx j16 hx1 hx2) only[go_sem,i5,i21,ib,g4,gb,gx,j16,hx1,hx2]
   repeat' first
    |refine Qda ?_ ?_
    |refine Qa hP hmu rfl rfl rfl ?_
    |refine Qa hP hco rfl rfl rfl ?_
    |simp+decide (disch:=try exact D6 i5 i21 ib g4 gb gx) only[go_sem,i5,i21,ib,g4,gb,gx]
   all_goals
    refine Qb (fun hne=> ?_) (fun heq=> ?_)
    ·rw[if_neg (by omega)]at hsu
     simp+decide (disch:=try exact D0) only[go_sem]
     refine Qa hP hof rfl rfl rfl ?_
     simp+decide (disch:=try exact D0) only[go_sem]
     refine Qa hP hdv rfl rfl rfl ?_
     generalize c/2=z at *
     simp+decide (disch:=try exact D6 i5 i21 ib g4 gb gx) only[go_sem,i5,i21,ib,g4,gb,gx]
     rw[Qju (f:=PV.rat) (y:=z) (xs:=T) (ty':=51) (fz:=false) (T1 gx) T0 (by omega) hMl.symm (by omega) (by omega) (by omega)]
     simp+decide (disch:=try exact D6 i5 i21 ib g4 gb gx) only[go_sem,i5,i21,ib,g4,gb,gx]
     refine Qa4 (bs.length-(k+1)) (by omega) ⟨k+1,rfl,by omega,?_⟩
     rw[hsu]
     simp+decide (disch:=try exact D4 i5 ib g4 gb) only[go_sem,i5,ib,g4,gb]
     rfl
    ·rw[if_pos (by omega)]at hsu
     simp+decide (disch:=try exact D6 i5 i21 ib g4 gb gx) only[go_sem,i5,i21,ib,g4,gb,gx]
     rw[Qju (f:=PV.rat) (y:=c) (xs:=T) (ty':=51) (fz:=false) (T1 gx) T0 (by omega) hMl.symm (by omega) (by omega) (by omega)]
     simp+decide (disch:=try exact D6 i5 i21 ib g4 gb gx) only[go_sem,i5,i21,ib,g4,gb,gx]
     refine Qa4 (bs.length-(k+1)) (by omega) ⟨k+1,rfl,by omega,?_⟩
     rw[hsu]
     simp+decide (disch:=try exact D4 i5 ib g4 gb) only[go_sem,i5,ib,g4,gb]
     rfl
  ·have hiR:k=bs.length:=by omega
   subst hiR
   simp+decide (disch:=try exact D1 j16) only[go_sem,j16]
   simp (disch:=decide) only[Qcb,Qci,Qbg,Qct]
   refine Qa4 (bs.length-(i+1)) (by omega) ⟨i+1,rfl,by omega,?_⟩
   rw[show(i+1)*bs.length=i*bs.length+bs.length from Nat.succ_mul _ _]
   simp+decide (disch:=try exact D5 i5 ib g4 gb gx) only[go_sem,i5,ib,g4,gb,gx]
 ·obtain rfl:i=bs.length:=by omega
  rw[show(List.range (bs.length*bs.length)).map (Qi6 p bs)=Qj0 p bs from rfl]at hx
  have hgl:=Qaa9 p bs
  simp+decide (disch:=try exact D5 j5 jb b4 hb1 hx) only[go_sem,j5,jb,b4,hb1,hx]
  refine Qnx 52 2 [2000002] (p:=grmC bs.length (bs.length*bs.length)) T0 (D:=PV.mat bs.length bs.length (Qj0 p bs)) ?_ ?_ rfl ?_
  ·intro c hc
   simp only[List.mem_cons,List.not_mem_nil,or_false]at hc
   rcases hc with rfl|rfl|rfl
   ·trivial
   ·trivial
   ·simp only[okD,isY];simp
  ·show PV.agg [_,_,dsn _ h 2 (.mso 2000002 0 _)]=_
   simp only[dsn,hx,List.drop_zero]
   rw[List.take_of_length_le (by rw[List.length_map];omega)]
  simp+decide (disch:=try exact E5 j5 jb b4 hb1 hx) only[go_sem,j5,jb,b4,hb1,hx,Qac,List.contains_cons,List.contains_nil,List.flatMap_cons,List.flatMap_nil,List.append_nil]
  refine Qet (Qba ?_)
  simp+decide (disch:=try exact E1 b4) only[go_sem,b4,Qac,List.contains_cons,List.contains_nil,List.flatMap_cons,List.flatMap_nil,List.append_nil]
  exact Qc rfl rfl
end Go.Proofs.YtkoclfmjlolkhaaGreat
namespace Go.FW
open Go
variable {C : Ctx} {fr : Fr} {hp : HP} {w : World} {K R : Qp}
theorem Qahf{nm:Nat->Bool}{W:List (Nat×Nat)}{J F:Fr}:Qe8 nm (ovr W J F)=ovr W (Qe8 nm J) (Qe8 nm F):=by
 funext s;unfold Qe8 ovr;split<;>rfl
theorem Qahg{nm:Nat->Bool}(h:∀x,nm x=true->2000000<=x){B:List Nat}{F:Fr}:Qe8 nm (bse B F)=bse B F:=by
 funext s
 obtain⟨h1,h2,_,_⟩:=Qle B F s
 show Qqs nm (bse B F s)=bse B F s
 unfold Qqs
 rw[if_neg]
 intro hn
 obtain⟨x,hx,hx2⟩:=List.any_eq_true.1 hn
 have:=h x hx2
 rcases List.mem_append.1 hx with hx|hx
 ·have:=h1 x hx;simp[isN]at this;omega
 ·have:=h2 x hx;simp[isS,isN]at this;omega
end Go.FW
