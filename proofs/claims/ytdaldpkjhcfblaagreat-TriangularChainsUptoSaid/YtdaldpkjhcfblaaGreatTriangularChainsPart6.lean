/- Part 6 of the proof of TriangularChains: W1, FwSM, FwUC. Own lemmas; no conditions. -/
import Derived.Test.YtdaldpkjhcfblaaGreatTriangularChainsPart5
set_option maxHeartbeats 1000000
set_option linter.unusedSimpArgs false
set_option linter.unusedVariables false
set_option linter.unnecessarySimpa false
set_option maxRecDepth 100000
namespace Go.Proofs.YtdaldpkjhcfblaaGreat
open Go Go.FW
def exi(v:Int):Nat:=if v<0 then 64 else v.toNat
theorem Qhf(n:Nat):exi n=n:=by unfold exi;rw[if_neg (by omega)];omega
theorem Quq{a:List Int}{v:Int}{E:Nat}(h:MB E a):Qd Tryz.prog 51 [PV.mono a,.int .i64 v] (· = .int .i64 (eN a (exi v))):=by
 have hl:=h.len;have:=Qsw (a:=a) (v:=v) (by omega);have e:(if v<0 then 0 else eN a v.toNat)=eN a (exi v):=by
  unfold exi;split
  ·rw[Qcu (by omega)]
  ·rfl
 rwa[e]at this
theorem Q3m{m:List Int}{v:Nat}(hl:m.getLast? ≠some 0)(h:eN m v=0):Qb5 m v=m:=
 Qfe (Qj6 m v) hl fun i=>by
  rw[Qik];split
  ·rename_i e;rw[e,h]
  ·rfl
theorem Qcw{p:List Tm}{v:Int}{K E:Nat}(hp:PB K E p)(hlp:p.length<=2^36):Qd Tryz.prog 17 [PV.poly p,.int .i64 v] (· = .int .i64 (Qat p (exi v))):=by
 refine Qf Qi Tryz.func17 rfl Qaln (by simp[c17]) fun C hP=>?_;simp only[c17];refine Sz0 ?_;refine Qw (by repeat (first|exact Qv|exact Qp|exact Qq|exact Qr|exact Qs|apply Qo|apply Qu|apply Qx|apply Q2|apply Q3|apply Qk)) [(5,5),(7,7),(10,20)] [7] (fun n J hp=>∃i,n=p.length-i/\i<=p.length/\J 5= .int .i64 (Qat (p.take i) (exi v))/\J 10= .int .i64 (i:Nat)) p.length ?_ ?_
 ·refine⟨0,rfl,by omega,?_⟩;refine Sz0 ?_;exact⟨rfl,rfl⟩
 rintro _ J h ⟨i,rfl,hi,h5,h10⟩;refine Sz2 h5 h10 ?_;refine Qb (fun hg=>?_) (fun hg=>?_)
 ·have hi':i<p.length:=by omega
  have htp:=hp.get hi';have htk:=Qvx (v:=exi v) hi';generalize hx:p[i]=x at *
  have hml:=htp.m.len;refine Sz3 h5 h10 hx ?_;refine Qa hP (Quq htp.m) rfl rfl rfl ?_;refine Sz3 h5 h10 hx ?_;refine Qh (p.length-(i+1)) (by omega) ⟨i+1,rfl,by omega,?_⟩;rw[htk];exact Tz0
 ·obtain rfl:i=p.length:=by omega
  rw[List.take_length]at h5;refine Sz1 h5 ?_;exact Qc rfl rfl
theorem Qta{m:List Int}{v:Int}{E:Nat}(hm:MB E m)(hl:m.getLast? ≠some 0):Qd Tryz.prog 120 [PV.mono m,.int .i64 v] (· =PV.mono (Qb5 m (exi v))):=by
 have hml:=hm.len;refine Qf Qi Tryz.func120 rfl Qagq (by simp[c120]) fun C hP=>?_;simp only[c120];refine Sz0 ?_;refine Qa hP (Quq hm) rfl rfl rfl ?_;refine Sz0 ?_;refine Qb (fun h0=>?_) (fun h0=>?_)
 ·refine Sz0 ?_;exact Qc (congrArg PV.mono (Q3m hl (by omega)).symm) rfl
 ·obtain⟨n,rfl⟩:∃n:Nat,v=n:=by refine⟨v.toNat,?_⟩;apply Decidable.byContradiction;intro hn;rw[exi,if_pos (by omega),Qcu (by omega)]at h0;omega
  rw[Qhf]at h0⊢;generalize n=v at *
  have hsl:(m.set v 0).length=m.length:=by simp
  have hvl:v<m.length:=by apply Decidable.byContradiction;intro hn;rw[Qcu (by omega)]at h0;omega
  refine Sz0 ?_;refine Q95 5 Uz0 ?_;refine Vz0 ?_;rw[show List.take m.length (Qfc (m.set v 0))=Qfc (m.set v 0)from List.take_of_length_le (by simp[Qfc])];refine Qw (by repeat (first|exact Qv|exact Qp|exact Qq|exact Qr|exact Qs|apply Qo|apply Qu|apply Qx|apply Q2|apply Q3|apply Qk)) [(6,6),(19,30)] [] (fun n J hp=>n<=m.length/\Qf7 (m.set v 0) n=Qb5 m v/\J 6= .int .i64 n) m.length ?_ ?_
  ·refine⟨Nat.le_refl _,by rw[Qb5,Qcz,hsl],?_⟩;exact Tz0
  rintro n J _ ⟨hn,hc,h6⟩;refine Sz1 h6 ?_;refine Qan (fun hg=>?_) (fun hg=>?_)
  ·obtain _|n:=n
   ·omega
   have e:((n+1:Nat):Int)-1=n:=by omega
   simp only[Qf7]at hc;simp+decide (disch:=first|omega|rfl|(simp+decide only[go_sem,↓reduceIte,h6,e]<;>rfl)|fail) only[go_sem,↓reduceIte,h6,e];refine Qb (fun hz=>?_) (fun hz=>?_)
   ·rw[if_pos (by simp[hz,show n<m.length by omega])]at hc;refine Sz2 h6 e ?_;refine Qh n (by omega) ⟨by omega,hc,?_⟩;exact Tz0
   ·rw[if_neg (by simpa[show n<m.length by omega]using hz)]at hc;refine Sz2 h6 e ?_;exact Qc (congrArg PV.mono hc) rfl
  ·obtain rfl:n=0:=by omega
   refine Sz1 h6 ?_;exact Qc (congrArg PV.mono hc) rfl
theorem Qk1{p:List Tm}{v n:Int}{K E:Nat}(hp:PB K E p)(hlp:p.length<=2^36):Qd Tryz.prog 72 [PV.poly p,.int .i64 v,.int .i64 n] (· =PV.poly (Qam p (exi v) n)):=by
 refine Qf Qi Tryz.func72 rfl Qalo (by simp[c72]) fun C hP=>?_;simp only[c72];refine Sz0 ?_;refine Qdf 7 900 4 54 (by omega) Tz0 ?_;refine Qw (by repeat (first|exact Qv|exact Qp|exact Qq|exact Qr|exact Qs|apply Qo|apply Qu|apply Qx|apply Q2|apply Q3|apply Qk)) [(7,7),(9,9),(12,32)] [9,30,31,900] (fun m J hp=>∃i,m=p.length-i/\i<=p.length/\J 7= .ms 900 (Qam (p.take i) (exi v) n).length/\J 12= .int .i64 (i:Nat)/\hp 900=some ⟨4,54,(Qam (p.take i) (exi v) n).map PV.term,false⟩) p.length ?_ ?_
 ·refine⟨0,rfl,by omega,?_⟩;refine Sz0 ?_;exact⟨rfl,rfl,rfl⟩
 rintro _ J h ⟨i,rfl,hi,h7,h12,hh⟩;refine Sz2 h7 h12 ?_;refine Qb (fun hg=>?_) (fun hg=>?_)
 ·have hi':i<p.length:=by omega
  have htp:=hp.get hi';have hck:=Qs8 (v:=exi v) (n:=n) hi';have hcl:=Qdp (p.take i) (exi v) n;rw[List.length_take]at hcl;generalize hx:p[i]=x at *
  have hml:=htp.m.len;refine Sz3 h7 h12 hx ?_;refine Qa hP (Quq htp.m) rfl rfl rfl ?_;refine Sz3 h7 h12 hx ?_;refine Qb (fun hc=>?_) (fun hc=>?_)
  ·rw[if_pos hc]at hck;refine Sz3 h7 h12 hx ?_;refine Qa hP (Qta htp.m htp.l) rfl rfl rfl ?_;refine Sz3 h7 h12 hx ?_;rw[Q9 (f:=PV.term) (y:=(x.1,Qb5 x.2 (exi v))) (xs:=Qam (p.take i) (exi v) n) (ty':=54) (fz:=false) (Tz1 hh) Qb8 (by omega) rfl (by omega) (by omega)];refine Sz3 h7 h12 hx ?_;refine Qh (p.length-(i+1)) (by omega) ⟨i+1,rfl,by omega,?_⟩;rw[hck];simp+decide (disch:=first|omega|rfl|(simp+decide only[go_sem,↓reduceIte,List.length_append]<;>rfl)|fail) only[go_sem,↓reduceIte,List.length_append]
  ·rw[if_neg hc,List.append_nil]at hck;refine Sz3 h7 h12 hx ?_;refine Qh (p.length-(i+1)) (by omega) ⟨i+1,rfl,by omega,?_⟩;rw[hck];exact Tz2 h7 hh
 ·obtain rfl:i=p.length:=by omega
  rw[List.take_length]at h7 hh;refine Vz2 h7 hh ?_;exact Qc (by simp[List.take_of_length_le]) rfl
theorem Qjq{p:List Tm}{E:Nat}(hp:∀t∈p,MB E t.2)(hlp:p.length<=2^36):Qd Tryz.prog 71 [PV.poly p] (· = .bool (Qa2 p)):=by
 have bad:(∃t∈p,∃x∈t.2,1048576<x)->Qa2 p=true:=fun⟨t,ht,x,hx,h⟩=>by
  unfold Qa2;have:(p.any fun t=>t.2.any fun x=>decide (1048576<x))=true:=by rw[List.any_eq_true];exact⟨t,ht,by rw[List.any_eq_true];exact⟨x,hx,decide_eq_true h⟩⟩
  rw[this,Bool.or_true]
 refine Qf Qi Tryz.func71 rfl Qall (by simp[c71]) fun C hP=>?_;simp only[c71];refine Sz0 ?_;refine Qb (fun hl=>?_) (fun hl=>?_)
 ·refine Sz0 ?_;exact Qc (by rw[Qa2,decide_eq_true (by omega),Bool.true_or]) rfl
 refine Sz0 ?_;refine Qw (by repeat (first|exact Qv|exact Qp|exact Qq|exact Qr|exact Qs|apply Qo|apply Qu|apply Qx|apply Q2|apply Q3|apply Qk)) [(2,2),(4,4),(6,6),(12,26)] [4] (fun n J hp=>∃i,n=p.length-i/\i<=p.length/\(∀t∈p.take i,∀x∈t.2,¬1048576<x)/\J 12= .int .i64 (i:Nat)) p.length ?_ ?_
 ·refine⟨0,rfl,by omega,by simp,?_⟩;refine Sz0 ?_;rfl
 rintro _ J h ⟨i,rfl,hi,h1,h12⟩;refine Sz1 h12 ?_;refine Qb (fun hg=>?_) (fun hg=>?_)
 ·have hi':i<p.length:=by omega
  have hmem:=List.getElem_mem hi';have hmb:=hp _ hmem;have htk:p.take (i+1)=p.take i++[p[i]]:=List.take_succ_eq_append_getElem hi';generalize hx:p[i]=x at *
  have hml:=hmb.len;refine Sz2 h12 hx ?_;refine Qw (by repeat (first|exact Qv|exact Qp|exact Qq|exact Qr|exact Qs|apply Qo|apply Qu|apply Qx|apply Q2|apply Q3|apply Qk)) [(2,2),(6,6),(19,25)] [] (fun n J hp=>∃j,n=x.2.length-j/\j<=x.2.length/\(∀y∈x.2.take j,¬1048576<y)/\J 19= .int .i64 (j:Nat)) x.2.length ?_ ?_
  ·refine⟨0,rfl,by omega,by simp,?_⟩;refine Sz0 ?_;rfl
  rintro _ J2 h' ⟨j,rfl,hj,h2,h19⟩;refine Sz2 h19 hx ?_;refine Qb (fun hg2=>?_) (fun hg2=>?_)
  ·have hj':j<x.2.length:=by omega
   have hmem2:=List.getElem_mem hj';have htk2:x.2.take (j+1)=x.2.take j++[x.2[j]]:=List.take_succ_eq_append_getElem hj';generalize hy:x.2[j]=y at *
   refine Sz3 h19 hx hy ?_;refine Qb (fun hb=>?_) (fun hb=>?_)
   ·refine Sz0 ?_;exact Qc (by rw[bad ⟨x,hmem,y,hmem2,hb⟩]) rfl
   ·refine Sz1 h19 ?_;refine Qh (x.2.length-(j+1)) (by omega) ⟨j+1,rfl,by omega,fun z hz=>?_,?_⟩
    ·rw[htk2,List.mem_append,List.mem_singleton]at hz;rcases hz with hz|rfl
     ·exact h2 z hz
     ·exact hb
    ·exact Tz0
  ·obtain rfl:j=x.2.length:=by omega
   rw[List.take_length]at h2;refine Sz1 h12 ?_;simp (disch:=decide) only[Qcj,Qif];refine Qh (p.length-(i+1)) (by omega) ⟨i+1,rfl,by omega,fun t ht=>?_,?_⟩
   ·rw[htk,List.mem_append,List.mem_singleton]at ht;rcases ht with ht|rfl
    ·exact h1 t ht
    ·exact h2
   ·exact Tz0
 ·obtain rfl:i=p.length:=by omega
  rw[List.take_length]at h1;refine Sz0 ?_;refine Qc (congrArg PV.bool ?_) rfl;rw[Qa2,decide_eq_false (by omega),Bool.false_or,eq_comm,List.any_eq_false];intro t ht;rw[List.any_eq_true];rintro⟨y,hy,hd⟩;exact h1 t ht y hy (of_decide_eq_true hd)
end Go.Proofs.YtdaldpkjhcfblaaGreat
namespace Go.FW
open Go
variable {C : Ctx} {fr : Fr} {hp : HP} {w : World} {K R : Qg}
end Go.FW
namespace Go.FW
open Go
variable {C : Ctx} {fr : Fr} {hp : HP} {K : Qg}
def Q3n(R:PV->Prop)(p q s t:PV):Prop:=(p.isData=true/\q.isData=true/\s.isData=true/\t.isData=true)/\∃r,PV.leR (.tup [p,q,s,t]) r/\R r
theorem Qbs{a b c d:Nat}{Rr:PV->Prop}:Qde [.t a,.t b,.t c,.t d] Rr fr hp=Q3n Rr (Q6 hp (fr a)) (Q6 hp (fr b)) (Q6 hp (fr c)) (Q6 hp (fr d)):=by simp[Qde,Q3n,okR,rvP]
theorem Q3o{p q s t p' q' s' t' r:PV}(h:r= .tup [p',q',s',t'])(d1:p.isData=true)(d2:q.isData=true)(d3:s.isData=true)(d4:t.isData=true)(h1:PV.le p p')(h2:PV.le q q')(h3:PV.le s s')(h4:PV.le t t'):Q3n (· =r) p q s t:=
 ⟨⟨d1,d2,d3,d4⟩,r,by subst h;exact⟨h1,h2,h3,h4,trivial⟩,rfl⟩
theorem Qcr{p q s t:PV}{d:Nat}(h:t.isData=true):Qf1 (.tup [p,q,s,t]) 3 d fr hp K=K (upd fr d t) hp:=by simp[Qf1,h]
theorem Qaog{z:List PV}{o n o2 n2 d β m e ty:Nat}{p:PV}{xs:List PV}{fz:Bool}(h:p.flat=true)(hb:hp β=some ⟨e,ty,xs,fz⟩)(hm:m=xs.length)(hB:isB β=false:=by decide):
  Qf2 z [(o,n,p),(o2,n2,.ms β m)] d fr hp K=((p.cells.length=n/\o+n<=z.length)/\(1=n2/\o2+n2<=z.length)/\K (upd fr d (.agg (Qc1 z [(o,p.cells),(o2,[.sl e xs])]))) (Qae hp [β])):=by
 obtain⟨s1,s2,s3⟩:=Qd4 (hp:=hp) h;have s4:Q6 hp (.ms β m)= .sl e xs:=by simp[Q6,Qar,Qki hB,hb,hm]
 have r4:(PV.ms β m).refs=[β]:=rfl;have c4:(PV.sl e xs).cells=[.sl e xs]:=rfl;have d4:(PV.sl e xs).isData=true:=rfl;have i1:p.isNst=false:=Qm4 h;have i2:(PV.ms β m).isNst=false:=by simp[isB]at hB;simp[PV.isNst];omega
 unfold Qf2 Qrr Qww;rw[if_neg (by simp[i1,i2])];apply propext;simp only[List.mem_cons,List.not_mem_nil,or_false,forall_eq_or_imp,forall_eq,s1,s3,s4,d4,c4,List.length_cons,List.length_nil,true_and,List.map_cons,List.map_nil,List.flatMap_cons,List.flatMap_nil,s2,r4,List.nil_append,List.append_nil,and_assoc,Nat.zero_add]
theorem Qagw{v n K:Nat}(hv:v<64)(h0:0<n)(hK:2<=K):PB K n [((1:Rat),Qbz v n)]:=fun t ht=>by
 obtain rfl:t=(1,Qbz v n):=by simpa using ht
 have:=Qrc;exact⟨by show rs 1+1<=K;omega,Qup hv,Qlo h0⟩
def Qal3(l:List (List Tm))(v:Nat):Nat->List Tm
 |0=>[]
 |n+1=>Q7 (Qal3 l v n) (Qed (l.getD n []) v n)
theorem Qwf{p:List Tm}{v n K E:Nat}(hp:PB K E p)(hv:v<64):PB (K+2) (E+n) (Qed p v n)/\(Qed p v n).length<=p.length:=by
 unfold Qed;split
 ·exact⟨hp.mono (by omega) (by omega),Nat.le_refl _⟩
 ·obtain⟨h1,h2⟩:=Qhy hp (Qagw (n:=n) hv (by omega) (Nat.le_refl 2));refine⟨h1.mono ?_ (Nat.le_refl _),by simpa using h2⟩;have:min p.length [((1:Rat),Qbz v n)].length*(K+2)<=1*(K+2):=Nat.mul_le_mul_right _ (by simp;omega);omega
def dvS(g:List Tm)(v d:Nat)(f:List Tm):Nat->List Tm×List Tm
 |0=>([],f)
 |k+1=>(dvQ (dvS g v d f k).1 (dvS g v d f k).2 g v (Qat (dvS g v d f k).2 v).toNat d,dvR (dvS g v d f k).2 g v (Qat (dvS g v d f k).2 v).toNat d)
theorem Q1d{g:List Tm}{v d:Nat}{f:List Tm}(hf:Nrm f)(hg:Nrm g):∀k,Nrm (dvS g v d f k).1/\Nrm (dvS g v d f k).2
 |0=>⟨Nrm.nil,hf⟩
 |k+1=>by obtain⟨h1,h2⟩:=Q1d (v:=v) (d:=d) hf hg k;exact⟨Qagu h1 h2 hg,Qagv h2 hg⟩
theorem Qtb{g:List Tm}{v d:Nat}{q r:List Tm}{k:Nat}(h:r=[]∨Qat r v<d):∀fuel,Qgl g v d fuel q r k= .tup [PV.poly q,PV.poly r,.int .i64 k,.int .i64 0]
 |0=>rfl
 |n+1=>by rw[Qgl,if_pos h]
theorem Qzz{g:List Tm}{v d:Nat}{q r:List Tm}{k fuel:Nat}(h:¬(r=[]∨Qat r v<d))(h2:Qa2 (dvQ q r g v (Qat r v).toNat d)=true∨Qa2 (dvR r g v (Qat r v).toNat d)=true):
  Qgl g v d (fuel+1) q r k= .tup [PV.poly [],PV.poly [],.int .i64 0,.int .i64 4]:=by rw[Qgl,if_neg h,if_pos h2]
theorem Q3p{g:List Tm}{v d:Nat}{q r:List Tm}{k fuel:Nat}(h:¬(r=[]∨Qat r v<d))(h2:¬(Qa2 (dvQ q r g v (Qat r v).toNat d)=true∨Qa2 (dvR r g v (Qat r v).toNat d)=true)):
  Qgl g v d (fuel+1) q r k=Qgl g v d fuel (dvQ q r g v (Qat r v).toNat d) (dvR r g v (Qat r v).toNat d) (k+1):=by rw[Qgl,if_neg h,if_neg h2]
theorem Qab6{q r g:List Tm}{v n d K E M:Nat}(hq:PB K E q)(hr:PB K E r)(hg:PB K E g)(hM:g.length<=M)(hv:v<64)(hn:n<=E):
  PB (K+2) (E+E) (dvB r v n d)/\(dvB r v n d).length<=r.length/\
  PB (M*(K+K)) (E+E) (Qai (Qam g v d) q)/\(Qai (Qam g v d) q).length<=M*q.length/\
  PB (M*(K+K)) (E+E) (Qai (Qam g v d) r)/\(Qai (Qam g v d) r).length<=M*r.length/\
  PB (M*(K+K+2)) (E+E+E) (Qai (dvB r v n d) g)/\(Qai (dvB r v n d) g).length<=r.length*M:=by
 have hcl:(Qam g v d).length<=M:=Nat.le_trans (Qdp _ _ _) hM;have hcb:=Qil hg v (d:Int);obtain⟨b1,b2⟩:=Qwf (n:=n-d) (Qil hr v (n:Int)) hv;have b2':(dvB r v n d).length<=r.length:=Nat.le_trans b2 (Qdp _ _ _);have b1':PB (K+2) (E+E) (dvB r v n d):=b1.mono (Nat.le_refl _) (by omega);obtain⟨m1,m2⟩:=Qhy hcb hq;obtain⟨m3,m4⟩:=Qhy hcb hr;obtain⟨m5,m6⟩:=Qhy b1' hg;refine⟨b1',b2',m1.mono (Nat.mul_le_mul_right _ (by omega)) (Nat.le_refl _),Nat.le_trans m2 (Nat.mul_le_mul_right _ hcl),m3.mono (Nat.mul_le_mul_right _ (by omega)) (Nat.le_refl _),Nat.le_trans m4 (Nat.mul_le_mul_right _ hcl),m5.mono ?_ (by omega),Nat.le_trans m6 (Nat.mul_le_mul b2' hM)⟩;have e:K+2+K=K+K+2:=by omega
 rw[e];exact Nat.mul_le_mul_right _ (by omega)
end Go.FW
namespace Go.FW
open Go
theorem Qtc:∀ {p:List Tm},Qa9 p->∀n,Qa9 (p.take n)
 |_,_,0=>trivial
 | [],_,n+1=>trivial
 |t::p,h,n+1=>⟨fun s hs=>h.1 s (List.mem_of_mem_take hs),Qtc h.2 n⟩
theorem Nrm.take{p:List Tm}(h:Nrm p)(n:Nat):Nrm (p.take n):=⟨fun t ht=>h.c t (List.mem_of_mem_take ht),fun t ht=>h.z t (List.mem_of_mem_take ht),Qtc h.s n⟩
theorem Qtd{p:List Tm}(h:Nrm p):Qml [] p=p:=by rw[Q69 Nrm.nil h,Qex]
theorem Q3q{p:List Tm}(h:Nrm p){i:Nat}(hi:i<p.length):Qdu (p.take i) p[i].1 p[i].2=p.take (i+1):=by
 have e:=Qtd (Nrm.take h (i+1))
 rwa[List.take_succ_eq_append_getElem hi,Qzy,Qtd (Nrm.take h i),<-List.take_succ_eq_append_getElem hi]at e
end Go.FW
