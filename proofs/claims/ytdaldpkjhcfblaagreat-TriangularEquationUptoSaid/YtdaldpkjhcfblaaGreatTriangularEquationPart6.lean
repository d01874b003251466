/- Part 6 of the proof of TriangularEquation: W1, FwSM, FwUC. Own lemmas; no conditions. -/
import Derived.Test.YtdaldpkjhcfblaaGreatTriangularEquationPart5
set_option maxHeartbeats 1000000
set_option linter.unusedSimpArgs false
set_option linter.unusedVariables false
set_option linter.unnecessarySimpa false
set_option maxRecDepth 100000
namespace Go.Proofs.YtdaldpkjhcfblaaGreat
open Go Go.FW
def exi(v:Int):Nat:=if v<0 then 64 else v.toNat
theorem Qet(n:Nat):exi n=n:=by unfold exi;rw[if_neg (by omega)];omega
theorem Qw9{a:List Int}{v:Int}{E:Nat}(h:MB E a):Qd Tryz.prog 51 [PV.mono a,.int .i64 v] (· = .int .i64 (eN a (exi v))):=by
 have hl:=h.len;have:=Qu7 (a:=a) (v:=v) (by omega);have e:(if v<0 then 0 else eN a v.toNat)=eN a (exi v):=by
  unfold exi;split
  ·rw[Qcs (by omega)]
  ·rfl
 rwa[e]at this
theorem Q6i{m:List Int}{v:Nat}(hl:m.getLast? ≠some 0)(h:eN m v=0):Qcd m v=m:=
 Qey (Qlh m v) hl fun i=>by
  rw[Qg9];split
  ·rename_i e;rw[e,h]
  ·rfl
theorem Qce{p:List Tm}{v:Int}{K E:Nat}(hp:PB K E p)(hlp:p.length<=2^36):Qd Tryz.prog 17 [PV.poly p,.int .i64 v] (· = .int .i64 (Q8 p (exi v))):=by
 refine Qf Qj Tryz.func17 rfl Qaok (by simp[c17]) fun C hP=>?_;simp only[c17];refine Sz0 ?_;refine Qy (by repeat (first|exact Qu|exact Qn|exact Qo|exact Qk|exact Qp|apply Qm|apply Qt|apply Qw|apply Q5|apply Q6|apply Qi)) [(5,5),(7,7),(10,20)] [7] (fun n J hp=>∃i,n=p.length-i/\i<=p.length/\J 5= .int .i64 (Q8 (p.take i) (exi v))/\J 10= .int .i64 (i:Nat)) p.length ?_ ?_
 ·refine⟨0,rfl,by omega,?_⟩;refine Sz0 ?_;exact⟨rfl,rfl⟩
 rintro _ J h ⟨i,rfl,hi,h5,h10⟩;refine Sz2 h5 h10 ?_;refine Qb (fun hg=>?_) (fun hg=>?_)
 ·have hi':i<p.length:=by omega
  have htp:=hp.get hi';have htk:=Qyo (v:=exi v) hi';generalize hx:p[i]=x at *
  have hml:=htp.m.len;refine Sz3 h5 h10 hx ?_;refine Qa hP (Qw9 htp.m) rfl rfl rfl ?_;refine Sz3 h5 h10 hx ?_;refine Qh (p.length-(i+1)) (by omega) ⟨i+1,rfl,by omega,?_⟩;rw[htk];exact Tz0
 ·obtain rfl:i=p.length:=by omega
  rw[List.take_length]at h5;refine Sz1 h5 ?_;exact Qc rfl rfl
theorem Qvl{m:List Int}{v:Int}{E:Nat}(hm:MB E m)(hl:m.getLast? ≠some 0):Qd Tryz.prog 120 [PV.mono m,.int .i64 v] (· =PV.mono (Qcd m (exi v))):=by
 have hml:=hm.len;refine Qf Qj Tryz.func120 rfl Qajk (by simp[c120]) fun C hP=>?_;simp only[c120];refine Sz0 ?_;refine Qa hP (Qw9 hm) rfl rfl rfl ?_;refine Sz0 ?_;refine Qb (fun h0=>?_) (fun h0=>?_)
 ·refine Sz0 ?_;exact Qc (congrArg PV.mono (Q6i hl (by omega)).symm) rfl
 ·obtain⟨n,rfl⟩:∃n:Nat,v=n:=by refine⟨v.toNat,?_⟩;apply Decidable.byContradiction;intro hn;rw[exi,if_pos (by omega),Qcs (by omega)]at h0;omega
  rw[Qet]at h0⊢;generalize n=v at *
  have hsl:(m.set v 0).length=m.length:=by simp
  have hvl:v<m.length:=by apply Decidable.byContradiction;intro hn;rw[Qcs (by omega)]at h0;omega
  refine Sz0 ?_;refine Qacy 5 Uz0 ?_;refine Vz0 ?_;rw[show List.take m.length (Qee (m.set v 0))=Qee (m.set v 0)from List.take_of_length_le (by simp[Qee])];refine Qy (by repeat (first|exact Qu|exact Qn|exact Qo|exact Qk|exact Qp|apply Qm|apply Qt|apply Qw|apply Q5|apply Q6|apply Qi)) [(6,6),(19,30)] [] (fun n J hp=>n<=m.length/\Qg6 (m.set v 0) n=Qcd m v/\J 6= .int .i64 n) m.length ?_ ?_
  ·refine⟨Nat.le_refl _,by rw[Qcd,Qdf,hsl],?_⟩;exact Tz0
  rintro n J _ ⟨hn,hc,h6⟩;refine Sz1 h6 ?_;refine Qat (fun hg=>?_) (fun hg=>?_)
  ·obtain _|n:=n
   ·omega
   have e:((n+1:Nat):Int)-1=n:=by omega
   simp only[Qg6]at hc;simp+decide (disch:=first|omega|rfl|(simp+decide only[go_sem,↓reduceIte,h6,e]<;>rfl)|fail) only[go_sem,↓reduceIte,h6,e];refine Qb (fun hz=>?_) (fun hz=>?_)
   ·rw[if_pos (by simp[hz,show n<m.length by omega])]at hc;refine Sz2 h6 e ?_;refine Qh n (by omega) ⟨by omega,hc,?_⟩;exact Tz0
   ·rw[if_neg (by simpa[show n<m.length by omega]using hz)]at hc;refine Sz2 h6 e ?_;exact Qc (congrArg PV.mono hc) rfl
  ·obtain rfl:n=0:=by omega
   refine Sz1 h6 ?_;exact Qc (congrArg PV.mono hc) rfl
theorem Qme{p:List Tm}{v n:Int}{K E:Nat}(hp:PB K E p)(hlp:p.length<=2^36):Qd Tryz.prog 72 [PV.poly p,.int .i64 v,.int .i64 n] (· =PV.poly (Qae p (exi v) n)):=by
 refine Qf Qj Tryz.func72 rfl Qaol (by simp[c72]) fun C hP=>?_;simp only[c72];refine Sz0 ?_;refine Qes 7 900 4 54 (by omega) Tz0 ?_;refine Qy (by repeat (first|exact Qu|exact Qn|exact Qo|exact Qk|exact Qp|apply Qm|apply Qt|apply Qw|apply Q5|apply Q6|apply Qi)) [(7,7),(9,9),(12,32)] [9,30,31,900] (fun m J hp=>∃i,m=p.length-i/\i<=p.length/\J 7= .ms 900 (Qae (p.take i) (exi v) n).length/\J 12= .int .i64 (i:Nat)/\hp 900=some ⟨4,54,(Qae (p.take i) (exi v) n).map PV.term,false⟩) p.length ?_ ?_
 ·refine⟨0,rfl,by omega,?_⟩;refine Sz0 ?_;exact⟨rfl,rfl,rfl⟩
 rintro _ J h ⟨i,rfl,hi,h7,h12,hh⟩;refine Sz2 h7 h12 ?_;refine Qb (fun hg=>?_) (fun hg=>?_)
 ·have hi':i<p.length:=by omega
  have htp:=hp.get hi';have hck:=Qvj (v:=exi v) (n:=n) hi';have hcl:=Qc8 (p.take i) (exi v) n;rw[List.length_take]at hcl;generalize hx:p[i]=x at *
  have hml:=htp.m.len;refine Sz3 h7 h12 hx ?_;refine Qa hP (Qw9 htp.m) rfl rfl rfl ?_;refine Sz3 h7 h12 hx ?_;refine Qb (fun hc=>?_) (fun hc=>?_)
  ·rw[if_pos hc]at hck;refine Sz3 h7 h12 hx ?_;refine Qa hP (Qvl htp.m htp.l) rfl rfl rfl ?_;refine Sz3 h7 h12 hx ?_;rw[Qag (f:=PV.term) (y:=(x.1,Qcd x.2 (exi v))) (xs:=Qae (p.take i) (exi v) n) (ty':=54) (fz:=false) (Tz1 hh) Qcv (by omega) rfl (by omega) (by omega)];refine Sz3 h7 h12 hx ?_;refine Qh (p.length-(i+1)) (by omega) ⟨i+1,rfl,by omega,?_⟩;rw[hck];simp+decide (disch:=first|omega|rfl|(simp+decide only[go_sem,↓reduceIte,List.length_append]<;>rfl)|fail) only[go_sem,↓reduceIte,List.length_append]
  ·rw[if_neg hc,List.append_nil]at hck;refine Sz3 h7 h12 hx ?_;refine Qh (p.length-(i+1)) (by omega) ⟨i+1,rfl,by omega,?_⟩;rw[hck];exact Tz2 h7 hh
 ·obtain rfl:i=p.length:=by omega
  rw[List.take_length]at h7 hh;refine Vz2 h7 hh ?_;exact Qc (by simp[List.take_of_length_le]) rfl
theorem Qk0{p:List Tm}{E:Nat}(hp:∀t∈p,MB E t.2)(hlp:p.length<=2^36):Qd Tryz.prog 71 [PV.poly p] (· = .bool (Qaf p)):=by
 have bad:(∃t∈p,∃x∈t.2,1048576<x)->Qaf p=true:=fun⟨t,ht,x,hx,h⟩=>by
  unfold Qaf;have:(p.any fun t=>t.2.any fun x=>decide (1048576<x))=true:=by rw[List.any_eq_true];exact⟨t,ht,by rw[List.any_eq_true];exact⟨x,hx,decide_eq_true h⟩⟩
  rw[this,Bool.or_true]
 refine Qf Qj Tryz.func71 rfl Qaoi (by simp[c71]) fun C hP=>?_;simp only[c71];refine Sz0 ?_;refine Qb (fun hl=>?_) (fun hl=>?_)
 ·refine Sz0 ?_;exact Qc (by rw[Qaf,decide_eq_true (by omega),Bool.true_or]) rfl
 refine Sz0 ?_;refine Qy (by repeat (first|exact Qu|exact Qn|exact Qo|exact Qk|exact Qp|apply Qm|apply Qt|apply Qw|apply Q5|apply Q6|apply Qi)) [(2,2),(4,4),(6,6),(12,26)] [4] (fun n J hp=>∃i,n=p.length-i/\i<=p.length/\(∀t∈p.take i,∀x∈t.2,¬1048576<x)/\J 12= .int .i64 (i:Nat)) p.length ?_ ?_
 ·refine⟨0,rfl,by omega,by simp,?_⟩;refine Sz0 ?_;rfl
 rintro _ J h ⟨i,rfl,hi,h1,h12⟩;refine Sz1 h12 ?_;refine Qb (fun hg=>?_) (fun hg=>?_)
 ·have hi':i<p.length:=by omega
  have hmem:=List.getElem_mem hi';have hmb:=hp _ hmem;have htk:p.take (i+1)=p.take i++[p[i]]:=List.take_succ_eq_append_getElem hi';generalize hx:p[i]=x at *
  have hml:=hmb.len;refine Sz2 h12 hx ?_;refine Qy (by repeat (first|exact Qu|exact Qn|exact Qo|exact Qk|exact Qp|apply Qm|apply Qt|apply Qw|apply Q5|apply Q6|apply Qi)) [(2,2),(6,6),(19,25)] [] (fun n J hp=>∃j,n=x.2.length-j/\j<=x.2.length/\(∀y∈x.2.take j,¬1048576<y)/\J 19= .int .i64 (j:Nat)) x.2.length ?_ ?_
  ·refine⟨0,rfl,by omega,by simp,?_⟩;refine Sz0 ?_;rfl
  rintro _ J2 h' ⟨j,rfl,hj,h2,h19⟩;refine Sz2 h19 hx ?_;refine Qb (fun hg2=>?_) (fun hg2=>?_)
  ·have hj':j<x.2.length:=by omega
   have hmem2:=List.getElem_mem hj';have htk2:x.2.take (j+1)=x.2.take j++[x.2[j]]:=List.take_succ_eq_append_getElem hj';generalize hy:x.2[j]=y at *
   refine Sz3 h19 hx hy ?_;refine Qb (fun hb=>?_) (fun hb=>?_)
   ·refine Sz0 ?_;exact Qc (by rw[bad ⟨x,hmem,y,hmem2,hb⟩]) rfl
   ·refine Sz1 h19 ?_;refine Qh (x.2.length-(j+1)) (by omega) ⟨j+1,rfl,by omega,fun z hz=>?_,?_⟩
    ·rw[htk2,List.mem_append,List.mem_singleton]at hz;rcases hz with hz|rfl
     ·exact h2 z hz
     ·exact hb
    ·exact Tz0
  ·obtain rfl:j=x.2.length:=by omega
   rw[List.take_length]at h2;refine Sz1 h12 ?_;simp (disch:=decide) only[Qb3,Qfx];refine Qh (p.length-(i+1)) (by omega) ⟨i+1,rfl,by omega,fun t ht=>?_,?_⟩
   ·rw[htk,List.mem_append,List.mem_singleton]at ht;rcases ht with ht|rfl
    ·exact h1 t ht
    ·exact h2
   ·exact Tz0
 ·obtain rfl:i=p.length:=by omega
  rw[List.take_length]at h1;refine Sz0 ?_;refine Qc (congrArg PV.bool ?_) rfl;rw[Qaf,decide_eq_false (by omega),Bool.false_or,eq_comm,List.any_eq_false];intro t ht;rw[List.any_eq_true];rintro⟨y,hy,hd⟩;exact h1 t ht y hy (of_decide_eq_true hd)
end Go.Proofs.YtdaldpkjhcfblaaGreat
namespace Go.FW
open Go
variable {C : Ctx} {fr : Fr} {hp : HP} {w : World} {K R : Qg}
end Go.FW
namespace Go.FW
open Go
variable {C : Ctx} {fr : Fr} {hp : HP} {K : Qg}
def Q6j(R:PV->Prop)(p q s t:PV):Prop:=(p.isData=true/\q.isData=true/\s.isData=true/\t.isData=true)/\∃r,PV.leR (.tup [p,q,s,t]) r/\R r
theorem Qal{a b c d:Nat}{Rr:PV->Prop}:Qdx [.t a,.t b,.t c,.t d] Rr fr hp=Q6j Rr (Qaa hp (fr a)) (Qaa hp (fr b)) (Qaa hp (fr c)) (Qaa hp (fr d)):=by simp[Qdx,Q6j,okR,rvP]
theorem Qq6{p q s t p' q' s' t' r:PV}(h:r= .tup [p',q',s',t'])(d1:p.isData=true)(d2:q.isData=true)(d3:s.isData=true)(d4:t.isData=true)(h1:PV.le p p')(h2:PV.le q q')(h3:PV.le s s')(h4:PV.le t t'):Q6j (· =r) p q s t:=
 ⟨⟨d1,d2,d3,d4⟩,r,by subst h;exact⟨h1,h2,h3,h4,trivial⟩,rfl⟩
theorem Qaz{p q s t:PV}{d:Nat}(h:t.isData=true):Qg1 (.tup [p,q,s,t]) 3 d fr hp K=K (upd fr d t) hp:=by simp[Qg1,h]
theorem Qagt{z:List PV}{o n o2 n2 d β m e ty:Nat}{p:PV}{xs:List PV}{fz:Bool}(h:p.flat=true)(hb:hp β=some ⟨e,ty,xs,fz⟩)(hm:m=xs.length)(hB:isB β=false:=by decide):
  Qg2 z [(o,n,p),(o2,n2,.ms β m)] d fr hp K=((p.cells.length=n/\o+n<=z.length)/\(1=n2/\o2+n2<=z.length)/\K (upd fr d (.agg (Qdi z [(o,p.cells),(o2,[.sl e xs])]))) (Qaj hp [β])):=by
 obtain⟨s1,s2,s3⟩:=Qen (hp:=hp) h;have s4:Qaa hp (.ms β m)= .sl e xs:=by simp[Qaa,Qa0,Qlu hB,hb,hm]
 have r4:(PV.ms β m).refs=[β]:=rfl;have c4:(PV.sl e xs).cells=[.sl e xs]:=rfl;have d4:(PV.sl e xs).isData=true:=rfl;have i1:p.isNst=false:=Qos h;have i2:(PV.ms β m).isNst=false:=by simp[isB]at hB;simp[PV.isNst];omega
 unfold Qg2 Qt2 Qzs;rw[if_neg (by simp[i1,i2])];apply propext;simp only[List.mem_cons,List.not_mem_nil,or_false,forall_eq_or_imp,forall_eq,s1,s3,s4,d4,c4,List.length_cons,List.length_nil,true_and,List.map_cons,List.map_nil,List.flatMap_cons,List.flatMap_nil,s2,r4,List.nil_append,List.append_nil,and_assoc,Nat.zero_add]
theorem Q6k(q:List Tm):Qx [] q=[]:=by rw[List.eq_nil_iff_forall_not_mem];intro t ht;obtain⟨a,ha,_⟩:=Qic ht;cases ha
theorem Q4a{v n K:Nat}(hv:v<64)(h0:0<n)(hK:2<=K):PB K n [((1:Rat),Qbl v n)]:=fun t ht=>by
 obtain rfl:t=(1,Qbl v n):=by simpa using ht
 have:=Qnc;exact⟨by show rs 1+1<=K;omega,Qw8 hv,Qm3 h0⟩
def Qao0(l:List (List Tm))(v:Nat):Nat->List Tm
 |0=>[]
 |n+1=>Q4 (Qao0 l v n) (Qcn (l.getD n []) v n)
theorem Qpz{p:List Tm}{v n K E:Nat}(hp:PB K E p)(hv:v<64):PB (K+2) (E+n) (Qcn p v n)/\(Qcn p v n).length<=p.length:=by
 unfold Qcn;split
 ·exact⟨hp.mono (by omega) (by omega),Nat.le_refl _⟩
 ·obtain⟨h1,h2⟩:=Qfg hp (Q4a (n:=n) hv (by omega) (Nat.le_refl 2));refine⟨h1.mono ?_ (Nat.le_refl _),by simpa using h2⟩;have:min p.length [((1:Rat),Qbl v n)].length*(K+2)<=1*(K+2):=Nat.mul_le_mul_right _ (by simp;omega);omega
def dvS(g:List Tm)(v d:Nat)(f:List Tm):Nat->List Tm×List Tm
 |0=>([],f)
 |k+1=>(dvQ (dvS g v d f k).1 (dvS g v d f k).2 g v (Q8 (dvS g v d f k).2 v).toNat d,dvR (dvS g v d f k).2 g v (Q8 (dvS g v d f k).2 v).toNat d)
theorem Qjq{g:List Tm}{v d:Nat}{f:List Tm}(hf:Nrm f)(hg:Nrm g):∀k,Nrm (dvS g v d f k).1/\Nrm (dvS g v d f k).2
 |0=>⟨Nrm.nil,hf⟩
 |k+1=>by obtain⟨h1,h2⟩:=Qjq (v:=v) (d:=d) hf hg k;exact⟨Qajn h1 h2 hg,Qajo h2 hg⟩
theorem Qi5{g:List Tm}{v d:Nat}{q r:List Tm}{k:Nat}(h:r=[]∨Q8 r v<d):∀fuel,Qe8 g v d fuel q r k= .tup [PV.poly q,PV.poly r,.int .i64 k,.int .i64 0]
 |0=>rfl
 |n+1=>by rw[Qe8,if_pos h]
theorem Qnh{g:List Tm}{v d:Nat}{q r:List Tm}{k fuel:Nat}(h:¬(r=[]∨Q8 r v<d))(h2:Qaf (dvQ q r g v (Q8 r v).toNat d)=true∨Qaf (dvR r g v (Q8 r v).toNat d)=true):
  Qe8 g v d (fuel+1) q r k= .tup [PV.poly [],PV.poly [],.int .i64 0,.int .i64 4]:=by rw[Qe8,if_neg h,if_pos h2]
theorem Qpk{g:List Tm}{v d:Nat}{q r:List Tm}{k fuel:Nat}(h:¬(r=[]∨Q8 r v<d))(h2:¬(Qaf (dvQ q r g v (Q8 r v).toNat d)=true∨Qaf (dvR r g v (Q8 r v).toNat d)=true)):
  Qe8 g v d (fuel+1) q r k=Qe8 g v d fuel (dvQ q r g v (Q8 r v).toNat d) (dvR r g v (Q8 r v).toNat d) (k+1):=by rw[Qe8,if_neg h,if_neg h2]
theorem Q1q{q r g:List Tm}{v n d K E M:Nat}(hq:PB K E q)(hr:PB K E r)(hg:PB K E g)(hM:g.length<=M)(hv:v<64)(hn:n<=E):
  PB (K+2) (E+E) (dvB r v n d)/\(dvB r v n d).length<=r.length/\
  PB (M*(K+K)) (E+E) (Qx (Qae g v d) q)/\(Qx (Qae g v d) q).length<=M*q.length/\
  PB (M*(K+K)) (E+E) (Qx (Qae g v d) r)/\(Qx (Qae g v d) r).length<=M*r.length/\
  PB (M*(K+K+2)) (E+E+E) (Qx (dvB r v n d) g)/\(Qx (dvB r v n d) g).length<=r.length*M:=by
 have hcl:(Qae g v d).length<=M:=Nat.le_trans (Qc8 _ _ _) hM;have hcb:=Qfs hg v (d:Int);obtain⟨b1,b2⟩:=Qpz (n:=n-d) (Qfs hr v (n:Int)) hv;have b2':(dvB r v n d).length<=r.length:=Nat.le_trans b2 (Qc8 _ _ _);have b1':PB (K+2) (E+E) (dvB r v n d):=b1.mono (Nat.le_refl _) (by omega);obtain⟨m1,m2⟩:=Qfg hcb hq;obtain⟨m3,m4⟩:=Qfg hcb hr;obtain⟨m5,m6⟩:=Qfg b1' hg;refine⟨b1',b2',m1.mono (Nat.mul_le_mul_right _ (by omega)) (Nat.le_refl _),Nat.le_trans m2 (Nat.mul_le_mul_right _ hcl),m3.mono (Nat.mul_le_mul_right _ (by omega)) (Nat.le_refl _),Nat.le_trans m4 (Nat.mul_le_mul_right _ hcl),m5.mono ?_ (by omega),Nat.le_trans m6 (Nat.mul_le_mul b2' hM)⟩;have e:K+2+K=K+K+2:=by omega
 rw[e];exact Nat.mul_le_mul_right _ (by omega)
end Go.FW
namespace Go.FW
open Go
theorem Qvm:∀ {p:List Tm},Qbc p->∀n,Qbc (p.take n)
 |_,_,0=>trivial
 | [],_,n+1=>trivial
 |t::p,h,n+1=>⟨fun s hs=>h.1 s (List.mem_of_mem_take hs),Qvm h.2 n⟩
theorem Nrm.take{p:List Tm}(h:Nrm p)(n:Nat):Nrm (p.take n):=⟨fun t ht=>h.c t (List.mem_of_mem_take ht),fun t ht=>h.z t (List.mem_of_mem_take ht),Qvm h.s n⟩
theorem Qvn{p:List Tm}(h:Nrm p):Qn8 [] p=p:=by rw[Q9z Nrm.nil h,Qez]
theorem Q6l{p:List Tm}(h:Nrm p){i:Nat}(hi:i<p.length):Qed (p.take i) p[i].1 p[i].2=p.take (i+1):=by
 have e:=Qvn (Nrm.take h (i+1))
 rwa[List.take_succ_eq_append_getElem hi,Q2y,Qvn (Nrm.take h i),<-List.take_succ_eq_append_getElem hi]at e
theorem Q4b:Nrm [((1:Rat),([]:List Int))]:=Nrm.one (show(1:Rat)≠0 by decide) (by simp)
theorem Q6m{p:List Tm}(h:Nrm p):Qx p [(1,[])]=p:=by refine Qfd (Qam h.s Q4b.s) h fun φ=>?_;rw[Qc0];refine Qch fun t ht=>?_;rw[Qav,Qcq,Rat.one_mul,Rat.add_zero,Ql8 (h.c t ht)]
def ppx(v n:Nat):List Tm:=if n=0 then [(1,[])]else [(1,Qbl v n)]
theorem Q4c(v n:Nat):Nrm (ppx v n):=by
 unfold ppx;split
 ·exact Q4b
 ·exact Q1n (by omega)
theorem Q90{v n:Nat}(hv:v<64):PB 2 n (ppx v n):=by
 unfold ppx;split
 ·intro t ht;obtain rfl:t=(1,[]):=by simpa using ht
  have:=Qnc;exact⟨by show rs 1+1<=2;omega,⟨by simp,by simp,by simp⟩,by simp⟩
 ·exact Q4a hv (by omega) (Nat.le_refl 2)
theorem Qajp(v n:Nat):(ppx v n).length=1:=by unfold ppx;split<;>rfl
theorem Q91{p:List Tm}(h:Nrm p)(v n:Nat):Qx p (ppx v n)=Qcn p v n:=by
 unfold ppx Qcn;split
 ·exact Q6m h
 ·rfl
end Go.FW
