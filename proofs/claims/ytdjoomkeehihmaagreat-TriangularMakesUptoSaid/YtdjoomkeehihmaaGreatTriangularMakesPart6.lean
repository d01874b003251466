/- Part 6 of the proof of TriangularMakes: W1, FwSM, FwUC. Own lemmas; no conditions. -/
import Derived.Test.YtdjoomkeehihmaaGreatTriangularMakesPart5
set_option maxHeartbeats 1000000
set_option linter.unusedSimpArgs false
set_option linter.unusedVariables false
set_option linter.unnecessarySimpa false
set_option maxRecDepth 100000
namespace Go.Proofs.YtdjoomkeehihmaaGreat
open Go Go.FW
def cP(v:Int):Nat:=if v<0 then 64 else v.toNat
theorem mA(n:Nat):cP n=n:=by unfold cP;rw[if_neg (by omega)];omega
theorem H0{a:List Int}{v:Int}{E:Nat}(h:MB E a):Qc Tryz.prog 124 [PV.mono a,.int .i64 v] (· = .int .i64 (eN a (cP v))):=by
 have hl:=h.len;have:=Sn (a:=a) (v:=v) (by omega);have e:(if v<0 then 0 else eN a v.toNat)=eN a (cP v):=by
  unfold cP;split
  ·rw[fq (by omega)]
  ·rfl
 rwa[e]at this
theorem YM{m:List Int}{v:Nat}(hl:m.getLast? ≠some 0)(h:eN m v=0):ew m v=m:=
 qh (CD m v) hl fun i=>by
  rw[uR];split
  ·rename_i e;rw[e,h]
  ·rfl
theorem uy{p:List Tm}{v:Int}{K E:Nat}(hp:PB K E p)(bV:p.length<=2^36):Qc Tryz.prog 67 [PV.aj p,.int .i64 v] (· = .int .i64 (Q3 p (cP v))):=by
 refine Qf Qj Tryz.func67 rfl aiE (by simp[KA]) fun C hP=>?_;simp only[KA,Zo,Zg,Zm,Zc,Zf,Zl,Zh,Zs,Zi,Zb,Zk,Zn,Zu,Zq,Zr,Zz];refine Sz0 ?_;refine Qz (by repeat (first|exact Qs|exact Ql|exact Qm|exact Qn|exact Qo|apply Qk|apply Qr|apply Qx|apply Q4|apply Q5|apply Qi)) [(5,5),(7,7),(10,20)] [7] (fun n J hp=>∃i,n=p.length-i/\i<=p.length/\J 5= .int .i64 (Q3 (p.take i) (cP v))/\J 10= .int .i64 (i:Nat)) p.length ?_ ?_
 ·refine⟨0,rfl,by omega,?_⟩;refine Sz0 ?_;exact⟨rfl,rfl⟩
 rintro _ J h ⟨i,rfl,hi,h5,bF⟩;refine Sz2 h5 bF ?_;refine Qb (fun hg=>?_) (fun hg=>?_)
 ·have aA:i<p.length:=by omega
  have ba:=hp.get aA;have bn:=TM (v:=cP v) aA;generalize hx:p[i]=x at *
  have nY:=ba.m.len;refine Sz3 h5 bF hx ?_;refine Qa hP (H0 ba.m) rfl rfl rfl ?_;refine Sz3 h5 bF hx ?_;refine Qh (p.length-(i+1)) (by omega) ⟨i+1,rfl,by omega,?_⟩;rw[bn];exact Tz0
 ·obtain rfl:i=p.length:=by omega
  rw[Kas]at h5;refine Sz1 h5 ?_;exact Qd rfl rfl
theorem Qwk{m:List Int}{v:Int}{E:Nat}(hm:MB E m)(hl:m.getLast? ≠some 0):Qc Tryz.prog 154 [PV.mono m,.int .i64 v] (· =PV.mono (ew m (cP v))):=by
 have nY:=hm.len;refine Qf Qj Tryz.func154 rfl ae2 (by simp[Ji]) fun C hP=>?_;simp only[Ji,Zo,Zg,Zm,Zc,Zf,Zl,Zh,Zs,Zi,Zb,Zk,Zn,Zu,Zq,Zr,Zz];refine Sz0 ?_;refine Qa hP (H0 hm) rfl rfl rfl ?_;refine Sz0 ?_;refine Qb (fun h0=>?_) (fun h0=>?_)
 ·refine Sz0 ?_;exact Qd (congrArg PV.mono (YM hl (by omega)).symm) rfl
 ·obtain⟨n,rfl⟩:∃n:Nat,v=n:=by refine⟨v.toNat,?_⟩;apply Decidable.byContradiction;intro hn;rw[cP,if_pos (by omega),fq (by omega)]at h0;omega
  rw[mA]at h0⊢;generalize n=v at *
  have cH:(m.set v 0).length=m.length:=by simp
  have jU:v<m.length:=by apply Decidable.byContradiction;intro hn;rw[fq (by omega)]at h0;omega
  refine Sz0 ?_;refine NO 5 xH ?_;refine eC ?_;rw[show List.take m.length (iI (m.set v 0))=iI (m.set v 0)from Kae (by simp[iI])];refine Qz (by repeat (first|exact Qs|exact Ql|exact Qm|exact Qn|exact Qo|apply Qk|apply Qr|apply Qx|apply Q4|apply Q5|apply Qi)) [(6,6),(19,30)] [] (fun n J hp=>n<=m.length/\kp (m.set v 0) n=ew m v/\J 6= .int .i64 n) m.length ?_ ?_
  ·refine⟨Kac _,by rw[ew,gL,cH],?_⟩;exact Tz0
  rintro n J _ ⟨hn,hc,h6⟩;refine Sz1 h6 ?_;refine fX (fun hg=>?_) (fun hg=>?_)
  ·obtain _|n:=n
   ·omega
   have e:((n+1:Nat):Int)-1=n:=by omega
   simp only[kp]at hc;simp+decide (disch:=try exact D2 h6 e) only[go_sem,h6,e];refine Qb (fun hz=>?_) (fun hz=>?_)
   ·rw[if_pos (by simp[hz,show n<m.length by omega])]at hc;refine Sz2 h6 e ?_;refine Qh n (by omega) ⟨by omega,hc,?_⟩;exact Tz0
   ·rw[if_neg (by simpa[show n<m.length by omega]using hz)]at hc;refine Sz2 h6 e ?_;exact Qd (congrArg PV.mono hc) rfl
  ·obtain rfl:n=0:=by omega
   refine Sz1 h6 ?_;exact Qd (congrArg PV.mono hc) rfl
theorem F3{p:List Tm}{v n:Int}{K E:Nat}(hp:PB K E p)(bV:p.length<=2^36):Qc Tryz.prog 106 [PV.aj p,.int .i64 v,.int .i64 n] (· =PV.aj (aX p (cP v) n)):=by
 refine Qf Qj Tryz.func106 rfl ae3 (by simp[Iw]) fun C hP=>?_;simp only[Iw,Zo,Zg,Zm,Zc,Zf,Zl,Zh,Zs,Zi,Zb,Zk,Zn,Zu,Zq,Zr,Zz];refine Sz0 ?_;refine kM 7 900 4 54 (by omega) Tz0 ?_;refine Qz (by repeat (first|exact Qs|exact Ql|exact Qm|exact Qn|exact Qo|apply Qk|apply Qr|apply Qx|apply Q4|apply Q5|apply Qi)) [(7,7),(9,9),(12,32)] [9,30,31,900] (fun m J hp=>∃i,m=p.length-i/\i<=p.length/\J 7= .ms 900 (aX (p.take i) (cP v) n).length/\J 12= .int .i64 (i:Nat)/\hp 900=some ⟨4,54,(aX (p.take i) (cP v) n).map PV.term,false⟩) p.length ?_ ?_
 ·refine⟨0,rfl,by omega,?_⟩;refine Sz0 ?_;exact⟨rfl,rfl,rfl⟩
 rintro _ J h ⟨i,rfl,hi,h7,bK,hh⟩;refine Sz2 h7 bK ?_;refine Qb (fun hg=>?_) (fun hg=>?_)
 ·have aA:i<p.length:=by omega
  have ba:=hp.get aA;have rW:=St (v:=cP v) (n:=n) aA;have eV:=pZ (p.take i) (cP v) n;rw[KaF]at eV;generalize hx:p[i]=x at *
  have nY:=ba.m.len;refine Sz3 h7 bK hx ?_;refine Qa hP (H0 ba.m) rfl rfl rfl ?_;refine Sz3 h7 bK hx ?_;refine Qb (fun hc=>?_) (fun hc=>?_)
  ·rw[if_pos hc]at rW;refine Sz3 h7 bK hx ?_;refine Qa hP (Qwk ba.m ba.l) rfl rfl rfl ?_;refine Sz3 h7 bK hx ?_;rw[Q9 (f:=PV.term) (y:=(x.1,ew x.2 (cP v))) (xs:=aX (p.take i) (cP v) n) (ty':=54) (fz:=false) (Tz1 hh) cE (by omega) rfl (by omega) (by omega)];refine Sz3 h7 bK hx ?_;refine Qh (p.length-(i+1)) (by omega) ⟨i+1,rfl,by omega,?_⟩;rw[rW];simp+decide (disch:=first|omega|rfl|(simp+decide only[go_sem,Kap]<;>rfl)|fail) only[go_sem,Kap]
  ·rw[if_neg hc,Kak]at rW;refine Sz3 h7 bK hx ?_;refine Qh (p.length-(i+1)) (by omega) ⟨i+1,rfl,by omega,?_⟩;rw[rW];exact Tz2 h7 hh
 ·obtain rfl:i=p.length:=by omega
  rw[Kas]at h7 hh;refine kQ h7 hh ?_;exact Qd (by simp[Kae]) rfl
theorem FT{p:List Tm}{E:Nat}(hp:∀t∈p,MB E t.2)(bV:p.length<=2^36):Qc Tryz.prog 105 [PV.aj p] (· = .bool (bf p)):=by
 have bad:(∃t∈p,∃x∈t.2,1048576<x)->bf p=true:=fun⟨t,ht,x,hx,h⟩=>by
  unfold bf;have:(p.any fun t=>t.2.any fun x=>decide (1048576<x))=true:=by rw[Ka4];exact⟨t,ht,by rw[Ka4];exact⟨x,hx,decide_eq_true h⟩⟩
  rw[this,Kc9]
 refine Qf Qj Tryz.func105 rfl ae1 (by simp[Iv]) fun C hP=>?_;simp only[Iv,Zo,Zg,Zm,Zc,Zf,Zl,Zh,Zs,Zi,Zb,Zk,Zn,Zu,Zq,Zr,Zz];refine Sz0 ?_;refine Qb (fun hl=>?_) (fun hl=>?_)
 ·refine Sz0 ?_;exact Qd (by rw[bf,decide_eq_true (by omega),KcL]) rfl
 refine Sz0 ?_;refine Qz (by repeat (first|exact Qs|exact Ql|exact Qm|exact Qn|exact Qo|apply Qk|apply Qr|apply Qx|apply Q4|apply Q5|apply Qi)) [(2,2),(4,4),(6,6),(12,26)] [4] (fun n J hp=>∃i,n=p.length-i/\i<=p.length/\(∀t∈p.take i,∀x∈t.2,¬1048576<x)/\J 12= .int .i64 (i:Nat)) p.length ?_ ?_
 ·refine⟨0,rfl,by omega,by simp,?_⟩;refine Sz0 ?_;rfl
 rintro _ J h ⟨i,rfl,hi,h1,bK⟩;refine Sz1 bK ?_;refine Qb (fun hg=>?_) (fun hg=>?_)
 ·have aA:i<p.length:=by omega
  have eo:=Kah aA;have Vk:=hp _ eo;have bn:p.take (i+1)=p.take i++[p[i]]:=Kag aA;generalize hx:p[i]=x at *
  have nY:=Vk.len;refine Sz2 bK hx ?_;refine Qz (by repeat (first|exact Qs|exact Ql|exact Qm|exact Qn|exact Qo|apply Qk|apply Qr|apply Qx|apply Q4|apply Q5|apply Qi)) [(2,2),(6,6),(19,25)] [] (fun n J hp=>∃j,n=x.2.length-j/\j<=x.2.length/\(∀y∈x.2.take j,¬1048576<y)/\J 19= .int .i64 (j:Nat)) x.2.length ?_ ?_
  ·refine⟨0,rfl,by omega,by simp,?_⟩;refine Sz0 ?_;rfl
  rintro _ J2 h' ⟨j,rfl,hj,h2,je⟩;refine Sz2 je hx ?_;refine Qb (fun fI=>?_) (fun fI=>?_)
  ·have fJ:j<x.2.length:=by omega
   have Md:=Kah fJ;have Bf:x.2.take (j+1)=x.2.take j++[x.2[j]]:=Kag fJ;generalize hy:x.2[j]=y at *
   refine Sz3 je hx hy ?_;refine Qb (fun hb=>?_) (fun hb=>?_)
   ·refine Sz0 ?_;exact Qd (by rw[bad ⟨x,eo,y,Md,hb⟩]) rfl
   ·refine Sz1 je ?_;refine Qh (x.2.length-(j+1)) (by omega) ⟨j+1,rfl,by omega,fun z hz=>?_,?_⟩
    ·rw[Bf,KaU,KaP]at hz;rcases hz with hz|rfl
     ·exact h2 z hz
     ·exact hb
    ·exact Tz0
  ·obtain rfl:j=x.2.length:=by omega
   rw[Kas]at h2;refine Sz1 bK ?_;simp (disch:=decide) only[kb,nw];refine Qh (p.length-(i+1)) (by omega) ⟨i+1,rfl,by omega,fun t ht=>?_,?_⟩
   ·rw[bn,KaU,KaP]at ht;rcases ht with ht|rfl
    ·exact h1 t ht
    ·exact h2
   ·exact Tz0
 ·obtain rfl:i=p.length:=by omega
  rw[Kas]at h1;refine Sz0 ?_;refine Qd (congrArg PV.bool ?_) rfl;rw[bf,decide_eq_false (by omega),Kcm,eq_comm,KbB];intro t ht;rw[Ka4];rintro⟨y,hy,hd⟩;exact h1 t ht y hy (of_decide_eq_true hd)
end Go.Proofs.YtdjoomkeehihmaaGreat
namespace Go.FW
open Go
variable {C : Ctx} {fr : Fr} {hp : HP} {w : World} {K R : Qg}
end Go.FW
namespace Go.FW
open Go
variable {C : Ctx} {fr : Fr} {hp : HP} {K : Qg}
def FF(R:PV->Prop)(p q s t:PV):Prop:=(p.aD=true/\q.aD=true/\s.aD=true/\t.aD=true)/\∃r,PV.yo (.au [p,q,s,t]) r/\R r
theorem b8{a b c d:Nat}{Rr:PV->Prop}:fS [.t a,.t b,.t c,.t d] Rr fr hp=FF Rr (aK hp (fr a)) (aK hp (fr b)) (aK hp (fr c)) (aK hp (fr d)):=by simp[fS,FF,jZ,jD]
theorem tv{p q s t p' q' s' t' r:PV}(h:r= .au [p',q',s',t'])(d1:p.aD=true)(d2:q.aD=true)(d3:s.aD=true)(d4:t.aD=true)(h1:PV.le p p')(h2:PV.le q q')(h3:PV.le s s')(h4:PV.le t t'):FF (· =r) p q s t:=
 ⟨⟨d1,d2,d3,d4⟩,r,by subst h;exact⟨h1,h2,h3,h4,trivial⟩,rfl⟩
theorem bI{p q s t:PV}{d:Nat}(h:t.aD=true):ki (.au [p,q,s,t]) 3 d fr hp K=K (af fr d t) hp:=by simp[ki,h]
theorem P5{z:List PV}{o n o2 n2 d β m e ty:Nat}{p:PV}{xs:List PV}{fz:Bool}(h:p.flat=true)(hb:hp β=some ⟨e,ty,xs,fz⟩)(hm:m=xs.length)(hB:b9 β=false:=by decide):
  kn z [(o,n,p),(o2,n2,.ms β m)] d fr hp K=((p.cells.length=n/\o+n<=z.length)/\(1=n2/\o2+n2<=z.length)/\K (af fr d (.agg (gZ z [(o,p.cells),(o2,[.sl e xs])]))) (cb hp [β])):=by
 obtain⟨s1,s2,s3⟩:=qb (hp:=hp) h;have s4:aK hp (.ms β m)= .sl e xs:=by simp[aK,cB,uZ hB,hb,hm]
 have r4:(PV.ms β m).refs=[β]:=rfl;have c4:(PV.sl e xs).cells=[.sl e xs]:=rfl;have d4:(PV.sl e xs).aD=true:=rfl;have i1:p.kD=false:=Gu h;have i2:(PV.ms β m).kD=false:=by simp[b9]at hB;simp[PV.kD];omega
 unfold kn z8 Ft;rw[if_neg (by simp[i1,i2])];apply propext;simp only[KaO,Kdf,or_false,forall_eq_or_imp,forall_eq,s1,s3,s4,d4,c4,KaX,Kbh,true_and,Kbj,Kbu,Kau,KaA,s2,r4,KaN,Kak,and_assoc,Kbc]
theorem O4{v n K:Nat}(hv:v<64)(h0:0<n)(hK:2<=K):PB K n [((1:Rat),cJ v n)]:=fun t ht=>by
 obtain rfl:t=(1,cJ v n):=by simpa using ht
 have:=nK;exact⟨by show rs 1+1<=K;omega,Hz hv,CL h0⟩
def aiP(l:List (List Tm))(v:Nat):Nat->List Tm
 |0=>[]
 |n+1=>Q7 (aiP l v n) (gr (l.getD n []) v n)
theorem QM{p:List Tm}{v n K E:Nat}(hp:PB K E p)(hv:v<64):PB (K+2) (E+n) (gr p v n)/\(gr p v n).length<=p.length:=by
 unfold gr;split
 ·exact⟨hp.mono (by omega) (by omega),Kac _⟩
 ·obtain⟨h1,h2⟩:=wH hp (O4 (n:=n) hv (by omega) (Kac 2));refine⟨h1.mono ?_ (Kac _),by simpa using h2⟩;have:min p.length [((1:Rat),cJ v n)].length*(K+2)<=1*(K+2):=Kaf _ (by simp;omega);omega
def aG(g:List Tm)(v d:Nat)(f:List Tm):Nat->List Tm×List Tm
 |0=>([],f)
 |k+1=>(iw (aG g v d f k).1 (aG g v d f k).2 g v (Q3 (aG g v d f k).2 v).toNat d,eD (aG g v d f k).2 g v (Q3 (aG g v d f k).2 v).toNat d)
theorem sZ{g:List Tm}{v d:Nat}{f:List Tm}(hf:aC f)(hg:aC g):∀k,aC (aG g v d f k).1/\aC (aG g v d f k).2
 |0=>⟨aC.nil,hf⟩
 |k+1=>by obtain⟨h1,h2⟩:=sZ (v:=v) (d:=d) hf hg k;exact⟨afM h1 h2 hg,afN h2 hg⟩
theorem yU{g:List Tm}{v d:Nat}{q r:List Tm}{k:Nat}(h:r=[]∨Q3 r v<d):∀fuel,js g v d fuel q r k= .au [PV.aj q,PV.aj r,.int .i64 k,.int .i64 0]
 |0=>rfl
 |n+1=>by rw[js,if_pos h]
theorem Ge{g:List Tm}{v d:Nat}{q r:List Tm}{k fuel:Nat}(h:¬(r=[]∨Q3 r v<d))(h2:bf (iw q r g v (Q3 r v).toNat d)=true∨bf (eD r g v (Q3 r v).toNat d)=true):
  js g v d (fuel+1) q r k= .au [PV.aj [],PV.aj [],.int .i64 0,.int .i64 4]:=by rw[js,if_neg h,if_pos h2]
theorem GF{g:List Tm}{v d:Nat}{q r:List Tm}{k fuel:Nat}(h:¬(r=[]∨Q3 r v<d))(h2:¬(bf (iw q r g v (Q3 r v).toNat d)=true∨bf (eD r g v (Q3 r v).toNat d)=true)):
  js g v d (fuel+1) q r k=js g v d fuel (iw q r g v (Q3 r v).toNat d) (eD r g v (Q3 r v).toNat d) (k+1):=by rw[js,if_neg h,if_neg h2]
theorem NL{q r g:List Tm}{v n d K E M:Nat}(hq:PB K E q)(hr:PB K E r)(hg:PB K E g)(hM:g.length<=M)(hv:v<64)(hn:n<=E):
  PB (K+2) (E+E) (de r v n d)/\(de r v n d).length<=r.length/\
  PB (M*(K+K)) (E+E) (Q8 (aX g v d) q)/\(Q8 (aX g v d) q).length<=M*q.length/\
  PB (M*(K+K)) (E+E) (Q8 (aX g v d) r)/\(Q8 (aX g v d) r).length<=M*r.length/\
  PB (M*(K+K+2)) (E+E+E) (Q8 (de r v n d) g)/\(Q8 (de r v n d) g).length<=r.length*M:=by
 have eV:(aX g v d).length<=M:=Kay (pZ _ _ _) hM;have ix:=ql hg v (d:Int);obtain⟨b1,b2⟩:=QM (n:=n-d) (ql hr v (n:Int)) hv;have TW:(de r v n d).length<=r.length:=Kay b2 (pZ _ _ _);have Il:PB (K+2) (E+E) (de r v n d):=b1.mono (Kac _) (by omega);obtain⟨m1,m2⟩:=wH ix hq;obtain⟨m3,m4⟩:=wH ix hr;obtain⟨m5,m6⟩:=wH Il hg;refine⟨Il,TW,m1.mono (Kaf _ (by omega)) (Kac _),Kay m2 (Kaf _ eV),m3.mono (Kaf _ (by omega)) (Kac _),Kay m4 (Kaf _ eV),m5.mono ?_ (by omega),Kay m6 (KaM TW hM)⟩;have e:K+2+K=K+K+2:=by omega
 rw[e];exact Kaf _ (by omega)
end Go.FW
namespace Go.FW
open Go
theorem Su:∀ {p:List Tm},eR p->∀n,eR (p.take n)
 |_,_,0=>trivial
 | [],_,n+1=>trivial
 |t::p,h,n+1=>⟨fun s hs=>h.1 s (Kbb hs),Su h.2 n⟩
theorem aC.take{p:List Tm}(h:aC p)(n:Nat):aC (p.take n):=⟨fun t ht=>h.c t (Kbb ht),fun t ht=>h.z t (Kbb ht),Su h.s n⟩
theorem Sv{p:List Tm}(h:aC p):xh [] p=p:=by rw[abk aC.nil h,qi]
theorem ZF{p:List Tm}(h:aC p){i:Nat}(hi:i<p.length):ja (p.take i) p[i].1 p[i].2=p.take (i+1):=by
 have e:=Sv (aC.take h (i+1))
 rwa[Kag hi,X1,Sv (aC.take h i),<-List.take_succ_eq_append_getElem hi]at e
theorem O5:aC [((1:Rat),([]:List Int))]:=aC.one (show(1:Rat)≠0 by decide) (by simp)
theorem ZG{p:List Tm}(h:aC p):Q8 p [(1,[])]=p:=by refine DB (kd h.s O5.s) h fun φ=>?_;rw[zE];refine qc fun t ht=>?_;rw[eu,ke,Kdj,Rat.add_zero,uP (h.c t ht)]
def oP(v n:Nat):List Tm:=if n=0 then [(1,[])]else [(1,cJ v n)]
theorem O6(v n:Nat):aC (oP v n):=by
 unfold oP;split
 ·exact O5
 ·exact NK (by omega)
theorem PK{v n:Nat}(hv:v<64):PB 2 n (oP v n):=by
 unfold oP;split
 ·intro t ht;obtain rfl:t=(1,[]):=by simpa using ht
  have:=nK;exact⟨by show rs 1+1<=2;omega,⟨by simp,by simp,by simp⟩,by simp⟩
 ·exact O4 hv (by omega) (Kac 2)
theorem afO(v n:Nat):(oP v n).length=1:=by unfold oP;split<;>rfl
theorem abl{p:List Tm}(h:aC p)(v n:Nat):Q8 p (oP v n)=gr p v n:=by
 unfold oP gr;split
 ·exact ZG h
 ·rfl
end Go.FW
