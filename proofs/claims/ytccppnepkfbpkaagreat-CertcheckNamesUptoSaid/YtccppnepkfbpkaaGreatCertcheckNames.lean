/- CertcheckNames holds, for arguments of bulk at most 1048576. -/
import Derived.Test.YtccppnepkfbpkaaGreatCertcheckNamesPart18
import Derived.Laws.RangeString
import Derived.Laws.RangeAny
import Derived.Lib.OthersKept
import Derived.LoopTactic
set_option maxHeartbeats 1000000
set_option linter.unusedSimpArgs false
set_option linter.unusedVariables false
set_option linter.unnecessarySimpa false
set_option maxRecDepth 100000
namespace Go.Proofs.YtccppnepkfbpkaaGreat
open Go Go.FW
abbrev iv(M S G:List Tm):PV:=.agg [.aa,.aa,.aa,.aa,.sl 1 [PV.ao M],.sl 1 [PV.ao S],.sl 1 [.sl 1 [PV.ao G]]]
theorem acT{M S G V:List Tm}(hS:ib S)(R2:S≠[])(hV:ib V)(R4:V≠[])(e:Q5 V ((bX S).1/(bX V).1)=S):Qd Tryz.prog 11 [iv M S G,PV.ao V] (· = .aG [.int .i64 0,.bool true]):=by
 have hl:0<S.length:=KbB.2 R2;have nw:0<V.length:=KbB.2 R4;have g1:=Ee hl;have g2:=Ee nw;have m1:=sv R2;have m2:=sv R4;have r1:=(hS.b _ m1).c;have r2:=(hV.b _ m2).c;have hz:=hV.n.z _ m2;have hd:=NG (a:=(bX S).1) (b:=(bX V).1) (k:=3) (by omega) (by omega) (by omega) hz;have Kc:rs ((bX S).1/(bX V).1)<=rs (bX S).1+1*rs (bX V).1:=IH hz (Kad _) 1;have uO:=Od (p:=V) (a:=(bX S).1/(bX V).1) (K:=100) (E:=4) (hV.b.mono (by omega) (by omega)) (by omega) (by omega) (by omega) (by have:=hV.l;omega);have heq:=CH hS.b hS.b (by omega) (by omega) (by have:=hS.l;omega) (by have:=hS.l;omega);rw[decide_eq_true rfl]at heq;rw[e]at uO;refine aB Qg Tryz.func11 Np fun C hP=>?_;refine Sz0 ?_;refine Qb (fun h=>absurd h (by omega)) (fun _=>?_);refine Sz0 ?_;refine Qn okB [(4,9),(16,42)] [8] (fun q J hp=>q=0/\J 16= .int .i64 0/\hp 2=some ⟨7,34,[iv M S G],false⟩) 0 ?_ ?_
 ·exact Tz0
 rintro _ J h ⟨rfl,mc,b2⟩;refine Sz1 mc ?_;refine Qb (fun h=>absurd h (by omega)) (fun _=>?_);refine Sz3 mc g1 g2 ?_;refine dp ?_ ?_
 all_goals
  first|simp+decide (disch:=try exact D0) only[go_sem]|skip
  refine Qa hP hd rfl rfl rfl ?_;refine Sz0 ?_;refine Qa hP uO rfl rfl rfl ?_;refine Sz0 ?_;refine Qa hP heq rfl rfl rfl ?_;refine Sz1 mc ?_;exact cA (r:=.aG [.int .i64 0,.bool true]) rfl rfl rfl (Qf _) (Qf _)
theorem acU{F D:List Tm}(hF:ib F)(hD:ib D):PV.cert [F] [1] 1 [D]=PV.KH ⟨[F.map mG],[1],1,[D.map mG]⟩/\RC 4 ⟨[F.map mG],[1],1,[D.map mG]⟩:=by
 have key:∀ {p:List Tm},ib p->(∀t∈p.map mG,RB 4 t)/\(p.map mG).length<2^40:=fun {p} hp=>by refine⟨fun t ht=>?_,by rw[Ka0];have:=hp.l;omega⟩;obtain⟨s,hs,rfl⟩:=KaF.1 ht;have:=(hp.b s hs).c;exact ag7 (by omega) (by have:=(hp.b s hs).m.len;omega)
 refine⟨?_,⟨fun l hl=>?_,fun l hl=>?_,by simp,by simp,by simp⟩⟩
 ·show PV.agg [.sl 1 [PV.ao F],PV.mono [1],.int .i64 1,.sl 1 [PV.ao D]]=PV.agg [.sl 1 [PV.mD (F.map mG)],PV.mono [1],.int .i64 1,.sl 1 [PV.mD (D.map mG)]];rw[LM,LM]
 ·rw[Kay.1 hl];exact key hF
 ·rw[Kay.1 hl];exact key hD
theorem acV{M S G F D:List Tm}{e:Int}(hF:ib F)(hD:ib D)(hr:qU ⟨[F.map mG],[1],1,[D.map mG]⟩=true)(hc:Qd Tryz.prog 52 [PV.cert [F] [1] 1 [D],PV.eI [M],PV.ao G] (· = .int .i64 e)):
  Qd Tryz.prog 23 [iv M S G,PV.ao G,PV.cert [F] [1] 1 [D]] (· = .agg [.int .i64 0,.int .i64 0,.int .i64 0,.int .i64 e]):=by
 obtain⟨c1,c2⟩:=acU hF hD;have Tl:=VV c2 (by omega) (by omega);rw[hr,<-c1]at Tl;refine aB Qg Tryz.func23 ah5 fun C hP=>?_;refine Sz0 ?_;refine Qa hP Tl rfl rfl rfl ?_;refine Sz0 ?_;refine Qa hP hc rfl rfl rfl ?_;refine Sz0 ?_;refine cY ?_;refine Sz0 ?_;exact Qc rfl rfl
theorem VX{M S G:List Tm}(c:PV):Qd Tryz.prog 8 [iv M S G,.int .i64 1,c] (· = .int .i64 2):=by refine aB Qg Tryz.func8 GL fun C hP=>?_;refine Sz0 ?_;exact Qc rfl rfl
theorem aaL{M S G:List Tm}:Qd Tryz.prog 8 [iv M S G,.int .i64 0,.aa] (· = .int .i64 16):=by refine aB Qg Tryz.func8 GL fun C hP=>?_;refine Sz0 ?_;exact Qc rfl rfl
theorem acW{M S G F D:List Tm}(hm:Qd Tryz.prog 23 [iv M S G,PV.ao G,PV.cert [F] [1] 1 [D]] (· = .agg [.int .i64 0,.int .i64 0,.int .i64 0,.int .i64 0])):
  Qd Tryz.prog 8 [iv M S G,.int .i64 0,.sl 4 [PV.cert [F] [1] 1 [D]]] (· = .int .i64 0):=by
 refine aB Qg Tryz.func8 GL fun C hP=>?_;refine Sz0 ?_;refine Qn okB [(6,9),(30,61)] [8,9] (fun q J hp=>((q=1/\J 30= .int .i64 0)∨(q=0/\J 30= .int .i64 1))/\hp 3=some ⟨7,34,[iv M S G],false⟩) 1 ?_ ?_
 ·refine⟨.inl ⟨rfl,?_⟩,?_⟩
  ·exact Tz0
  ·exact Tz0
 rintro _ J h ⟨⟨rfl,ni⟩|⟨rfl,ni⟩,b3⟩
 ·refine Sz2 ni b3 ?_;refine dp ?_ ?_
  all_goals
   first|simp+decide (disch:=try exact D0) only[go_sem]|skip
   refine Qa hP hm rfl rfl rfl ?_;refine Sz1 ni ?_;refine Qi 0 (by omega) ⟨.inr ⟨rfl,?_⟩,?_⟩
   ·refine Sz0 ?_;rfl
   ·exact Tz1 b3
 ·refine Sz1 ni ?_;exact Qc rfl rfl
def pm(c:List Tm):List Tm:=if c=[]then []else Q5 c (ej c)
def jo(f c:List Tm):Bool:=decide (c≠[])&&decide (pm c=pm f)
def l8(f:List Tm)(P:List (List Tm)):Option Nat:=if f=[]then none else P.findIdx? (jo f)
def KA:Option Nat->PV
 |none=>.aG [.int .i64 0,.bool false]
 |some i=>.aG [.int .i64 (i:Nat),.bool true]
theorem LP{c:List Tm}(nc:aR c)(hc:c≠[]){a:Rat}(ha:a≠0):pm (Q5 c a)=pm c:=by unfold pm;rw[if_neg hc,if_neg (HA nc hc ha),G1 nc,Rat.mul_comm,Xf nc hc ha]
theorem afp{c f:List Tm}(nc:aR c)(nf:aR f)(hc:c≠[])(hf:f≠[]):c=Q5 f ((bX c).1/(bX f).1)↔pm c=pm f:=by
 have jt:(bX c).1≠0:=nc.z _ (sv hc);have qj:(bX f).1≠0:=nf.z _ (sv hf);have pc:=MM nc hc;have pf:=MM nf hf;constructor
 ·intro h;generalize ha:(bX c).1/(bX f).1=a at h;have kF:a≠0:=by
   rintro rfl;have:(bX c).1=(bX c).1/(bX f).1*(bX f).1:=by grind
   rw[ha]at this;grind
  rw[h];exact LP nf hf kF
 ·intro h;unfold pm at h;rw[if_neg hc,if_neg hf]at h;have h2:Q5 (Q5 c (ej c)) (ej c)⁻¹ =Q5 (Q5 f (ej f)) (ej c)⁻¹ :=by rw[h]
  rw[G1 nc,G1 nf,Rat.mul_inv_cancel _ pc,FW.PH nc]at h2;have hz:ej f*(ej c)⁻¹ ≠0:=by
   intro e;have:ej f=ej f*(ej c)⁻¹ *ej c:=by grind
   rw[e]at this;grind
  generalize ej f*(ej c)⁻¹ =z at *
  have h1:(bX c).1=(bX f).1*z:=by
   have h3:=congrArg bX h2;rw[h3,xa nf hz];cases f with
   |nil=>exact absurd rfl hf
   |cons t r=>rfl
  have h4:(bX c).1/(bX f).1=z:=by rw[h1];grind
  rw[h4];exact h2
structure pT(p:List Tm):Prop where
 b:PB 1000100 24 p
 n:aR p
 l:p.length<=60
theorem pT.pm{p:List Tm}(h:pT p):PB 70000000 24 (pm p)/\(pm p).length<=60:=by
 unfold Proofs.YtccppnepkfbpkaaGreat.pm;by_cases h0:p=[]
 ·rw[if_pos h0];exact⟨PB.nil _ _,by simp⟩
 rw[if_neg h0];have h1:=MD h.b h.n.z h0;have h2:=Kal 1000100 h.l;have h3:rs (ej p)+1<=65000000:=by omega
 exact⟨(zt h.b h3).mono (by omega) (by omega),KaL (zc _ _) h.l⟩
theorem MU{p:List Tm}(h:pT p):Qd Tryz.prog 30 [PV.ao p] (fun r=>∃a,r= .aG [PV.ao (pm p),PV.rat a]):=by
 by_cases h0:p=[]
 ·subst h0;exact Qum.mono fun r hr=>⟨_,hr⟩
 have h2:=Kal 1000100 h.l;have e:pm p=Q5 p (ej p):=by unfold pm;rw[if_neg h0]
 rw[e];have hl:=h.l;have a1:p.length<=2^20:=by omega
 have a2:=KaL (Nat.add_le_add_right h2 (1000100+1000100)) (show 60*1000100+(1000100+1000100)<=2^31 by decide+kernel);have:=Qs1 h.b h.n h0 a1 a2 (by omega);exact this.mono fun r hr=>⟨_,hr⟩
theorem MV{f:List Tm}{P:List (List Tm)}(hf:f≠[]){i:Nat}(h:i<P.length)(h0:∀j (hj:j<P.length),j<i->jo f P[j]=false)(hn:jo f P[i]=true):l8 f P=some i:=by rw[l8,if_neg hf,KbX];exact⟨h,hn,fun j hj=>by rw[h0 j (by omega) hj];simp⟩
theorem Nv{f:List Tm}{P:List (List Tm)}(h0:∀j (hj:j<P.length),jo f P[j]=false):l8 f P=none:=by
 unfold l8;split
 ·rfl
 rw[KcM];intro x hx;obtain⟨j,hj,rfl⟩:=KaA hx;exact h0 j hj
theorem MW{S:List Q8}{G:List bD}{C0:List Cd}{V:List Vr}{H P:List (List Tm)}{Q:List (List (List Tm))}{f:List Tm}(Jd:∀c∈P,pT c)(ur:P.length<=8)(hf:pT f):
  Qd Tryz.prog 11 [PV.iv S G C0 V H P Q,PV.ao f] (· =KA (l8 f P)):=by
 have yw:=hf.l;have JF:=hf.b;have uz:=hf.n;refine aB Qg Tryz.func11 Np fun C hP=>?_;refine Sz0 ?_;refine Qb (fun h=>?_) (fun h=>?_)
 ·have e:f=[]:=Kar.1 (by omega);have e2:l8 f P=none:=by rw[l8,if_pos e]
  rw[e2];refine Sz0 ?_;exact cA (r:=.aG [.int .i64 0,.bool false]) rfl rfl rfl (Qf _) (Qf _)
 have Sv:0<f.length:=by omega
 have qj:f≠[]:=KbB.1 Sv;have g2:=Ee Sv;have m2:=sv qj;have r2:=(JF _ m2).c;have hz:=uz.z _ m2;refine Sz0 ?_;refine Qn okB [(4,9),(16,42)] [8] (fun m J hp=>∃i,m=P.length-i/\i<=P.length/\(∀j (h:j<P.length),j<i->jo f P[j]=false)/\J 16= .int .i64 (i:Nat)/\hp 2=some ⟨7,34,[PV.iv S G C0 V H P Q],false⟩) P.length ?_ ?_
 ·refine⟨0,rfl,by omega,by omega,?_⟩;refine Sz0 ?_;rfl
 rintro _ J h ⟨i,rfl,hi,h0,mc,b2⟩;refine Sz1 mc ?_;refine Qb (fun hc=>?_) (fun hc=>?_)
 ·have az:i<P.length:=by omega
  have uv:=Jd _ (Kah az);have uu:=MV qj az h0;have bR:jo f P[i]=false->∀j (h:j<P.length),j<i+1->jo f P[j]=false:=fun h j hj gP=>by
   by_cases e:j=i
   ·subst e;exact h
   ·exact h0 j hj (by omega)
  generalize hx:P[i]=c at *
  have cX:=uv.l;refine Sz2 mc hx ?_;refine Qb (fun h1=>?_) (fun h1=>?_)
  ·have e:c=[]:=Kar.1 (by omega);refine Sz1 mc ?_;refine Qi (P.length-(i+1)) (by omega) ⟨i+1,rfl,by omega,bR (by simp[jo,e]),?_⟩;exact Tz1 b2
  have Si:0<c.length:=by omega
  have jt:c≠[]:=KbB.1 Si;have g1:=Ee Si;have m1:=sv jt;have r1:=(uv.b _ m1).c;have hd:=NG (a:=(bX c).1) (b:=(bX f).1) (k:=1000100) (by omega) (by omega) (by omega) hz;have Kc:rs ((bX c).1/(bX f).1)<=rs (bX c).1+1*rs (bX f).1:=IH hz (Kad _) 1;have uO:=Od (p:=f) (a:=(bX c).1/(bX f).1) (K:=2000300) (E:=24) (JF.mono (by omega) (by omega)) (by omega) (by omega) (by omega) (by omega);have wz:PB 4000600 24 (Q5 f ((bX c).1/(bX f).1)):=(zt JF (L:=2000300) (by omega)).mono (by omega) (by omega);have bc:=zc f ((bX c).1/(bX f).1);have heq:=CH (uv.b.mono (show 1000100<=4000600 by omega) (Kad _)) wz (by omega) (by omega) (by omega) (by omega);have hm:jo f c=decide (c=Q5 f ((bX c).1/(bX f).1)):=by rw[jo,decide_eq_true jt,KcH];exact decide_eq_decide.2 (afp uv.n uz jt qj).symm
  rw[<-hm]at heq;clear hm wz Kc;generalize(bX c).1/(bX f).1=a at *
  generalize Q5 f a=w at *
  refine Sz3 mc g1 g2 ?_;refine dp ?_ ?_
  all_goals
   first|simp+decide (disch:=try exact D0) only[go_sem]|skip
   refine Qa hP hd rfl rfl rfl ?_;refine Sz0 ?_;refine Qa hP uO rfl rfl rfl ?_;refine Sz0 ?_;refine Qa hP heq rfl rfl rfl ?_;cases hm:jo f c
   ·refine Sz1 mc ?_;refine Qi (P.length-(i+1)) (by omega) ⟨i+1,rfl,by omega,bR hm,?_⟩;exact Tz1 b2
   ·rw[uu hm];refine Sz1 mc ?_;exact cA (r:=.aG [.int .i64 (i:Nat),.bool true]) rfl rfl rfl (Qf _) (Qf _)
 obtain rfl:i=P.length:=by omega
 rw[Nv fun j hj=>h0 j hj hj];refine Sz0 ?_;exact cA (r:=.aG [.int .i64 0,.bool false]) rfl rfl rfl (Qf _) (Qf _)
theorem aaM{S:List Q8}{G:List bD}{C0:List Cd}{V:List Vr}{H P:List (List Tm)}{Q:List (List (List Tm))}{f:List Tm}(Jd:∀c∈P,pT c)(ur:P.length<=8)(hf:pT f):
  Qd Tryz.prog 12 [PV.iv S G C0 V H P Q,PV.ao f] (· =KA (l8 f P)):=by
 have yw:=hf.l;have hpf:=hf.pm;have rI:=MU hf;refine aB Qg Tryz.func12 aiM fun C hP=>?_;refine Sz0 ?_;refine Qb (fun h=>?_) (fun h=>?_)
 ·have e:f=[]:=Kar.1 (by omega);have e2:l8 f P=none:=by rw[l8,if_pos e]
  rw[e2];refine Sz0 ?_;exact cA (r:=.aG [.int .i64 0,.bool false]) rfl rfl rfl (Qf _) (Qf _)
 have qj:f≠[]:=KbB.1 (by omega);refine Sz0 ?_;refine fM hP rI rfl rfl rfl ?_;rintro _ ⟨a0,rfl⟩;have hmq:∀c,jo f c=(decide (c≠[])&&decide (pm c=pm f)):=fun c=>rfl;have anG:∀ {i:Nat} (h:i<P.length),(∀j (hj:j<P.length),j<i->jo f P[j]=false)->jo f P[i]=true->l8 f P=some i:=fun h=>MV qj h;have aoG:(∀j (hj:j<P.length),jo f P[j]=false)->l8 f P=none:=Nv;generalize pm f=F at *
 generalize jo f=mq at *
 refine Sz0 ?_;refine Qn okB [(4,5),(8,10),(19,47)] [10] (fun m J hp=>∃i,m=P.length-i/\i<=P.length/\(∀j (h:j<P.length),j<i->mq P[j]=false)/\J 8= .int .i64 (i:Nat)/\hp 2=some ⟨7,34,[PV.iv S G C0 V H P Q],false⟩) P.length ?_ ?_
 ·refine⟨0,rfl,by omega,by omega,?_⟩;refine Sz0 ?_;rfl
 rintro _ J h ⟨i,rfl,hi,h0,j8,b2⟩;refine Sz2 j8 b2 ?_;refine Qb (fun hc=>?_) (fun hc=>?_)
 ·have az:i<P.length:=by omega
  have uv:=Jd _ (Kah az);have uu:=anG az h0;have bR:mq P[i]=false->∀j (h:j<P.length),j<i+1->mq P[j]=false:=fun h j hj gP=>by
   by_cases e:j=i
   ·subst e;exact h
   ·exact h0 j hj (by omega)
  generalize hx:P[i]=c at *
  have cX:=uv.l;have eX:=uv.pm;have aoO:=MU uv;have uG:=hmq c;generalize pm c=D at *
  refine Sz3 j8 b2 hx ?_;refine fM hP aoO rfl rfl rfl ?_;rintro _ ⟨a1,rfl⟩;refine Sz3 j8 b2 hx ?_;refine Q4 (fun h1=>?_) (fun h1=>?_)
  ·have jt:c≠[]:=KbB.1 (by omega);rw[decide_eq_true jt,KcH]at uG;have heq:=Uw eX.1 hpf.1 (by omega) (by omega) (by omega) (by omega);rw[<-uG]at heq;refine Sz0 ?_;refine Qa hP heq rfl rfl rfl ?_;cases hm:mq c
   ·refine Sz1 j8 ?_;refine Qi (P.length-(i+1)) (by omega) ⟨i+1,rfl,by omega,bR hm,?_⟩;exact Tz1 b2
   ·rw[uu hm];refine Sz1 j8 ?_;exact cA (r:=.aG [.int .i64 (i:Nat),.bool true]) rfl rfl rfl (Qf _) (Qf _)
  have e:c=[]:=Kar.1 (by omega);refine Sz1 j8 ?_;refine Qi (P.length-(i+1)) (by omega) ⟨i+1,rfl,by omega,bR (by rw[uG];simp[e]),?_⟩;exact Tz1 b2
 obtain rfl:i=P.length:=by omega
 rw[aoG fun j hj=>h0 j hj hj];refine Sz0 ?_;exact cA (r:=.aG [.int .i64 0,.bool false]) rfl rfl rfl (Qf _) (Qf _)
theorem aaN{l:List cS}{k:Nat}(hb:∀t∈l,RB k t)(h:tV l=true):PV.mD l=PV.ao (l.map cS.tm)/\ib (l.map cS.tm):=by
 simp only[tV,Kav,decide_eq_true_eq,Kaq]at h;obtain⟨h1,h2,h3⟩:=h;obtain⟨e1,e2⟩:=XR hb h3;refine⟨e1,e2.rR,fun t ht=>?_,fun t ht=>?_,by simpa using h1⟩
 ·obtain⟨x,hx,rfl⟩:=KaF.1 ht;have hs:=h2 x hx;simp only[mF,Kav,decide_eq_true_eq,Kaq]at hs;have hv:=e2.t _ ht;have hr:=(show Raw 2 x.n x.a x.d from⟨(hb x hx).r.1,(hb x hx).r.2.1,hs.2.1,hs.2.2.1,by omega⟩).rs;have hm:=MB.uV hv.m;refine⟨?_,⟨hm.len,hm.lo,fun y hy=>hs.2.2.2 y hy⟩,Ot hv.m⟩;show rs (rv x.n x.a x.d)+1<=3;omega
 ·obtain⟨x,hx,rfl⟩:=KaF.1 ht;have hs:=h2 x hx;simp only[mF,Kav,decide_eq_true_eq,Kaq]at hs;exact hs.1
def c7:ay:=⟨98,[.t 0],Zr (Ye 0)<|Zr (Zq 11 false 18 [.c (Zz 0)]<|
 Zq 12 false 18 [.c (Zz 1)]<|
 Zm 1 11<|
 Zm 2 12 .nil)<|Zr (Yf 13 1 2<|
 Zq 15 false 19 [.t 13,.t 14]<|
 Zo (.bs 16 1 43 [.t 15])<|
 .wk<|Zm 17 1<|
 Zq 18 false 14 [.c (Zz 2)]<|
 Yl 19 13 17 18<|
 Zo (.bs 20 1 43 [.t 19])<|
 .wk<|Zm 21 2<|
 Zo (.bs 22 1 43 [.t 21])<|
 .wk<|Zo (.bs 23 1 31 [.t 22])<|
 .wk<|Zo (.dv 24 [.aa,.aa,.aa,.aa,.aa,.aa,.aa] [(4,1,.t 16),(5,1,.t 20),(6,1,.t 23)])<|
 Zo (.alloc 3 7 34 (.agg [.aa,.aa,.aa,.aa,.aa,.aa,.aa]))<|
 Zs 7 3 24 .nil)<|Zr (Zm 25 1<|
 Zo (.bs 26 1 43 [.t 25])<|
 .wk<|Zo (.bs 27 1 3 [.c (Zz 1)])<|
 .wk<|Zq 28 false 14 [.c (Zz 1)]<|
 Yn 29 20 28<|
 Zo (.bs 30 1 43 [.t 29])<|
 .wk<|Zo (.dv 31 [.aa,.aa,Zz 0,.aa] [(0,1,.t 26),(1,1,.t 27),(2,1,.c (Zz 1)),(3,1,.t 30)])<|
 Zo (.bs 32 4 62 [.t 31])<|
 .wk<|Yc 4 32)<|Zr (Zm 34 4<|
 Zq 35 false 14 [.c (Zz 0)]<|
 Zq 36 false 14 [.c (Zz 5)]<|
 Zo (.bs 37 3 53 [.t 35,.t 36])<|
 .wk<|YV 38 21 34 37 33<|
 dS 5 39 40)<|Zr (Zm 42 4<|
 Zq 43 false 14 [.c (Zz 1)]<|
 Zq 44 false 14 [.c (Zz 0)]<|
 Zo (.bs 45 3 53 [.t 43,.t 44])<|
 .wk<|YV 46 21 42 45 41<|
 dS 7 47 48)<|Zr (fG 50 7 3 1<|
 YV 52 11 50 51 49<|
 dS 9 53 54)<|Zr (fG 55 7 3 4<|
 Zq 57 false 8 [.t 55,.c (Zz 0),.t 56]<|
 Zk 58 .eql 57 0<|
 Zm 59 58<|
 Zg 59 true (.ld 60 7 true (.t 3))<|
 Zg 59 true (.call (some 61) false (.c (.fn 8 [] [])) [.t 60,.c (Zz 0),.c .aa])<|
 Zg 59 true (.bin 62 .eql false (.t 61) (.c (Zz 16)))<|
 Yk 63 59 62<|
 Zm 64 63<|
 Zg 64 true (.ld 65 7 true (.t 3))<|
 Zg 64 true (.mv 66 (.t 4))<|
 Zg 64 true (.call (some 67) false (.c (.fn 8 [] [])) [.t 65,.c (Zz 1),.t 66])<|
 Zg 64 true (.bin 68 .eql false (.t 67) (.c (Zz 2)))<|
 Yk 69 64 68<|
 YJ 70 69 5<|
 Zg 70 true (.un 72 .not (.t 71))<|
 Yk 73 70 72<|
 YJ 74 73 6<|
 Zg 74 true (.bin 76 .eql false (.t 75) (.c (Zz 0)))<|
 Yk 77 74 76<|
 YJ 78 77 7<|
 Yk 80 78 79<|
 YJ 81 80 8<|
 Zg 81 true (.bin 83 .eql false (.t 82) (.c (Zz 0)))<|
 Yk 84 81 83<|
 YJ 85 84 9<|
 Zg 85 true (.bin 87 .eql false (.t 86) (.c (Zz 0)))<|
 Yk 88 85 87<|
 YJ 89 88 10<|
 Yk 91 89 90<|
 YJ 92 91 4<|
 vL 92 22<|
 n9 92<|
 Zg 92 true (.bin 96 .eql false (.t 95) (.c (Zz 1)))<|
 Yk 97 92 96<|
 Yc 0 97) .ret⟩
theorem ajU:Qe Tryz.prog Tryz.f7=some c7.strip:=by kernel_rfl
theorem ai5:qY [((0:Int):Rat),((5:Int):Rat)] (ky [⟨[Q3 0],[1],1,[cM 1]⟩]) true=(false,0):=by decide+kernel
theorem ai6:qY [((1:Int):Rat),((0:Int):Rat)] (ky [⟨[Q3 0],[1],1,[cM 1]⟩]) true=(true,0):=by decide+kernel
theorem ai7:ky [⟨[Q3 0],[1],1,[cM 1]⟩]=[Q3 0]:=by decide+kernel
theorem ai8:qU ⟨[(Q3 0).map mG],[1],1,[(cM 1).map mG]⟩=true:=by decide+kernel
theorem aiB:Q5 (Q3 0) ((bX (Q5 (Q3 0) ((2:Int):Rat))).1/(bX (Q3 0)).1)=Q5 (Q3 0) ((2:Int):Rat):=by decide+kernel
theorem rX:Qd Tryz.prog 7 [] (· = .bool true):=by
 have s0:ib (Q3 0):=At (by decide+kernel);have s1:ib (Q3 1):=At (by decide+kernel);have s2:ib (cM 1):=At (by decide+kernel);have s3:ib (Q5 (Q3 0) ((2:Int):Rat)):=At (by decide+kernel);have s4:ib (aV (Q3 0) (Q3 1)):=At (by decide+kernel);have n0:Q3 0≠[]:=by decide+kernel
 have n3:Q5 (Q3 0) ((2:Int):Rat)≠[]:=by decide+kernel
 have wA:Qd Tryz.prog 18 [.int .i64 0] (· =PV.ao (Q3 0)):=CR (v:=0) (by omega);have tf:Qd Tryz.prog 18 [.int .i64 1] (· =PV.ao (Q3 1)):=CR (v:=1) (by omega);have qp:=ajR (m:=4) (w:=1) (by omega) (P:=Q3 0) (q:=Q3 1) ⟨s0.yT.z.mono (by omega) (by omega) (by omega),s0.n,by have:=s0.l;omega⟩ s1.yT.w (by omega);have J5:Qd Tryz.prog 14 [.int .i64 2] (· =PV.rat ((2:Int):Rat)):=r9 (by omega) (by omega);have J4:Qd Tryz.prog 14 [.int .i64 1] (· =PV.rat ((1:Int):Rat)):=r9 (by omega) (by omega);have Fz:Qd Tryz.prog 14 [.int .i64 0] (· =PV.rat ((0:Int):Rat)):=r9 (by omega) (by omega);have ho5:Qd Tryz.prog 14 [.int .i64 5] (· =PV.rat ((5:Int):Rat)):=r9 (by omega) (by omega);have uO:=zd (p:=Q3 0) (a:=((2:Int):Rat)) (K:=3) (E:=4) s0.b s0.n.z (by decide+kernel) (by omega) (by omega) (by have:=s0.l;omega);have ab:Qd Tryz.prog 20 [PV.rat ((1:Int):Rat)] (· =PV.ao (cM 1)):=Py (a:=((1:Int):Rat)) (k:=4) (by decide+kernel) (by omega);have mm:=acT (M:=aV (Q3 0) (Q3 1)) (G:=Q3 1) s3 n3 s0 n0 aiB;have o8:=Vh (fs:=[Q3 0]) (ps:=[1]) (n:=1) (cs:=[cM 1]) (hs:=[aV (Q3 0) (Q3 1)]) (g:=Q3 1) (w:=1) (by omega) (by simp;exact s0.yT) (by simp) (by simp) (by simp;exact s2.yT.big) (by simp) (by simp;exact s4.yT.w) (by simp) s1.yT.w (.inl (by decide));rw[ajT]at o8;have we:=acV (S:=Q5 (Q3 0) ((2:Int):Rat)) s0 s2 ai8 o8;have hk0:=acW we;have jx:=aaL (M:=aV (Q3 0) (Q3 1)) (S:=Q5 (Q3 0) ((2:Int):Rat)) (G:=Q3 1);have pd:=VX (M:=aV (Q3 0) (Q3 1)) (S:=Q5 (Q3 0) ((2:Int):Rat)) (G:=Q3 1) (.sl 4 [PV.cert [Q3 0] [1] 1 [cM 1]]);have uC:∀c∈[(⟨[Q3 0],[1],1,[cM 1]⟩:mI)],AE c:=by intro c hc;rw[Kay.1 hc];exact⟨rfl,by simp;exact⟨s0,n0⟩,by simp⟩
 have hf:=NT uC (by simp);have yu:=N9 (vs:=[((0:Int):Rat),((5:Int):Rat)]) uC (by simp) (by decide+kernel) (by simp);have yv:=N9 (vs:=[((1:Int):Rat),((0:Int):Rat)]) uC (by simp) (by decide+kernel) (by simp);rw[ai5]at yu;rw[ai6]at yv;rw[ai7]at hf;clear o8 we uC s0 s1 s2 s3 s4 n0 n3;generalize Q5 (Q3 0) ((2:Int):Rat)=S2 at *
 generalize aV (Q3 0) (Q3 1)=M at *
 generalize cM 1=O at *
 generalize Q3 0=V0 at *
 generalize Q3 1=V1 at *
 generalize((0:Int):Rat)=q0 at *
 generalize((1:Int):Rat)=q1 at *
 generalize((2:Int):Rat)=q2 at *
 generalize((5:Int):Rat)=q5 at *
 refine mP Qg Tryz.func7 rfl ajU Nz fun C hP=>?_;simp only[c7];refine du ?_;refine Sz0 ?_;refine Qa hP wA rfl rfl rfl ?_;refine Sz0 ?_;refine Qa hP tf rfl rfl rfl ?_;refine Sz0 ?_;refine Qa hP qp rfl rfl rfl ?_;refine Sz0 ?_;refine bT (jh 16 gJ) ?_;refine bo ?_;refine Qa hP J5 rfl rfl rfl ?_;refine bo ?_;refine Qa hP uO rfl rfl rfl ?_;refine bo ?_;refine bT (jh 20 gJ) ?_;refine bo ?_;refine bT (jh 22 gJ) ?_;refine bo ?_;refine bT (jh 23 gJ) ?_;refine bo ?_;refine bT (jh 26 gJ) ?_;refine bo ?_;refine bT (jh 27 gJ) ?_;refine bo ?_;refine Qa hP J4 rfl rfl rfl ?_;refine bo ?_;refine Qa hP ab rfl rfl rfl ?_;refine bo ?_;refine bT (jh 30 gJ) ?_;refine bo ?_;rw[ajP (qT.flat rfl) (qT.flat rfl) (qT.flat rfl) (qT.flat rfl)];refine⟨⟨rfl,by simp⟩,⟨rfl,by simp⟩,⟨rfl,by simp⟩,⟨rfl,by simp⟩,?_⟩;refine bo ?_;refine bT (jh 32 gJ) ?_;refine bo ?_;refine Qa hP Fz rfl rfl rfl ?_;refine bo ?_;refine Qa hP ho5 rfl rfl rfl ?_;refine bo ?_;refine bT (jh 37 gJ) ?_;refine bo ?_;refine Qa hP yu rfl rfl rfl ?_;refine bo ?_;refine Qa hP J4 rfl rfl rfl ?_;refine bo ?_;refine Qa hP Fz rfl rfl rfl ?_;refine bo ?_;refine bT (jh 45 gJ) ?_;refine bo ?_;refine Qa hP yv rfl rfl rfl ?_;refine bo ?_;refine Qa hP mm rfl rfl rfl ?_;refine bo ?_;refine Qa hP hk0 rfl rfl rfl ?_;refine bo ?_;refine Qa hP jx rfl rfl rfl ?_;refine bo ?_;refine Qa hP pd rfl rfl rfl ?_;refine bo ?_;refine Qa hP hf rfl rfl rfl ?_;refine bo ?_;refine Ea (Wk.refl _ _) ?_;refine Sz0 ?_;exact Qc rfl rfl
structure xX(p:List Tm):Prop where
 b:PB 1000000 24 p
 n:aR p
 l:p.length<=60
theorem xX.p{p:List Tm}(h:xX p):pT p:=⟨h.b.mono (by omega) (by omega),h.n,h.l⟩
theorem xX.sc{p:List Tm}(h:xX p){a:Rat}(ha:rs a<=4):pT (Q5 p a):=
 ⟨(zt h.b (L:=5) (by omega)).mono (by omega) (by omega),kp h.n.s _,KaL (zc _ _) h.l⟩
theorem afq{S:List Q8}{G:List bD}(h:GI S G)(hb:∀s∈S,jR s):(∀c∈nV S,xX c)/\(nV S).length<=8:=by
 refine⟨fun c hc=>?_,?_⟩
 ·have hl:=h.a c (by unfold xV;simp[hc]);obtain⟨x,hx,rfl⟩:=KaF.1 hc;obtain⟨i,hi,hd⟩:=H8 (Kad _) hx;have ok:=Nu (n:=S.length) hi (by omega) (h.F.f.s i hi) hd;have cX:(eu S).length=S.length:=su S S.length;have:=aiX (vs:=gL S) (Es h.F hb) (by rw[cX];exact ok.r);exact⟨this.q.b,this.q.n,hl⟩
 ·have:=DN S S.length;have:=h.F.l;unfold nV;rw[Ka0];omega
theorem afr{P:List (List Tm)}(hP:∀c∈P,xX c){m:Nat}(h:m<P.length){a:Rat}(ha:a≠0)(h0:P[m]≠[]):∃k,l8 (Q5 P[m] a) P=some k/\k<=m:=by
 have hc:=hP _ (Kah h);have hm:jo (Q5 P[m] a) P[m]=true:=by rw[jo,decide_eq_true h0,LP hc.n h0 ha,decide_eq_true rfl];rfl
 rw[l8,if_neg (HA hc.n h0 ha)];generalize jo (Q5 P[m] a)=mq at *
 cases e:P.findIdx? mq with
 |none=>have:=KcM.1 e _ (Kah h);rw[hm]at this;cases this
 |some k=>
  refine⟨k,rfl,?_⟩;obtain⟨_,_,h3⟩:=KbX.1 e;by_cases hk:k<=m
  ·exact hk
  ·exact absurd hm (h3 m (by omega))
theorem acX(r:Option Nat):∃(a:Int)(b:Bool),KA r= .aG [.int .i64 a,.bool b]:=by cases r<;>exact⟨_,_,rfl⟩
theorem Qqr(hN:oM){S:List Q8}{G:List bD}{q:List cS}{i n:Int}{k:Nat}(hS:S.length<2^40)(hG:G.length<2^40)(hb:∀s∈S,jR s)(hg:∀g∈G,l9 g)(hq:(∀t∈q,RB k t)/\q.length<2^40)(jx:1<=k)(hk:k<2^36):
  Qd Tryz.prog 4 [PV.cw S G,PV.mD q,.int .i64 i,.int .i64 n] (· = .bool true):=by
 have hs:=aaI hN hS hG hb hg;have hB:=Qyb hq.1 jx hk hq.2;refine aB Qg Tryz.func4 ajh fun C hP=>?_;refine Sz0 ?_;refine fM hP hs rfl rfl ?_ ?_
 ·rfl
 rintro _ ⟨M,b,rfl,hM,hs⟩;cases b
 ·rcases hM with rfl|rfl
  all_goals
   refine Sz0 ?_;refine Qa hP rX rfl rfl rfl ?_;refine Sz0 ?_;exact Qc rfl rfl
 obtain⟨rfl,cL⟩:=hs rfl;obtain⟨hQ,ur⟩:=afq cL hb;unfold vH;clear hs cL hM;generalize iD S S.length=H at *
 generalize nV S=P at *
 generalize l7 S G=Q at *
 generalize eu S=C0 at *
 generalize gL S=V0 at *
 have Jf:∀c∈P,pT c:=fun c hc=>(hQ c hc).p;refine Sz0 ?_;refine Qa hP hB rfl rfl rfl ?_;cases gw:tV q
 ·refine Sz0 ?_;refine Qa hP rX rfl rfl rfl ?_;refine Sz0 ?_;exact Qc rfl rfl
 obtain⟨e,s4⟩:=aaN hq.1 gw;rw[e];clear hB e;have hf:pT (q.map cS.tm):=⟨s4.b.mono (by omega) (by omega),s4.n,by have:=s4.l;omega⟩
 have n1:=MW (S:=S) (G:=G) (C0:=C0) (V:=V0) (H:=H) (Q:=Q) Jf ur hf;have n2:=aaM (S:=S) (G:=G) (C0:=C0) (V:=V0) (H:=H) (Q:=Q) Jf ur hf;generalize q.map cS.tm=f at *
 obtain⟨a,b,Ba⟩:=acX (l8 f P);rw[Ba]at n1 n2;refine Sz0 ?_;refine Qo (fun h1=>?_) (fun h1=>?_)
 ·refine Sz0 ?_;refine Qa hP rX rfl rfl rfl ?_;refine Sz0 ?_;exact Qc rfl rfl
 refine Sz0 ?_;refine Qb (fun h2=>?_) (fun h2=>?_)
 ·refine Sz0 ?_;refine Qa hP rX rfl rfl rfl ?_;refine Sz0 ?_;exact Qc rfl rfl
 have qq:=r9 (x:=n) (by omega) (by omega);have cG:=agE n (by omega) (by omega);refine Sz0 ?_;refine Qa hP n1 rfl rfl rfl ?_;refine Sz0 ?_;refine Qa hP n2 rfl rfl rfl ?_;have Jr:(!(b==b))=false:=by cases b<;>rfl
 refine Sz1 Jr ?_;refine Q4 (fun h3=>?_) (fun h3=>?_)
 rotate_left
 ·refine Sz0 ?_;refine Qa hP rX rfl rfl rfl ?_;refine Sz0 ?_;exact Qc rfl rfl
 obtain⟨m,rfl⟩:∃m:Nat,i=m:=⟨i.toNat,by omega⟩
 refine Sz0 ?_;refine Q4 (fun h4=>?_) (fun h4=>?_)
 rotate_left
 ·refine Sz0 ?_;refine Qa hP rX rfl rfl rfl ?_;refine Sz0 ?_;exact Qc rfl rfl
 have hm:m<P.length:=by omega
 refine Sz0 ?_;refine Q4 (fun h5=>?_) (fun h5=>?_)
 rotate_left
 ·refine Sz0 ?_;refine Qa hP rX rfl rfl rfl ?_;refine Sz0 ?_;exact Qc rfl rfl
 have mr:(n:Rat)≠0:=by rw[Ne,KaS];omega
 have bj:=afr hQ hm mr;have jc:=hQ _ (Kah hm);generalize hx:P[m]=c at *
 have cX:=jc.l;refine Sz1 hx ?_;refine Qb (fun h6=>?_) (fun h6=>?_)
 rotate_left
 ·refine Sz0 ?_;refine Qa hP rX rfl rfl rfl ?_;refine Sz0 ?_;exact Qc rfl rfl
 have jt:c≠[]:=KbB.1 (by omega);obtain⟨t,ht,htm⟩:=bj jt;have uO:=zd (p:=c) (a:=(n:Rat)) (K:=1000000) (E:=24) jc.b jc.n.z (by omega) (by omega) (by omega) (by omega);have n3:=MW (S:=S) (G:=G) (C0:=C0) (V:=V0) (H:=H) (Q:=Q) Jf ur (jc.sc cG);rw[ht]at n3;replace n3:Qd _ _ _ (· = .aG [.int .i64 (t:Nat),.bool true]):=n3;generalize Q5 c (n:Rat)=w at *
 generalize(n:Rat)=nq at *
 refine Sz1 hx ?_;refine Qa hP qq rfl rfl rfl ?_;refine Sz0 ?_;refine Qa hP uO rfl rfl rfl ?_;refine Sz0 ?_;refine Qa hP n3 rfl rfl rfl ?_;refine Sz0 ?_;refine Qb (fun h7=>absurd h7 (by omega)) (fun _=>?_);refine Sz0 ?_;refine Qa hP rX rfl rfl rfl ?_;refine Sz0 ?_;exact Qc rfl rfl
theorem Pu(n:Nat)(w:World):Calls Tryz.prog 164 #[.int .u8 n] w fun e w'=>e= .returned (.bool (kO n))/\Ext cg w w':=by
 refine((Xd (n:=n)).2 w cg #[.int .u8 n] (fun _ h=>h.elim) rfl (fun i x hx=>?_)).mono fun e w' h=>?_
 ·match i,hx with
  |0,hx=>simp at hx;subst hx;exact Qp.int _ _
  |i+1,hx=>simp at hx
 ·obtain⟨v,r,rfl,h1,h2,rfl⟩:=h;cases h2;exact⟨rfl,h1⟩
theorem aaO(n:Nat)(w:World):Calls Tryz.prog 165 #[.int .u8 n] w fun e w'=>e= .returned (.bool (ru n))/\Ext cg w w':=by
 refine((aaf (n:=n)).2 w cg #[.int .u8 n] (fun _ h=>h.elim) rfl (fun i x hx=>?_)).mono fun e w' h=>?_
 ·match i,hx with
  |0,hx=>simp at hx;subst hx;exact Qp.int _ _
  |i+1,hx=>simp at hx
 ·obtain⟨v,r,rfl,h1,h2,rfl⟩:=h;cases h2;exact⟨rfl,h1⟩
theorem UX(w:World):Calls Tryz.prog 166 #[] w fun e w'=>∃b off cap,e= .returned (.slice (some ⟨b,off,none⟩) 29 cap)/\Ext cg w w'/\∀i (h:i<ke.length),w'.cell? ⟨b,off+i,none⟩=some (.string ke[i]):=by
 refine(UJ.2 w cg #[] (fun _ h=>h.elim) rfl (fun i x hx=>by simp at hx)).mono fun e w' h=>?_;obtain⟨v,r,rfl,h1,h2,rfl⟩:=h;have lk:Qp w' cg (.sl 1 (ke.map PV.str)) v:=h2;cases lk with
 |sl _ _ b off cap vs hX hb hl hc he hv hr=>
  refine⟨b,off,cap,rfl,h1,fun i hi=>?_⟩;have hlen:(ke.map PV.str).length=29:=rfl;have rB:i<ke.length:=hi;have hg:(ke.map PV.str)[i]? =some (.str ke[i]):=by rw[Kat,Kag rB];rfl
  have h3:=hv i (by rw[hlen];exact rB) 0 (by omega);have h4:=hr i _ hg 0 _ rfl;generalize vs i 0=u at h3 h4;cases h4;rw[<-h3];simp
theorem aaP(s:ByteArray)(pos:Nat)(h:pos<s.size):1<=(Utf8.decode s pos).2:=by
 by_cases ha:(s[pos]'h).toNat<128
 ·rw[decode_ascii s pos h ha];exact Kad _
 ·exact(decode_high s pos h (by omega)).2
theorem acY{w wr:World}(h:Ext cg w wr)(s:ByteArray)(p:Nat):Ext cg w (wr.iter s p):=h.trans (Ext.alloc wr _ _)
theorem WR{w wr:World}(h:Ext cg w wr){b:Nat}(hb:w.heap.size<=b)(s:ByteArray)(p:Nat):Ext cg w (wr.iterAt b s p):=
 ⟨h.os,h.tape,h.output,by rw[Lib.iterAt_size];exact h.size,fun c hc hn=>by rw[Lib.iterAt_other _ _ _ _ _ (by omega)];exact h.block c hc hn⟩
theorem aiC{s k:ByteArray}(h:s.toList=k.toList):s=k:=by rw[KcQ,KcQ]at h;cases s;cases k;exact congrArg _ (Array.toList_inj.1 h)
theorem Ce{p:Prop}(h:p->False):false=true↔p:=⟨fun e=>(by cases e),fun q=>(h q).elim⟩
theorem NL{s:ByteArray}(h:Nq s):¬s.toList=[]:=fun e=>by have:=h.p;have h2:=congrArg List.length e;rw[KcQ,Kcg]at h2;have:s.size=0:=h2;omega
theorem aiD{s:ByteArray}(h:Nq s)(h0:0<s.size):¬((s.toList.isEmpty=true∨(20:Int)<s.size)∨(!kO (s[0]'h0).toNat)=true):=by
 rintro((e|e)|e)
 ·exact NL h (List.isEmpty_iff.1 e)
 ·have:=h.l;omega
 ·rw[h.f h0]at e;cases e
set_option maxHeartbeats 2000000 in
theorem UY (s:ByteArray) (hs:s.size<2^40) (w:World):Calls Tryz.prog 126 #[.string s] w fun e w'=>∃b,e= .returned (.bool b)/\Ext cg w w'/\(b=true↔Nq s):=by
 go_enter Tryz.func126,Tryz.ntmps126
 go_wp2_with (go_at_call 164;refine(Pu _ _).mono ?_;rintro e w2 ⟨rfl,hx⟩)
 all_goals try (go_ret;first|exact⟨_,rfl,Ext.refl _ _,Ce fun hn=>absurd (by assumption) (NL hn)⟩|exact⟨_,rfl,by assumption,Ce fun hn=>absurd (by assumption) (aiD hn _)⟩|exact .inl ⟨rfl,Ext.refl _ _,fun hn=>absurd hn.l (by omega)⟩)
 rotate_left
 ·exfalso;have h1:¬s.toList=[]:=by assumption
  have h2:¬0<s.size:=by assumption
  refine h1 (Kar.1 ?_);rw[KcQ];simp only[Kcg];show s.size=0;omega
 rename_i r1 r2 r3 r4 r5 r6;have aot:s.size<=20:=by omega
 have qj:kO (s[0]'r3).toNat=true:=by simpa using r4.2
 have hf1:∀h:0<s.size,kO (s[0]'h).toNat=true:=fun _=>qj;clear r1 r2 r4 qj;generalize s.toList.isEmpty=b0;generalize decide (20<(s.size:Int))=b1;generalize kO (s[0]'r3).toNat=b2
 go_loopw [3] (fun v wr=>∃pos n,wr.heap[w2.heap.size]? =some (.stringIter s pos)/\Ext cg w wr/\pos=gI s n/\∀m,m<n->∀h:gI s m<s.size,kO (s[gI s m]'h).toNat=true∨ru (s[gI s m]'h).toNat=true) (fun _ wr=>s.size-wr.iterPos w2.heap.size)
 case atStart=>exact⟨0,0,World.iter_heap w2 s 0,acY hx s 0,rfl,fun m hm=>absurd hm (by omega)⟩
 case round=>
  have FJ:=hx.size;obtain⟨pos,n,Bj,hE,FC,aW⟩:=hrel;have Fo:wr.iterPos w2.heap.size=pos:=by simp[World.iterPos,Bj]
  have ane:w2.heap.size<wr.heap.size:=(Kbm.1 Bj).1;by_cases hp:pos<s.size
  ·have ir:∀ty,(Instr.next (.pointer (some ⟨w2.heap.size,0,none⟩)) true ty).run Tryz.prog wr=_:=fun ty=>Lib.run_next_any_at wr w2.heap.size s pos ty Bj hp;have hwd:=aaP s pos hp;have JY:gI s (n+1)=pos+(Utf8.decode s pos).2:=by rw[gI,<-FC,if_pos hp]
   have bR:(kO (s[pos]'hp).toNat=true∨ru (s[pos]'hp).toNat=true)->∀m,m<n+1->∀h:gI s m<s.size,kO (s[gI s m]'h).toNat=true∨ru (s[gI s m]'h).toNat=true:=by
    subst FC;intro ho m hm h;by_cases e:m=n
    ·subst e;exact ho
    ·exact aW m (by omega) h
   have mg:¬(kO (s[pos]'hp).toNat=true∨ru (s[pos]'hp).toNat=true)->¬Nq s:=by subst FC;exact fun ho q=>ho (q.a n hp)
   clear aW FC;obtain⟨wd,apr⟩:∃wd,(Utf8.decode s pos).2=wd:=⟨_,rfl⟩
   rw[apr]at ir hwd JY;have Bk:=Lib.iterAt_heap wr w2.heap.size s pos (pos+wd) Bj;have EX:=WR hE FJ s (pos+wd);obtain⟨W1,Ji⟩:∃W1,W1=wr.iterAt w2.heap.size s (pos+wd):=⟨_,rfl⟩
   have EW:w2.heap.size<W1.heap.size:=by rw[Ji,Lib.iterAt_size];exact ane
   rw[<-Ji]at ir Bk EX;clear Ji
   go_wp2_with (first|(go_at_call 164;refine(Pu _ _).mono ?_;rintro e w3 ⟨rfl,qv⟩)|(go_at_call 165;refine(aaO _ _).mono ?_;rintro e w4 ⟨rfl,TC⟩))
   ·go_roundw
    case rel=>exact⟨pos+wd,n+1,(qv.block _ EW id).trans Bk,EX.trans qv,JY.symm,bR (.inl (by assumption))⟩
    case measure=>
     have:w3.iterPos w2.heap.size=pos+wd:=by simp[World.iterPos,(qv.block _ EW id).trans Bk]
     omega
   ·go_ret
    exact⟨_,rfl,(EX.trans qv).trans TC,Ce (mg (fun ho=>by rcases ho with ho|ho;exact absurd ho (by assumption);simp_all))⟩
   ·have BE:=qv.trans TC
    go_roundw
    case rel=>exact⟨pos+wd,n+1,(BE.block _ EW id).trans Bk,EX.trans BE,JY.symm,bR (.inr (by simp_all))⟩
    case measure=>
     have:w4.iterPos w2.heap.size=pos+wd:=by simp[World.iterPos,(BE.block _ EW id).trans Bk]
     omega
  ·have ir:∀ty,(Instr.next (.pointer (some ⟨w2.heap.size,0,none⟩)) true ty).run Tryz.prog wr=_:=fun ty=>Lib.run_next_end_at wr w2.heap.size s pos ty Bj hp
   go_wp2_with (go_at_call 166;refine(UX _).mono ?_;rintro e w5 ⟨bk,ok,ck,rfl,BE,hk⟩)
   have dT:=hE.trans BE;have anE:∀m (h:gI s m<s.size),kO (s[gI s m]'h).toNat=true∨ru (s[gI s m]'h).toNat=true:=fun m h=>by
    rcases KcR m n with hm|hm
    ·exact aW m hm h
    ·have e:=QR (s:=s) (n:=n) (by omega) (m-n);rw[show n+(m-n)=m by omega]at e;omega
   clear aW
   go_loopw [38] (fun v wr=>∃i:Nat,v= .int .i64 i/\i<=29/\wr=w5/\∀j (h:j<ke.length),j<i->s≠ke[j]) (fun v _=>29-(Go.RowKit.intOf v).toNat)
   case atStart=>exact⟨0,rfl,by omega,rfl,fun j _ hj=>absurd hj (by omega)⟩
   case round=>
    obtain⟨i,rfl,hi,rfl,aT⟩:=hrel;by_cases qe:i<29
    ·have rB:i<ke.length:=qe;have gq:=hk i rB;have hkm:=Kah rB;have bR:s≠ke[i]->∀j (h:j<ke.length),j<i+1->s≠ke[j]:=fun hh j hj gP=>by
      by_cases e:j=i
      ·subst e;exact hh
      ·exact aT j hj (by omega)
     have nu:(i:Int)<29:=by omega
     go_wp2
     ·go_ret
      exact⟨_,rfl,dT,Ce fun hn=>absurd (aiC (eq_of_beq (by assumption))) (hn.k _ hkm)⟩
     ·have hwr:IntKind.i64.wrap ((i:Int)+1)=((i+1:Nat):Int):=by rw[IntKind.wrap_i64];omega
      refine iA (v:=.int .i64 ((i+1:Nat):Int)) (w':=wr) ?_ ?_
      ·unfold execOp;simp[Act.eval,eqGuard,binOp,Op.intArith,hwr]
       try trace_state
      ·rename_i ka kb;refine kb _ _ ?_
       go_wp2
       refine iA (v:=.int .i64 ((i+1:Nat):Int)) (w':=wr) ?_ ?_
       ·unfold execOp;simp[Act.eval,Act.put]
        try trace_state
       ·rename_i kc kd;refine kd _ _ ?_
        go_wp2
        refine⟨?_,?_⟩
        ·repeat apply Exists.intro
         refine⟨⟨i+1,rfl,by omega,trivial,bR (fun e=>by simp_all)⟩,rfl⟩
        ·show 29-(Go.RowKit.intOf (.int .i64 ((i+1:Nat):Int))).toNat<29-(Go.RowKit.intOf (.int .i64 (i:Int))).toNat;simp only[Go.RowKit.intOf,KbF];omega
    ·have nu:¬(i:Int)<29:=by omega
     go_wp2
     go_ret
     have R0:Nq s:=⟨r3,aot,hf1,anE,fun k pd=>by obtain⟨j,hj,rfl⟩:=KaA pd;exact aT j hj (by have:ke.length=29:=(rfl);omega)⟩
     first|exact .inr ⟨rfl,dT,R0⟩|exact⟨_,rfl,dT,fun _=>R0,fun _=>rfl⟩|trace_state
theorem WS(s:ByteArray)(hs:s.size<2^40):Qd Tryz.prog 126 [PV.str s] (fun r=>r= .bool (yP s)):=by
 refine⟨by unfold oV;kernel_rfl,fun w X bd hX hl ha=>?_⟩;have h0:=ha 0 (.str s) rfl;obtain⟨v,rfl⟩:∃v,bd= #[v]:=by
  obtain⟨l⟩:=bd
  match l,hl with
  | [v],_=>exact⟨v,rfl⟩
 have h1:Qp w X (.str s) v:=h0;cases h1;refine(UY s hs w).mono fun e w' h=>?_;obtain⟨b,rfl,h2,h3⟩:=h;exact⟨_,.bool b,rfl,h2,Qp.bool b,by rw[aiu h3]⟩
theorem acZ:oM:=fun s hs=>WS s hs
theorem Qsb{S:List Q8}{G:List bD}{q:List cS}{i n:Int}(h:Ih S G)(hq:GK q)(_: -9223372036854775808<=i/\i<=9223372036854775807)(_: -9223372036854775808<=n/\n<=9223372036854775807):Qd Tryz.prog 4 [PV.cw S G,PV.mD q,.int .i64 i,.int .i64 n] (· = .bool true):=
 Qqr acZ (k:=1048576) (by have:=h.1.1;omega) (by have:=h.2.1;omega) (fun s hs=>aiw (h.1.2 s hs)) (fun g hg=>aiv (h.2.2 g hg)) ⟨fun t ht=>(hq.2 t ht).1,by have:=hq.1;omega⟩ (by omega) (by omega)
open Go Go.FW Go.ChangeShapes Go.WideShapes Go.ChangeAt Go.RowKit
theorem Qm1(H:Type)(enc:TypeId×Value->H)(W:World)(base:Nat)(args:Array Value)(ds gs:List (DataW H))(before:List MemPlace)
  (dH:∀(j:Nat) t v,Tryz.f4.params[j]? =some t->args[j]? =some v->Value.okWide Tryz.prog W .any base t v)
  (hW:DataW.Whole enc Tryz.prog Tryz.f4.params.toList Rows.certcheckNamesSpec.vars false W args.toList ds gs before) (hk:Rows.uptoSmall H (ds++gs)=true):
  Calls Tryz.prog 4 args W fun e W'=>∃v,e= .returned v/\Rows.certcheckNamesSpec.post enc Tryz.prog Tryz.f4 false true false false W args v W':=by
 have AY:=hW;obtain⟨p,q,AR,hV,rfl,mi,JV⟩:=hW;have hA:DataW.TrodAll enc Tryz.prog W 0 (fun _=>true) true Tryz.f4.params.toList args.toList ds p:=AR;rw[Tryz.params4]at hA dH;obtain⟨v0,vs0,e0,ds0,p0,q0,cN,rfl,rfl,h0,r0⟩:=trodAll_cons hA;obtain⟨v1,vs1,e1,ds1,p1,q1,rfl,rfl,rfl,h1,r1⟩:=trodAll_cons r0;obtain⟨v2,vs2,e2,ds2,p2,q2,rfl,rfl,rfl,h2,r2⟩:=trodAll_cons r1;obtain⟨v3,vs3,e3,ds3,p3,q3,rfl,rfl,rfl,h3,r3⟩:=trodAll_cons r2;obtain⟨rfl,rfl,rfl⟩:=trodAll_nil r3;obtain rfl:args= #[v0,v1,v2,v3]:=by cases args;simp_all
 obtain⟨rfl,rfl⟩:=trodVars_none hV;have hb:=abJ hk;simp only[Kas,Rows.uptoBulkAll]at hb;obtain⟨S0,G0,g0,b0⟩:=Xe (dH 0 _ v0 rfl rfl) h0 (by omega);obtain⟨a1,g1,b1⟩:=abK (dH 1 _ v1 rfl rfl) h1 (by omega);obtain⟨a2,g2,b2⟩:=L1 (dH 2 _ v2 rfl rfl) h2 (by omega);obtain⟨a3,g3,b3⟩:=L1 (dH 3 _ v3 rfl rfl) h3 (by omega);exact ZQ AY rfl (by kernel_rfl) (by kernel_rfl) rfl (Qsb b0 b1 b2 b3) rfl
  (abL (vs:=[v0,v1,v2,v3]) (by
   intro i x hx v hv
   match i,hx,hv with
   |0,hx,hv=>simp at hx hv;subst hx hv;exact g0
   |1,hx,hv=>simp at hx hv;subst hx hv;exact g1
   |2,hx,hv=>simp at hx hv;subst hx hv;exact g2
   |3,hx,hv=>simp at hx hv;subst hx hv;exact g3
   |i+4,hx,hv=>simp at hx) rfl)
theorem Qox(os:Os)(started:os.Started)(H:Type)(enc:TypeId×Value->H)(F:Stop.Interp):
  ReturnsInHanded {} Tryz.checked os 4 .any ((Rows.OpenSpec.upto Rows.certcheckNamesSpec).pre6 enc Tryz.prog Tryz.f4 Rows.certcheckNamesUptoRow.domain false) (((Rows.OpenSpec.upto Rows.certcheckNamesSpec).at F).post enc Tryz.prog Tryz.f4 false true false false):=by
 refine returnsInHanded_of_cond (C:=Tryz.checked) (s:=Rows.OpenSpec.upto Rows.certcheckNamesSpec) (k:=Rows.uptoSmall) rfl own started (by kernel_rfl) Tryz.func4
  (OpenSpec.witness (enc:=enc) (C:=Tryz.checked) (s:=Rows.OpenSpec.upto Rows.certcheckNamesSpec) (k:=Rows.uptoSmall) rfl false ⟨#[],#[.agg #[.slice none 0 0,.slice none 0 0],.slice none 0 0,.int .i64 0,.int .i64 0],[]⟩ 8 (by kernel_rfl) (by kernel_rfl) (by kernel_rfl)
   (x:=([.agg [.nil,.nil],.nil,.lit (.int .i64 0),.lit (.int .i64 0)],[],[])) (by kernel_rfl) rfl (by kernel_rfl)) ?_
 intro W base args ds gs before dH hW _ hk _;exact Qm1 H enc W base args ds gs before dH hW hk
theorem certcheckNames_proved:Rows.CertcheckNamesUptoSaid:=
 OpenClaim.holds_of_cond 4 Tryz.f4 rfl rfl rfl rfl rfl rfl rfl ⟨rfl,rfl,rfl,rfl,rfl⟩ rfl rfl rfl rfl rfl (by kernel_rfl) Tryz.func4 (by kernel_rfl)
  (of_decide_eq_true (by kernel_rfl)) (by unfold Func.isWrapper;first|(rw[if_pos (by decide+kernel)];kernel_rfl)|(rw[if_neg (by decide+kernel)];exact⟨rfl,rfl⟩))
  (fun os started H enc _ F=>Qox os started H enc F)
end Go.Proofs.YtccppnepkfbpkaaGreat
