/- Part 16 of the proof of InequalityPolys: G1, G2, G3, IC7, IAC, IC8, IC9, DA, FwVD. Own lemmas; no conditions. -/
import Derived.Test.YtikalonaompbdaaGreatInequalityPolysPart15
set_option maxHeartbeats 1000000
set_option linter.all false
set_option maxRecDepth 100000
namespace Go.Proofs.YtikalonaompbdaaGreat
open Go Go.FW
open Go.Proofs.Tryz
variable{T:Nat}{c:Cd}{cs:List Cd}{f:bB}{p:List Tm}{vs:List Vr}
def akI{a:Rat}{K E:Nat}(hp:PQ T K E p)(ha:rs a+1<=K)(hT:T<=2^36)(hK:K<=2^33)(hE:E<=2^38):AC 70 [PV.aC p,PV.rat a] (· =PV.aC (ee p a)):=
 Ln hp.b hp.n.z ha hK hE (by have:=hp.l;omega)
def H5{a:Nat}(h:∀h:a<cs.length,cs[a]=c)(ha:a<cs.length):(cs.map PV.bj)[a]? =some (PV.bj c):=by rw[Kaw,Kae ha,h ha];rfl
def akJ(hl:cs.length<=1000)(hc:∀c∈cs,CB c)(aT:Ak cs.length f):AC 46 [PV.frame cs vs,PV.dJ f] (· =PV.aC (ki cs f)):=by
 obtain⟨a,b,c,d,ha,h1,h2,h3,h4⟩:=aT.l;have hr:=aT.r;have hk:=aT.k;obtain⟨k,args,n0,x,y⟩:=f;simp only at ha hr hk;subst ha;have q1:=Gt (x:=1) Oz Oz;have ca:=hc _ (Kad h1);have cb:=hc _ (Kad h2);have cc:=hc _ (Kad h3);have cd:=hc _ (Kad h4);have et:∀r:Rat,(if k=9 then rv n0 x y else 1)=r->ki cs ⟨k,[(a:Int),(b:Int),(c:Int),(d:Int)],n0,x,y⟩=bX (jP cs[a] cs[b] cs[a] cs[b]) (ee (jP cs[c] cs[d] cs[c] cs[d]) r):=λr h=>by have g1:=ru h1;have g2:=ru h2;have g3:=ru h3;have g4:=ru h4;show bX (jP (cs.getD ((a:Int)).toNat ([],[])) (cs.getD ((b:Int)).toNat ([],[])) (cs.getD ((a:Int)).toNat ([],[])) (cs.getD ((b:Int)).toNat ([],[]))) (ee (jP (cs.getD ((c:Int)).toNat ([],[])) (cs.getD ((d:Int)).toNat ([],[])) (cs.getD ((c:Int)).toNat ([],[])) (cs.getD ((d:Int)).toNat ([],[]))) (if k=9 then rv n0 x y else 1))=_;rw[g1,g2,g3,g4,h]
 obtain⟨A,hA⟩:∃A,cs[a]=A:=⟨_,rfl⟩
 obtain⟨B,hB⟩:∃B,cs[b]=B:=⟨_,rfl⟩
 obtain⟨D,hD⟩:∃D,cs[c]=D:=⟨_,rfl⟩
 obtain⟨F,hF⟩:∃F,cs[d]=F:=⟨_,rfl⟩
 rw[hA]at ca;rw[hB]at cb;rw[hD]at cc;rw[hF]at cd;rw[hA,hB,hD,hF]at et;have m1:=H5 (cs:=cs) (a:=a) (λ_=>hA) h1;have m2:=H5 (cs:=cs) (a:=b) (λ_=>hB) h2;have m3:=H5 (cs:=cs) (a:=c) (λ_=>hD) h3;have m4:=H5 (cs:=cs) (a:=d) (λ_=>hF) h4;have p1:=SY ca cb ca cb;have p2:=SY cc cd cc cd;have b2:=HG cc cd cc cd;have fo:∀(r:Rat)(b9:Bool),(if k=9 then rv n0 x y else 1)=r->rs r<=1000->decide (k=9)=b9->(b9=true->PV.rr n0 x y=PV.rat r)->(b9=false->((1:Int):Rat)=r)->
   AC 46 [PV.frame cs vs,PV.dJ ⟨k,[(a:Int),(b:Int),(c:Int),(d:Int)],n0,x,y⟩] (· =PV.aC (ki cs ⟨k,[(a:Int),(b:Int),(c:Int),(d:Int)],n0,x,y⟩)):=by
  intro r b9 wo cU d9 ht NY;rw[et r wo];have s:=akI b2 (a:=r) Oz Oz Oz Oz;have f6:=wX (T:=524288) (K:=2^29+8196) (E:=200) ((HG ca cb ca cb).mono Oz Oz Oz) ((b2.scale (a:=r) (L:=1025) Oz).mono Oz Oz Oz) Oz Oz Oz;generalize hP1:jP A B A B=P1 at *
  generalize hP2:jP D F D F=P2 at *
  refine Ws Qd func46 rfl adl Nz λC hP hN=>?_;simp only[Xy];refine cC ?_;refine Sz0 ?_;refine RK 2 Qw Qw (by decide) ?_;refine de ?_;refine RK 3 ba ba (by decide) ?_;refine de ?_;refine Uf Lb FO (by rw[hP];exact Qd) (by rw[hP,hN];exact aj0) aj1 (by decide) (dR (y3 cs vs ⟨k,[(a:Int),(b:Int),(c:Int),(d:Int)],n0,x,y⟩) (Ld cs vs ⟨k,[(a:Int),(b:Int),(c:Int),(d:Int)],n0,x,y⟩ a b A B) (DS A B)) ?_ (aoh (f:=⟨k,[(a:Int),(b:Int),(c:Int),(d:Int)],n0,x,y⟩) rfl rfl m1 m2) (λl fr hp bY I=>?_)
  .refine⟨λe he=>?_,λe he h=>(by cases h),λe he h=>(by cases h),λe he h=>(by cases h)⟩;simp only[y3,KaA,KaR,or_false]at he
   repeat' rcases he with rfl|he
   all_goals try subst he
   all_goals (simp+decide (disch:=try exact E0) only[go_sem,ch,Kak,Kao,Kal,Kaq,Kai]<;>rfl)
  refine wkx (I.XJ (b0:=5) (b1:=6) (I.at (s:=5) rfl (bY 16 (by decide))) (I.at (s:=6) rfl (bY 17 (by decide))) (I.s _ (show(5,16,18,_,_)∈DS A B from Kcm) (bY 18 (by decide))) (I.s _ (show(6,17,19,_,_)∈DS A B from Kbx _ Kcm) (bY 19 (by decide))) (by decide) (by decide) (by decide) (λe he=>?_) (λe he=>?_)) (Sy ?_)
  .simp only[y3,KaA,KaR,or_false]at he;rcases he with rfl|rfl<;>rfl
  .simp only[y3,KaA,KaR,or_false]at he;rcases he with rfl|rfl<;>exact⟨KcC rfl,KcC rfl⟩
  clear I bY;simp only[vX,y3];refine Sz0 ?_;refine Uf Lc FP (by rw[hP];exact Qd) (by rw[hP,hN];exact aj2) aj3 (by decide) (dR (y4 cs vs ⟨k,[(a:Int),(b:Int),(c:Int),(d:Int)],n0,x,y⟩ A B) (Le cs vs ⟨k,[(a:Int),(b:Int),(c:Int),(d:Int)],n0,x,y⟩ c d D F) (DT D F)) ?_ (aoi (f:=⟨k,[(a:Int),(b:Int),(c:Int),(d:Int)],n0,x,y⟩) rfl rfl m3 m4) (λl fr hp bY I=>?_)
  .refine⟨λe he=>?_,λe he h=>(by cases h),λe he h=>(by cases h),λe he h=>(by cases h)⟩;simp only[y4,KaA,KaR,or_false]at he
   repeat' rcases he with rfl|he
   all_goals try subst he
   all_goals (simp+decide (disch:=try exact E0) only[go_sem,ch,Kak,Kao,Kal,Kaq,Kai]<;>rfl)
  refine wkx (I.XJ (b0:=7) (b1:=8) (I.at (s:=7) rfl (bY 16 (by decide))) (I.at (s:=8) rfl (bY 17 (by decide))) (I.s _ (show(7,16,18,_,_)∈DT D F from Kcm) (bY 18 (by decide))) (I.s _ (show(8,17,19,_,_)∈DT D F from Kbx _ Kcm) (bY 19 (by decide))) (by decide) (by decide) (by decide) (λe he=>?_) (λe he=>?_)) (Sy ?_)
  .simp only[y4,KaA,KaR,or_false]at he;rcases he with rfl|rfl|rfl|rfl<;>rfl
  .simp only[y4,KaA,KaR,or_false]at he;rcases he with rfl|rfl|rfl|rfl<;>exact⟨KcC rfl,KcC rfl⟩
  clear I bY;simp only[vX,y4];cases b9
  .obtain rfl:=NY rfl;refine ay hP q1 ?_;refine Sz1 d9 ?_
   repeat' first
    |refine fU ?_ ?_
    |refine Qy hP p1 ?_
    |refine Qy hP p2 ?_
    |refine Qy hP s ?_
    |refine Qy hP f6 ?_
    |simp+decide (disch:=try exact D1 d9) only[go_sem,d9]
   all_goals
    refine ss (cx ?_);exact cf
  .have rY:=ht rfl;refine ay hP q1 ?_;refine Sz2 d9 rY ?_
   repeat' first
    |refine fU ?_ ?_
    |refine Qy hP p1 ?_
    |refine Qy hP p2 ?_
    |refine Qy hP s ?_
    |refine Qy hP f6 ?_
    |simp+decide (disch:=try exact D2 d9 rY) only[go_sem,d9,rY]
   all_goals
    refine ss (cx ?_);exact cf
 rcases hk with rfl|rfl
 .exact fo 1 false rfl (by have:=ph;omega) rfl (by simp) (by simp)
 .exact fo _ true rfl (hr rfl).2 rfl (λ_=>(hr rfl).1) (by simp)
variable{G L:List bB}{S:List bR}{i:Nat}{n:Int}
def rO(L:List bB)(n:Int):Int:=match L.find? (λf=>decide (cP f n≠0))with
 |some f=>cP f n
 |none=>0
def Uj(hi:i<L.length)(h1:cP L[i] n≠0)(h2:∀j (h:j<L.length),j<i->cP L[j] n=0):rO L n=cP L[i] n:=by
 have:L.find? (λf=>decide (cP f n≠0))=some L[i]:=by rw[List.find?_eq_some_iff_getElem];exact⟨decide_eq_true h1,i,hi,rfl,λj hj=>by simp[h2 j Oz hj]⟩
 unfold rO;rw[this]
def Hq(h:∀j (h:j<L.length),cP L[j] n=0):rO L n=0:=by
 have:L.find? (λf=>decide (cP f n≠0))=none:=by rw[List.find?_eq_none];intro x hx;obtain⟨j,hj,rfl⟩:=KaH hx;simp[h j hj]
 unfold rO;rw[this]
def jz(S:List bR)(cs:List Cd)(L:List bB):PV:=
 if(S.all λs=>kZ s.k)=false then .aI [PV.aC [],.int .i64 8]else if rO L (S.length:Nat)≠0 then .aI [PV.aC [],.int .i64 (rO L (S.length:Nat))]else PV.pT (gS (λi=>ki cs (L.getD i ⟨0,[],false,[],[]⟩)) L.length)
def aoj(hS:S.length<=1000)(hL:L.length<=1000)(bZ:∀f∈L,iA f)(zq:AC 29 [PV.cn S G] (· = .aI [PV.frame cs vs,.int .i64 0]))
  (hl:cs.length<=1000) (hc:∀c∈cs,CB c) (N1:∀f∈L,cP f (S.length:Nat)=0->Ak cs.length f)
  (bI:∀i p,i<L.length->(∀j (h:j<L.length),cP L[j] (S.length:Nat)=0)->gS (λi=>ki cs (L.getD i ⟨0,[],false,[],[]⟩)) i=some p->AC 39 [PV.aC p,PV.aC (ki cs (L.getD i ⟨0,[],false,[],[]⟩))] (· =PV.pT (pQ (Qp p (ki cs (L.getD i ⟨0,[],false,[],[]⟩)))))):
  AC 10 [PV.cn S G,.sl 5 (L.map PV.dJ)] (· =jz S cs L):=by
 have bx:=akD (G:=G) hS;refine aF Qd func10 adw λC hP=>?_;refine ay hP zq ?_;refine ay hP bx ?_;cases hb:(S.all λs=>kZ s.k)
 .have e:jz S cs L= .aI [PV.aC [],.int .i64 8]:=by unfold jz;rw[if_pos hb]
  refine Sz0 ?_;exact ek e rfl rfl (p':=PV.aC []) trivial (Qi _)
 refine Sz0 ?_;refine Qh okB [(4,5),(9,10),(26,38)] [9] (λm J hp=>∃i:Nat,m=L.length-i/\i<=L.length/\(∀j (h:j<L.length),j<i->cP L[j] (S.length:Nat)=0)/\J 26= .int .i64 (i:Nat)/\hp 2=some ⟨2,25,[PV.cn S G],false⟩/\hp 3=some ⟨1,23,[.sl 5 (L.map PV.dJ)],false⟩/\hp 6=some ⟨2,76,[PV.frame cs vs],false⟩) L.length ?_ ?_
 .refine⟨0,rfl,Oz,Oz,?_⟩;refine Sz0 ?_;rfl
 rintro _ J h ⟨i,rfl,hi,h1,j1,hb2,m9,lZ⟩;refine aZ j1 (λhg=>?_) (λhg=>?_)
 .have au:i<L.length:=Oz;have xL:=aj4 (n:=(S.length:Nat)) (bZ _ (Kad au));have v5:=λh=>Uj au h h1
  have bI:cP L[i] (S.length:Nat)=0->∀j (h:j<L.length),j<i+1->cP L[j] (S.length:Nat)=0:=λh j hj fP=>by
   by_cases e:j=i
   .subst e;exact h
   .exact h1 j hj Oz
  generalize hx:L[i]=x at *
  refine eL j1 hx hb2 hP xL ?_;by_cases h0:cP x (S.length:Nat)=0
  .have d:decide (¬cP x (S.length:Nat)=0)=false:=by simp[h0]
   refine Sz5 j1 d hb2 m9 lZ ?_;refine Qe (L.length-(i+1)) Oz ⟨i+1,rfl,Oz,bI h0,?_⟩;refine Sz3 hb2 m9 lZ ?_;trivial
  .have d:decide (¬cP x (S.length:Nat)=0)=true:=decide_eq_true h0;have e:jz S cs L= .aI [PV.aC [],.int .i64 (cP x (S.length:Nat))]:=by have q:=v5 h0;unfold jz;rw[if_neg (by rw[hb];decide),q,if_pos h0]
   refine Sz3 j1 d hb2 ?_;exact ek e rfl rfl (p':=PV.aC []) trivial (Qi _)
 obtain rfl:i=L.length:=by omega
 have h0:∀j (h:j<L.length),cP L[j] (S.length:Nat)=0:=λj hj=>h1 j hj hj
 have Ey:rO L (S.length:Nat)=0:=Hq h0;have e:jz S cs L=PV.pT (gS (λi=>ki cs (L.getD i ⟨0,[],false,[],[]⟩)) L.length):=by unfold jz;rw[if_neg (by rw[hb];decide),if_neg (by rw[Ey];decide)]
 have ht:=akG (n:=L.length) (f:=34) (g:=39) (c1:=[.sl 5 (L.map PV.dJ)]) (c2:=[.fn 32 [] [PV.qA cs vs]]) (one:=λi=>ki cs (L.getD i ⟨0,[],false,[],[]⟩)) hL
  (λi hi=>by
   have hg:L.getD i ⟨0,[],false,[],[]⟩=L[i]:=by rw[Kac,Kae hi];rfl
   show Qa _ _ _ (· =PV.aC (ki cs (L.getD i ⟨0,[],false,[],[]⟩)));rw[hg];exact akH hi hL hl hc (N1 _ (Kad hi) (h0 i hi)))
  (λi p hi hp=>bI i p hi h0 hp)
 have er:(PV.fn 32 [] [PV.mp 6 0 0]).refs=[6]:=rfl;have es:∀q:HB,Qr (Qg h 11 q) (PV.fn 32 [] [PV.mp 6 0 0])= .fn 32 [] [PV.qA cs vs]:=λq=>by simp[Qr,cA,Qg,lZ,aP,PV.cells]
 have ec:(PV.fn 32 [] [PV.qA cs vs]).cells=[.fn 32 [] [PV.qA cs vs]]:=rfl;have ed:(PV.fn 32 [] [PV.qA cs vs]).aJ=true:=rfl;refine Ic m9 er es ec ed ?_;rw[va (n:=1) (xs:=[.nf]) (by decide) ed rfl];refine mu m9 lZ ?_;have es2:∀q:HB,Qr (Qg (FW.Qu (Qg h 11 q) [6]) 11 ⟨1,83,[.fn 32 [] [PV.qA cs vs]],false⟩) (PV.fn 34 [] [PV.mp 3 0 0,PV.mp 11 0 0])= .fn 34 [] [.pt [.sl 5 (L.map PV.dJ)],.pt [.fn 32 [] [PV.qA cs vs]]]:=λq=>by simp[Qr,cA,Qg,FW.Qu,m9,aP,PV.cells]
 have Jc:=ht.le (args':=[.int .i64 (L.length:Nat),.aa,.fn 34 [] [.pt [.sl 5 (L.map PV.dJ)],.pt [.fn 32 [] [PV.qA cs vs]]],.fn 39 [] []]) ⟨Qi _,trivial,Qi _,Qi _,trivial⟩;refine ko hP Jc (by show [_,_,Qr _ _,_]=_;rw[show([PV.nf].set 0 (PV.fn 32 [] [PV.qA cs vs]):List PV)=[.fn 32 [] [PV.qA cs vs]]from rfl,es2];rfl) rfl ?_;rw[e];cases htt:gS (λi=>ki cs (L.getD i ⟨0,[],false,[],[]⟩)) L.length
 all_goals
  simp only[PV.pT];refine Sz0 ?_;exact ek rfl rfl rfl (Qi _) (Qi _)
def c11:ax:=⟨55,[.t 4,.t 5],Zr (my 2 25 0<|gz 4 0)<|Zr (iB 13 2 2 42<|Zm 12 14<|Yd 15 12<|Yr 6 76<|Zs 2 6 15<|Zm 7 16 .nil)<| .seq (Zr (YQ 17 7)<| .cond (.t 18) (Zr (Zm 19 7<|Yi 4<|Yc 5 19) .ret) .skip)<| .seq (Zr (iB 20 2 2 43<|Zu 22 21 .nil)<| .cond (.t 22) (Zr (gz 4 8) .ret) .skip)<| .seq (Zr (Yf 8 0)<| .block 0<| .loop<| .seq (Zr (mX 23 8 1)<| .cond (.t 26) .skip (.exit 0))<| .seq (.block 1<|Zr (Zh 29 2 2<|Yh 30 1 8<|YG 32 5 30 31<|Zq 34 false 44 [.t 29,.t 33]<|Yc 9 34)<|Zr (YQ 35 9)<| .cond (.t 36) (Zr (Zm 37 9<|Yi 4<|Yc 5 37) .ret) .skip)<| .rg (fO 27 8))<|Zr (YI 10)<| .seq (Zr (Yf 11 0)<| .block 2<| .loop<| .seq (Zr (mX 38 11 1)<| .cond (.t 41) .skip (.exit 2))<| .seq (.block 3<|Zr (Zm 44 10<|Zh 45 2 6<|Yh 46 1 11<|YG 48 5 46 47<|Yp 50 46 45 49<|Yp 51 45 44 50<|Yc 10 51)<|Zr (YJ 52 10 47 .nil)<| .cond (.t 53) (Zr (gz 4 4) .ret) .skip)<| .rg (fO 42 11))<|Zr (Zm 54 10<|Zm 4 54<|Yf 5 0) .ret⟩
def adp:Qc Tryz.prog f11=some c11:=by kernel_rfl
abbrev ny(cs:List Cd)(L:List bB):Nat->List Tm:=λi=>ki cs (L.getD i ⟨0,[],false,[],[]⟩)
def akK(hS:S.length<=1000)(hL:L.length<=1000)(bZ:∀f∈L,iA f)(zq:AC 42 [PV.cn S G] (· = .aI [PV.frame cs vs,.int .i64 0]))
  (hl:cs.length<=1000) (hc:∀c∈cs,CB c) (N1:∀f∈L,cP f (S.length:Nat)=0->Ak cs.length f)
  (bI:∀i p,i<L.length->(∀j (h:j<L.length),cP L[j] (S.length:Nat)=0)->gS (ny cs L) i=some p->AC 45 [PV.aC p,PV.aC (ny cs L i)] (· =PV.aC (Qp p (ny cs L i)))/\AC 47 [PV.aC (Qp p (ny cs L i))] (· = .bool (ku (Qp p (ny cs L i))))):
  AC 11 [PV.cn S G,.sl 5 (L.map PV.dJ)] (· =jz S cs L):=by
 have bx:=aib (G:=G) hS;refine aF Qd func11 adp λC hP=>?_;refine ay hP zq ?_;refine ay hP bx ?_;cases hb:(S.all λs=>kZ s.k)
 .have e:jz S cs L= .aI [PV.aC [],.int .i64 8]:=by unfold jz;rw[if_pos hb]
  refine Sz0 ?_;exact ek e rfl rfl (p':=PV.aC []) trivial (Qi _)
 refine Sz0 ?_;refine Qh okB [(4,5),(8,9),(23,37)] [] (λm J hp=>∃i:Nat,m=L.length-i/\i<=L.length/\(∀j (h:j<L.length),j<i->cP L[j] (S.length:Nat)=0)/\J 8= .int .i64 (i:Nat)/\hp 2=some ⟨2,25,[PV.cn S G],false⟩/\hp 6=some ⟨2,76,[PV.frame cs vs],false⟩) L.length ?_ ?_
 .refine⟨0,rfl,Oz,Oz,?_⟩;refine Sz0 ?_;rfl
 rintro _ J h ⟨i,rfl,hi,h1,j1,hb2,lZ⟩;refine aZ j1 (λhg=>?_) (λhg=>?_)
 .have au:i<L.length:=Oz;have xL:=aia (S:=S) (G:=G) (bZ _ (Kad au));have v5:=λh=>Uj au h h1
  have bI:cP L[i] (S.length:Nat)=0->∀j (h:j<L.length),j<i+1->cP L[j] (S.length:Nat)=0:=λh j hj fP=>by
   by_cases e:j=i
   .subst e;exact h
   .exact h1 j hj Oz
  generalize hx:L[i]=x at *
  refine eL j1 hx hb2 hP xL ?_;by_cases h0:cP x (S.length:Nat)=0
  .have d:decide (¬cP x (S.length:Nat)=0)=false:=by simp[h0]
   refine Sz4 j1 d hb2 lZ ?_;refine Qe (L.length-(i+1)) Oz ⟨i+1,rfl,Oz,bI h0,?_⟩;refine Sz2 hb2 lZ ?_;trivial
  .have d:decide (¬cP x (S.length:Nat)=0)=true:=decide_eq_true h0;have e:jz S cs L= .aI [PV.aC [],.int .i64 (cP x (S.length:Nat))]:=by have q:=v5 h0;unfold jz;rw[if_neg (by rw[hb];decide),q,if_pos h0]
   refine Sz3 j1 d hb2 ?_;exact ek e rfl rfl (p':=PV.aC []) trivial (Qi _)
 obtain rfl:i=L.length:=by omega
 have h0:∀j (h:j<L.length),cP L[j] (S.length:Nat)=0:=λj hj=>h1 j hj hj
 have Ey:rO L (S.length:Nat)=0:=Hq h0;have e:jz S cs L=PV.pT (gS (ny cs L) L.length):=by unfold jz;rw[if_neg (by rw[hb];decide),if_neg (by rw[Ey];decide)]
 refine Sz0 ?_;refine wT 10 4 Tz0 ?_;refine Qh okB [(4,5),(10,11),(38,53)] [] (λm J hp=>∃(i:Nat)(p:List Tm),m=L.length-i/\i<=L.length/\gS (ny cs L) i=some p/\J 11= .int .i64 (i:Nat)/\J 10=PV.aC p/\hp 6=some ⟨2,76,[PV.frame cs vs],false⟩) L.length ?_ ?_
 .refine⟨0,[],rfl,Oz,rfl,?_⟩;refine Sz1 lZ ?_;exact⟨rfl,rfl⟩
 rintro _ J2 h2 ⟨i,p,rfl,hi,hp,iW,gi,lZ⟩;refine cH iW gi (λhg=>?_) (λhg=>?_)
 .have au:i<L.length:=Oz;have iT:L.getD i ⟨0,[],false,[],[]⟩=L[i]:=by rw[Kac,Kae au];rfl
  obtain⟨k1,k2⟩:=bI i p au h0 hp;have il:gS (ny cs L) (i+1)=pQ (Qp p (ny cs L i)):=by rw[gS,hp];rfl
  have htm:=akJ (vs:=vs) hl hc (N1 _ (Kad au) (h0 i au));have et:ny cs L i=ki cs L[i]:=by show ki cs (L.getD i _)=_;rw[iT]
  rw[<-et]at htm;generalize ny cs L i=q at *
  generalize hx:L[i]=x at *
  refine gy iW gi lZ hx hP htm ?_;refine bE iW gi hP k1 ?_;refine bE iW gi hP k2 ?_;cases jr:ku (Qp p q)
  .refine Sz2 iW gi ?_;refine Qe (L.length-(i+1)) Oz ⟨i+1,Qp p q,rfl,Oz,by rw[il,pQ,jr];rfl,?_⟩;refine Sz1 lZ ?_;trivial
  .have e2:jz S cs L= .aI [PV.aC [],.int .i64 4]:=by rw[e,show L.length=i+1+(L.length-(i+1))by omega,Mr (by rw[il,pQ,jr];rfl)];rfl
   refine Sz2 iW gi ?_;exact ek e2 rfl rfl (p':=PV.aC []) trivial (Qi _)
 obtain rfl:i=L.length:=by omega
 have e2:jz S cs L= .aI [PV.aC p,.int .i64 0]:=by rw[e,hp];rfl
 refine Sz1 gi ?_;exact ek e2 rfl rfl (Qi _) (Qi _)
abbrev C8(c:Cd):Prop:=CQ 8 120 8 c
def UF{a b d:Cd}(ha:C8 a)(hb:C8 b)(hc:C8 c)(hd:C8 d):PQ 512 15488 16 (jP a b c d):=
 (((hb.x.sub ha.x).mul (hd.x.sub hc.x)).add ((hb.y.sub ha.y).mul (hd.y.sub hc.y))).mono Oz Oz Oz
def adq(hc:∀c∈cs,C8 c)(aT:Ak cs.length f):PQ 1024 33000 16 (ki cs f):=by
 obtain⟨a,b,c,d,ha,h1,h2,h3,h4⟩:=aT.l;have hr:rs (if f.k=9 then rv f.n f.a f.d else 1)<=1000:=by
  split
  .rename_i h;exact(aT.r h).2
  .have:=ph;omega
 have g1:=ru h1;have g2:=ru h2;have g3:=ru h3;have g4:=ru h4;have e:ki cs f=bX (jP cs[a] cs[b] cs[a] cs[b]) (ee (jP cs[c] cs[d] cs[c] cs[d]) (if f.k=9 then rv f.n f.a f.d else 1)):=by unfold ki;rw[ha];show bX (jP (cs.getD ((a:Int)).toNat ([],[])) (cs.getD ((b:Int)).toNat ([],[])) (cs.getD ((a:Int)).toNat ([],[])) (cs.getD ((b:Int)).toNat ([],[]))) (ee (jP (cs.getD ((c:Int)).toNat ([],[])) (cs.getD ((d:Int)).toNat ([],[])) (cs.getD ((c:Int)).toNat ([],[])) (cs.getD ((d:Int)).toNat ([],[]))) (if f.k=9 then rv f.n f.a f.d else 1))=_;rw[g1,g2,g3,g4]
 rw[e];have ca:=hc _ (Kad h1);have cb:=hc _ (Kad h2);have cc:=hc _ (Kad h3);have cd:=hc _ (Kad h4);exact((UF ca cb ca cb).sub ((UF cc cd cc cd).scale (L:=1001) Oz)).mono Oz Oz Oz
def SA{one:Nat->List Tm}{T K E:Nat}:∀(i:Nat)(p:List Tm),gS one i=some p->(∀j,j<i->PQ T K E (one j))->PQ (i*T) (i*K) E p
 |0,p,h,_=>by cases h;exact PQ.nil
 | i+1,p,h,hq=>by
  rw[gS,Kab]at h;obtain⟨q,h1,h2⟩:=h;unfold pQ at h2;split at h2
  .cases h2
  .cases h2;exact((SA i q h1 λj hj=>hq j Oz).add (hq i Oz)).mono (by rw[KcV];exact Kag _) (by rw[KcV];exact Kag _) (Kag _)
variable{a:List Nat}
def c24:ax:=⟨14,[.t 2],Zr (jA 1 49 0<|Yl 2)<|Zr (Zf 3 0 1<|YT 4 1 3<|Zk 7 .leq 6 2<|Zm 8 7<|YK 8 2 1<|Zg 8 true (.len 11 (.t 10))<|Zg 8 true (.bin 12 .leq false (.t 11) (.c (Zz 2)))<|Ym 13 8 12<|Zm 2 13 .nil) .ret⟩
def ads:Qc Tryz.prog f24=some c24:=by kernel_rfl
def c8:ax:=⟨57,[.t 4],Zr (my 2 25 0<|Yl 4)<| .seq (Zr (YT 7 0 2<|Zk 10 .gtr 9 8<|Yx 11 10 1 2<|YV 11 8<|YE 17 16 1<|Zg 17 false (.len 19 (.t 18))<|Zg 17 false (.bin 20 .gtr false (.t 19) (.c (Zz 4)))<|xy 21 17 20)<| .cond (.t 21) (Zr (Yl 4) .ret) .skip)<| .seq (Zr (Yf 5 0)<| .block 0<| .loop<| .seq (Zr (Zm 22 5<|YT 23 0 2<|Yu 26 22 25)<| .cond (.t 26) .skip (.exit 0))<| .seq (.block 1<|Zr (eF 29 0 2 5<|Zi 32 6 30 31<|cM 33 3 32 3<|Yn 35 24 34<|Zu 36 35 .nil)<| .cond (.t 36) (Zr (Yl 4) .ret) .skip)<| .rg (fO 27 5))<| .seq (Zr (Yf 6 0)<| .block 2<| .loop<| .seq (Zr (mX 37 6 1)<| .cond (.t 40) .skip (.exit 2))<| .seq (.block 3<|Zr (Yh 43 1 6<|Zi 45 5 43 44<|cM 46 2 45 3<|Yn 48 24 47<|Zu 49 48 .nil)<| .cond (.t 49) (Zr (Yl 4) .ret) .skip)<| .rg (fO 41 6))<|Zr (iB 50 2 2 26<|Zk 52 .eql 51 0<|Zm 53 52<|Zg 53 true (.ld 54 2 true (.t 2))<|Zg 53 true (.call (some 55) false (.c (.fn 27 [] [])) [.t 54])<|Ym 56 53 55<|Yc 4 56) .ret⟩
def aeS:Qc Tryz.prog f8=some c8:=by kernel_rfl
def c27:ax:=⟨5,[.t 2],Zr (uu 1 25 0<|Yl 2)<|Zr (iB 3 2 1 73<|Zm 2 4 .nil) .ret⟩
def adt:Qc Tryz.prog f27=some c27:=by kernel_rfl
def aok(hN:vg)(hS:S.length<2^40)(hG:G.length<2^40)(hb:∀s∈S,lX s)(hg:∀g∈G,iA g):AC 27 [PV.cn S G] (λr=>∃b,r= .bool b/\(b=true->qj S G)):=by have h:=an8 hN hS hG hb hg;refine aF Qd func27 adt λC hP=>?_;refine Sz0 ?_;refine kG hP h rfl rfl rfl ?_;rintro _ ⟨b,rfl,hb⟩;refine Sz0 ?_;exact ez ⟨b,rfl,hb⟩ rfl
def wE(a d:List Nat):Bool:=decide (a.length<=2)&&decide (d.length<=2)
def G4{n:Bool}{d:List Nat}(ha:a.length<2^40)(hd:d.length<2^40):AC 24 [PV.rr n a d] (· = .bool (wE a d)):=by
 refine aF Qd func24 ads λC hP=>?_;refine Sz0 ?_;refine fJ (λh=>?_) (λh=>?_)
 .refine Sz0 ?_;exact Qb (congrArg PV.bool (by rw[wE,decide_eq_true (show a.length<=2 by omega),KcK];exact decide_eq_decide.2 Oz)) rfl
 .refine Sz0 ?_;exact Qb (congrArg PV.bool (by rw[wE,decide_eq_false (show ¬a.length<=2 by omega),Bool.false_and])) rfl
def adu{d:List Nat}(h:wE a d=true):a.length<=2/\d.length<=2:=by simpa[wE]using h
structure arN(S:List bR)(G L:List bB):Prop where
 f:qj S G
 l:L.length<=4
 s:∀g∈L,g.a.length<=2/\g.d.length<=2
def aid(hN:vg)(hS:S.length<2^40)(hG:G.length<2^40)(hL:L.length<2^40)(hb:∀s∈S,lX s)(hg:∀g∈G,iA g)(bZ:∀g∈L,iA g):
  AC 8 [PV.cn S G,.sl 5 (L.map PV.dJ)] (λr=>∃b,r= .bool b/\(b=true->arN S G L)):=by
 have hR:=Mo hN hS hG hb hg;have hF:=aok hN hS hG hb hg;refine aF Qd func8 aeS λC hP=>?_;refine Sz0 ?_;refine Qo (λh8=>?_) (λh8=>?_)
 .refine Sz0 ?_;exact ez ⟨false,rfl,λh=>by cases h⟩ rfl
 refine Sz0 ?_;refine Qo (λh3=>?_) (λh3=>?_)
 .refine Sz0 ?_;exact ez ⟨false,rfl,λh=>by cases h⟩ rfl
 refine bD (λh4=>?_) (λh4=>?_)
 .refine Sz0 ?_;exact ez ⟨false,rfl,λh=>by cases h⟩ rfl
 refine Sz0 ?_;refine Qh okB [(4,5),(22,36)] [] (λm J hp=>∃i,m=S.length-i/\i<=S.length/\J 5= .int .i64 (i:Nat)/\hp 2=some ⟨2,25,[PV.cn S G],false⟩) S.length ?_ ?_
 .refine⟨0,rfl,Oz,?_⟩;refine Sz0 ?_;rfl
 rintro _ J h ⟨i,rfl,hi,j5,hb2⟩;refine cH j5 hb2 (λhc=>?_) (λhc=>?_)
 .have au:i<S.length:=Oz;have xJ:=(hb _ (Kad au)).r;generalize hx:S[i]=s at *
  have xX:=G4 (n:=s.n) (a:=s.a) (d:=s.d) (by have:=xJ.sa;omega) (by have:=xJ.sd;omega);refine eL j5 hb2 hx hP xX ?_;cases hq:wE s.a s.d
  .refine Sz0 ?_;exact ez ⟨false,rfl,λh=>by cases h⟩ rfl
  refine Sz2 j5 hb2 ?_;refine Qe (S.length-(i+1)) Oz ⟨i+1,rfl,Oz,?_⟩;exact Tz1 hb2
 obtain rfl:i=S.length:=by omega
 refine Sz1 hb2 ?_;refine Qh okB [(4,4),(6,6),(37,49)] [] (λm J hp=>∃i,m=L.length-i/\i<=L.length/\(∀n (h:n<L.length),n<i->L[n].a.length<=2/\L[n].d.length<=2)/\J 6= .int .i64 (i:Nat)/\hp 2=some ⟨2,25,[PV.cn S G],false⟩) L.length ?_ ?_
 .refine⟨0,rfl,Oz,Oz,?_⟩;refine Sz1 hb2 ?_;rfl
 rintro _ J2 h2 ⟨i,rfl,hi,a9,j6,hb2⟩;refine cH j6 hb2 (λhc=>?_) (λhc=>?_)
 .have au:i<L.length:=Oz;have xJ:=(bZ _ (Kad au)).r;have bI:L[i].a.length<=2/\L[i].d.length<=2->∀n (h:n<L.length),n<i+1->L[n].a.length<=2/\L[n].d.length<=2:=λh n hn zK=>by
   by_cases e:n=i
   .subst e;exact h
   .exact a9 n hn Oz
  generalize hx:L[i]=s at *
  have xX:=G4 (n:=s.n) (a:=s.a) (d:=s.d) (by have:=xJ.sa;omega) (by have:=xJ.sd;omega);refine eL j6 hb2 hx hP xX ?_;cases hq:wE s.a s.d
  .refine Sz0 ?_;exact ez ⟨false,rfl,λh=>by cases h⟩ rfl
  refine Sz2 j6 hb2 ?_;refine Qe (L.length-(i+1)) Oz ⟨i+1,rfl,Oz,bI (adu hq),?_⟩;exact Tz1 hb2
 obtain rfl:i=L.length:=by omega
 have cX:∀g∈L,g.a.length<=2/\g.d.length<=2:=λg hm=>by obtain⟨n,hn,rfl⟩:=KaH hm;exact a9 n hn hn
 refine Sz1 hb2 ?_;refine kG hP hR rfl rfl rfl ?_;rintro _ ⟨e,rfl,he⟩;by_cases h0:e=0
 .have d:decide (e=0)=true:=decide_eq_true h0;refine Sz2 d hb2 ?_;refine kG hP hF rfl rfl rfl ?_;rintro _ ⟨b,rfl,hbf⟩;refine Sz0 ?_;exact ez ⟨b,rfl,λh=>⟨hbf h,Oz,cX⟩⟩ rfl
 .have d:decide (e=0)=false:=decide_eq_false h0;refine Sz1 d ?_;exact ez ⟨false,rfl,λh=>by cases h⟩ rfl
def aug:ax:=⟨16,[.cell 4 6 true],Zr (Zo (.box 2 6 54 (.t 0))<|Zo (.box 3 6 54 (.t 1))<|Zo (.alloc 4 6 282 (.agg [.bool false,.aa,.aa,.bool false,.aa,.aa])) .nil)<|Zr (cM 5 0 3 3<|cM 7 0 2 3<|cM 10 3 3 3<|cM 12 3 2 3<|Ys 9 65 6 8<|Ys 14 65 11 13<|mZ 15 9 14<|Zs 6 4 15 .nil) .ret⟩
def aol:Qc Tryz.prog f291=some aug:=by kernel_rfl
end Go.Proofs.YtikalonaompbdaaGreat
namespace Go.FW
open Go
def adV{a b:Rat}(h:b≠0):rs (a/b)<=rs a+rs b:=by rw[Rat.div_def];have:=mO a b⁻¹;have:=KV b h;omega
def H6(a b:Rat):rs (a-b)<=rs a+rs b+1:=by rw[Rat.sub_eq_add_neg];have:=o7 a (-b);rw[DC]at this;exact this
end Go.FW
