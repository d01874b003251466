/- Part 20 of the proof of InequalityPolys: B13, B14, B15, B9, B10, B11, B12, B16, B21, B22, B26, B27, FwXD. Own lemmas; no conditions. -/
import Derived.Test.YtikalonaompbdaaGreatInequalityPolysPart19
set_option maxHeartbeats 1000000
set_option linter.all false
set_option maxRecDepth 100000
namespace Go.Proofs.YtikalonaompbdaaGreat
open Go Go.FW
variable{k:Nat}{l:List Rat}
def RZ(hl:l.length<=1048576)(hk:k<=1048576)(hs:∀q∈l,rs q<=k):yZ (l.map qR):=⟨by rw[KaC];exact hl,xu.of λq hq=>KaK (hs q hq) hk⟩
def y6(l:List Rat):Nat->Rat:=λi=>l.getD i 0
def aij(l:List Rat):aR PV.rat (y6 l) l.length=l.map PV.rat:=by
 refine Ka9 (by simp[aR]) λj h1 h2=>?_
 rw[rm,Kbc];unfold y6;rw[Kac,Kae (by simpa using h2)];rfl
open Go.Proofs.Tryz
variable{K:Qf}{L:Nat->Nat}{M:MF}{R i m ty γ:Nat}{fr:Fr}{hp:HP}{xs0:List PV}
def Xp:ax:=⟨96,[.t 4,.t 5],Zr (uu 2 145 0<|gz 4 0)<| .seq (Zr (iB 13 3 2 277<|Zu 15 14<|YE 16 15 1<|Zg 16 false (.call (some 18) false (.c (.fn 344 [] [])) [.t 17])<|Zg 16 false (.un 19 .not (.t 18))<|xy 20 16 19)<| .cond (.t 20) (Zr (gz 4 1) .ret) .skip)<| .seq (Zr (Yv 21 1<|Ya 23 0 2<|Zb 25 .neq 22 24 .nil)<| .cond (.t 25) (Zr (gz 4 16) .ret) .skip)<|Zr (iB 26 3 2 280<|Yc 6 27)<| .seq (Zr (dS 28 6)<| .block 0<| .loop<|Zr (Yu 31 30 29)<| .seq (.cond (.t 31) .skip (.exit 0))<| .seq (.block 1<|Zr (MZ 32 30 7)<| .rg (Yh 33 6 7<|YW 35 6 7<|Yh 39 1 7<|YG 41 3 39 40<|Zo (.bs 43 3 49 [.t 42])<|Zo (.app 44 3 56 49 (.t 38) (.t 43))<|Zi 45 1 33 34<|Zs 1 45 44 .nil))<| .rg (YC 46 30 30))<|Zr (Zm 47 6<|Ya 48 1 2<|Yp 50 348 47 49<|Zo (.alloc 8 5 313 (.agg [.aa,.aa,.bool false,.aa,.aa]))<|Zs 5 8 50 .nil)<| .seq (Zr (YT 51 1 8<|Yc 9 53)<| .block 2<| .loop<| .seq (Zr (Zm 54 9<|Ya 55 0 2<|Yu 57 54 56)<| .cond (.t 57) .skip (.exit 2))<| .seq (.block 3<|Zr (eF 60 0 8 9<|Yw 63 61 62<|Ya 65 1 2<|YG 67 3 64 66<|Yn 69 19 68<|Zk 70 .neq 69 0 .nil)<| .cond (.t 70) (Zr (gz 4 13) .ret) .skip)<| .rg (fO 58 9))<|Zr (Ya 71 1 2<|Yn 73 347 72<| .wk<|Yc 10 73)<| .seq (Zr (YT 74 1 8<|Yf 77 0)<| .block 4<| .loop<|Zr (Yu 78 77 76)<| .seq (.cond (.t 78) .skip (.exit 4))<| .seq (.block 5<|Zr (Zm 79 77<|Yw 80 75 77<|ic 11 79 81)<| .rg (Yh 82 10 12<|eF 84 0 8 11<|Yw 87 85 86<|Ya 89 1 2<|YG 91 3 88 90<|Zi 93 3 82 83<|Zs 3 93 92 .nil))<| .rg (YC 94 77 77))<|Zr (Zm 95 10<|Zm 4 95<|Yf 5 0) .ret⟩
def apj:Qc Tryz.prog f286=some Xp.strip:=by kernel_rfl
def vM(M:MF)(x:Nat->Rat)(m:Nat):MF:=λr c=>if c=m then x r else M r c
def ua(E:MF)(bG:List Nat)(m:Nat):Nat->(Nat->Rat)
 |0=>λ_=>0
 |j+1=>λc=>if c=bG.getD j 0 then E j m else ua E bG m j c
def JM(E:yp)(R m:Nat):PV:=if(∀r,r<R->E.bG.length<=r->E.M r m=0)then .aI [.sl 3 (aR PV.rat (ua E.M E.bG m E.bG.length) m),.int .i64 0]else .aI [PV.cg [],.int .i64 13]
def apk{x:Nat->Rat}{r:Nat}:aR PV.rat (M r) m++[PV.rat (x r)]=aR PV.rat (vM M x m r) (m+1):=by
 refine Ka9 (by simp[aR]) λj h1 h2=>?_
 have hj:j<m+1:=by simpa[aR]using h2
 rw[rm];unfold vM;by_cases e:j=m
 .subst e;rw[if_pos rfl,Kcp (by simp[aR])];simp
 .rw[if_neg e,KbJ (by simp[aR];omega),rm]
def apl{B n:Nat}{e0 ty0:Nat}(h:i<n):
  uY (.aH γ 1 ty ((bn (rws B n L)).set i .undef)) (some ⟨e0,ty0,xs0,false⟩) (some [.ms (B+i) m]) γ 1 i 0 fr hp K=K (ae (gC γ fr) γ (.aH γ 1 ty (bn (rws B n λj=>if j=i then m else L j)))) hp:=by
 have hl:i<((bn (rws B n L)).set i .undef).length:=by simpa[bn,rws]using h
 simp only[uY,hl,exists_true_left,true_and,Kag,Ka2,KaG,exists_eq_left',KaX,Kbm];rw[<-alQ (L:=L) (L':=λj=>if j=i then m else L j) λj _=>rfl];simp[eW,rF,bn,PV.aV,PV.cells,List.map_set]
def apm{K:Nat}{b:List Rat}(hl:l.length=R*m)(bZ:b.length=R)(hR:0<R)(iF:R<=40)(hm:m<=39)(hs:∀q∈l,rs q<=1048576)(BX:∀q∈b,rs q<=1048576)(hK:K<=2^20)(hB:JV K R (m+1) m (vM (dG l m) (y6 b) m)):
  AC 286 [PV.dU R m l,PV.cg b] (· =JM (eK R (vM (dG l m) (y6 b) m) m) R m):=by
 have Nt:=My R (vM (dG l m) (y6 b) m) m;have Ns:=(hB m (Kag _)).1;have c1:=L3 hl iF (show m<=40 by omega) hs;have qJ:∀(hp:HP),(∀x,5<=x->hp x=none)->∀x,kX R x=true->hp x=none:=λhp h x hx=>h x (by have:=xd hx;omega)
 obtain⟨X,hX⟩:∃X,y6 b=X:=⟨_,rfl⟩
 have Ox:PV.cg b= .sl 3 (aR PV.rat X R):=by rw[PV.cg,<-hX,<-bZ,aij]
 have fQ:AC 344 [.sl 3 (aR PV.rat X R)] (· = .bool true):=by
  have:=PF (l:=b.map qR) (RZ Oz (k:=1048576) Oz BX);rw[<-TG,Ox]at this;have e:(b.map qR).all vL=true:=by rw[Kas];intro y hy;obtain⟨q,_,rfl⟩:=KaD.1 hy;exact Ho q
  rw[e]at this;exact this
 rw[hX]at Nt Ns hB⊢;rw[Ox];have l9:(aR PV.rat X R).length=R:=lQ _ _ _;refine tM Qd func286 rfl apj Nz λC hP=>?_;simp only[Xp];refine cC ?_;refine ay hP c1 ?_;refine ay hP fQ ?_;refine Sz1 l9 ?_;refine PH hP hl hR iF Oz Oz (qJ _ (λx hx=>by simp+decide (disch:=try exact D1 (show ¬x=2 from by omega)) only[go_sem,show ¬x=2 from by omega]<;>rfl)) ?_;refine Sz3 @vu @vz @yI ?_;refine je okB [(6,7),(30,46),(2000000,2000000)] [43,44] (λq J hp=>∃i,q=R-i/\i<=R/\J 6= .aK 2000000 0 R/\J 30= .int .i64 (i:Nat)/\J 2000000= .aH 2000000 1 35 (bn (rws 3000000 R λr=>if r<i then m+1 else m))/\hp 2=some ⟨3,145,[PV.dU R m l],false⟩/\hp 2000000=some ⟨1,35,[],false⟩/\
   (∀r,r<i->hp (3000000+r)=some ⟨3,49,aR PV.rat (vM (dG l m) X m r) (m+1),false⟩)/\∀r,i<=r->r<R->hp (3000000+r)=some ⟨3,49,aR PV.rat (dG l m r) m,false⟩) R ?_ ?_
 .refine⟨0,rfl,Oz,?_⟩;refine Sz4 @vu @vz @yI @Kx ?_;refine⟨rfl,?_,(λr hr=>by omega),λr _ hr=>by simp+decide (disch:=first|omega|rfl|(simp+decide only[go_sem,CU]<;>rfl)|fail) only[go_sem,CU]⟩;rw[<-K7];have:(λr=>if r<0 then m+1 else m)=λ_=>m:=by funext r;rw[if_neg Oz]
  rw[this]
 rintro _ J h ⟨i,rfl,hi,h6,kQ,hg,h2,hh,pM,jX⟩;refine cH h6 kQ (λhc=>?_) (λhc=>?_)
 .have au:i<R:=Oz;have tq:=λ(K:Qf) (fr:Fr) (hp:HP) d (h:fr 2000000= .aH 2000000 1 35 (bn (rws 3000000 R λr=>if r<i then m+1 else m)))=>aqB (K:=K) (d:=d) (hp:=hp) h au
  have er:=jX i (Kag _) au;have hii:(if i<i then m+1 else m)=m:=if_neg Oz;refine Sz6 h6 kQ hg hh tq hii ?_;rw[SF (xs:=aR PV.rat (dG l m i) m) (y:=PV.rat (X i)) (ty':=49) (fz:=false) (Tz1 er) Tz0 Oz (lQ _ _ _).symm Oz Oz Oz];have bl:=aht (γ:=2000000) (e:=1) (ty:=35) (L:=λr=>if r<i then m+1 else m) (B:=3000000) au Oz;rw[apk];refine Sz5 h6 kQ hg hh bl ?_;have hL:(λj=>if j=i then m+1 else if j<i then m+1 else m)=λr=>if r<i+1 then m+1 else m:=by
   funext r;by_cases e:r=i
   .rw[if_pos e,if_pos Oz]
   .rw[if_neg e];by_cases e2:r<i
    .rw[if_pos e2,if_pos Oz]
    .rw[if_neg e2,if_neg Oz]
  rw[apl au,hL];refine Sz2 h6 kQ ?_;refine gO (R-(i+1)) Oz ⟨i+1,rfl,Oz,?_⟩;refine Sz3 h6 h2 hh ?_;refine⟨λr hr=>?_,λr hr oJ=>?_⟩
  .by_cases e:r=i
   .subst e;rw[if_pos rfl]
   .rw[if_neg e];exact pM r Oz
  .rw[if_neg Oz];exact jX r Oz oJ
 obtain rfl:R=i:=by omega
 have hW:bn (rws 3000000 R λr=>if r<R then m+1 else m)=bn (cw 3000000 R (m+1) id):=by
  rw[<-K7];refine congrArg bn (Ka9 (by simp[rws]) λj h1 h2=>?_);have hj:j<R:=by simpa[rws]using h1
  rw[vo,vo,if_pos hj]
 rw[hW]at hg;refine Sz3 h6 h2 kQ ?_;refine Q9d (K:=K) (M:=vM (dG l m) X m) (ty:=35) (tyr:=49) hP hR iF (show m+1<=40 by omega) (show m<=m+1 by omega) hK hB (Tz1 hg) (Tz1 hh) pM ?_;obtain⟨E,hE⟩:∃E,eK R (vM (dG l m) X m) m=E:=⟨_,rfl⟩
 rw[hE]at Nt Ns⊢;have hEl:FT E.M R (m+1)=aR (PV.qZ (m+1)) E.M R:=rfl;rw[akP,akQ ad1];refine Sz4 @hEl h2 @vu @vz ?_;have hE8:∀r,r=R->PV.BI r (m+1) E= .agg [.sl 1 (aR (PV.qZ (m+1)) E.M R),.sl 1 (xr E.bG),.bool (decide (E.gd.num<0)),PV.num E.gd.num.natAbs,PV.num E.gd.den]:=λr h=>by subst h;rfl
 refine je okB [(4,5),(9,9),(54,70)] [] (λq J hp=>∃r,q=R-r/\E.bG.length<=r/\r<=R/\(∀j,E.bG.length<=j->j<r->E.M j m=0)/\J 9= .int .i64 (r:Nat)/\hp 2=some ⟨3,145,[PV.dU R m l],false⟩/\hp 8=some ⟨5,313,[.agg [.sl 1 (aR (PV.qZ (m+1)) E.M R),.sl 1 (xr E.bG),.bool (decide (E.gd.num<0)),PV.num E.gd.num.natAbs,PV.num E.gd.den]],false⟩/\hp 2000000=none) (R-E.bG.length) ?_ ?_
 .refine⟨E.bG.length,rfl,Kag _,Oz,λj h1 h2=>by omega,?_⟩;exact Tz4 h2 @hE8 @vu @vz
 rintro _ J2 cy ⟨r,rfl,hr,I',hz,i9,i2,i8,iN⟩;refine cH i9 i2 (λik=>?_) (λik=>?_)
 .have dO:r<R:=Oz;refine Sz3 i9 i2 i8 ?_;have hb1:=Ns r dO m Oz;refine Qy hP (o8 (a:=E.M r m) Oz) ?_;refine aZ i9 (λhq=>?_) (λhq=>?_)
  .have kT:¬E.M r m=0:=λe=>hq (fy.2 e)
   have gH:JM E R m= .aI [PV.cg [],.int .i64 13]:=if_neg λh=>kT (h r dO hr)
   refine Sz0 ?_;refine ss (nH ?_);refine Sz1 gH ?_;exact ek rfl rfl rfl (show PV.le .aa (.sl 3 [])from trivial) (Qi _)
  .have kT:E.M r m=0:=Decidable.byContradiction λe=>hq λh=>e (fy.1 h)
   refine Sz1 i9 ?_;refine gO (R-(r+1)) Oz ⟨r+1,rfl,Oz,Oz,λj h1 h2=>?_,?_⟩
   .by_cases e:j=r
    .rw[e];exact kT
    .exact hz j h1 Oz
   exact Tz3 i2 i8 @iN
 .obtain rfl:R=r:=by omega
  refine Sz1 i2 ?_;refine anS hP (Q9e (n:=m) Oz) iN (by intro x hx γ e ty xs;rw[Kax.1 hx];intro h;cases h) rfl (by simp) ?_;refine Sz0 ?_;refine bV (Wk.refl _ _) ?_;refine Sz1 i8 ?_;refine je okB [(10,12),(77,94)] [] (λq J hp=>∃j,q=E.bG.length-j/\j<=E.bG.length/\J 10= .aD 2000000 0 m/\J 77= .int .i64 (j:Nat)/\hp 2=some ⟨3,145,[PV.dU R m l],false⟩/\hp 8=some ⟨5,313,[.agg [.sl 1 (aR (PV.qZ (m+1)) E.M R),.sl 1 (xr E.bG),.bool (decide (E.gd.num<0)),PV.num E.gd.num.natAbs,PV.num E.gd.den]],false⟩/\hp 2000000=some ⟨3,49,aR PV.rat (ua E.M E.bG m j) m,false⟩) E.bG.length ?_ ?_
  .refine⟨0,rfl,Oz,?_⟩;have e0:(λ_=>(0:Rat))=ua E.M E.bG m 0:=rfl;refine Sz3 i2 i8 e0 ?_;rfl
  rintro _ J3 pK ⟨j,rfl,hj,se,Jt,k2,k8,kx⟩;refine aZ Jt (λhc3=>?_) (λhc3=>?_)
  .have dz:j<E.bG.length:=Oz;have hRj:j<R:=Oz;have zM:E.bG[j]<m:=Nt.2.2 _ (Kad dz);simp+decide (disch:=try exact D5 se Jt k2 k8 kx) only[go_sem,se,Jt,k2,k8,kx];rw[HF (v:=E.M j m) zM];have e1:(λc=>if c=E.bG[j]then E.M j m else ua E.M E.bG m j c)=ua E.M E.bG m (j+1):=by
    funext c;show _=if c=E.bG.getD j 0 then _ else _
    rw[Kac,Kae dz,Kbl]
   refine Sz1 Jt ?_;refine gO (E.bG.length-(j+1)) Oz ⟨j+1,rfl,Oz,?_⟩;exact Tz4 se k2 k8 e1
  .obtain rfl:j=E.bG.length:=by omega
   refine Sz1 se ?_;refine ss (nH ?_);refine Sz1 kx ?_;have mE:Qr pK (.aD 2000000 0 m)= .sl 3 (aR PV.rat (ua E.M E.bG m E.bG.length) m):=by simp only[Qr,cA,kx];rw[if_neg (by decide),Ka6,Kaf (by rw[lQ];omega)]
   have gH:JM E R m= .aI [.sl 3 (aR PV.rat (ua E.M E.bG m E.bG.length) m),.int .i64 0]:=if_pos λr h1 h2=>hz r h2 h1
   rw[mE,gH];exact ek rfl rfl rfl (Qi _) (Qi _)
end Go.Proofs.YtikalonaompbdaaGreat
namespace Go.FW
open Go
variable{D:Int}{M:MF}{R n w:Nat}
def CM(n:Nat)(D:Int)(R w:Nat)(M:MF):Prop:=D≠0/\nl D.natAbs<=n/\∀r,r<R->∀c,c<w->∃a:Int,M r c=(a:Rat)/(D:Rat)/\nl a.natAbs<=n
def CM.bd(h:CM n D R w M):sj (max n 1) R w M:=λr hr c hc=>by obtain⟨a,e,ha⟩:=h.2.2 r hr c hc;rw[e];have:=Ui a D h.1;have:=h.2.1;omega
def CM.mono{n':Nat}(h:CM n D R w M)(hn:n<=n'):CM n' D R w M:=
 ⟨h.1,KaK h.2.1 hn,λr hr c hc=>by obtain⟨a,e,ha⟩:=h.2.2 r hr c hc;exact⟨a,e,KaK ha hn⟩⟩
def CM.b3(h:CM (n-2) D R R M)(hn:5<=n):sj n R R M:=λr hr c hc=>by have:=h.bd r hr c hc;omega
end Go.FW
