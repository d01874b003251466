/- Part 16 of the proof of TriangularMakes: TR9, TR10, TR4, TRB, FwRI, FwRJ. Own lemmas; no conditions. -/
import Derived.Test.YtdjoomkeehihmaaGreatTriangularMakesPart15
set_option maxHeartbeats 1000000
set_option linter.unusedSimpArgs false
set_option linter.unusedVariables false
set_option linter.unnecessarySimpa false
set_option maxRecDepth 100000
namespace Go.Proofs.YtdjoomkeehihmaaGreat
open Go Go.FW
def mP(g:List Tm)(v d:Nat):Nat->List Tm->List Tm->Nat->Option (List Tm×List Tm×Nat)
 |0,q,r,k=>some (q,r,k)
 |f+1,q,r,k=>
  if r=[]∨Q3 r v<d then some (q,r,k)
  else if bf (iw q r g v (Q3 r v).toNat d)=true∨bf (eD r g v (Q3 r v).toNat d)=true then none
  else mP g v d f (iw q r g v (Q3 r v).toNat d) (eD r g v (Q3 r v).toNat d) (k+1)
abbrev PV.dv:Option (List Tm×List Tm×Nat)->PV
 |some (q,r,n)=>.au [PV.aj q,PV.aj r,.int .i64 n,.int .i64 0]
 |none=>.au [PV.aj [],PV.aj [],.int .i64 0,.int .i64 4]
theorem H9:PV.dv none= .au [PV.aj [],PV.aj [],.int .i64 0,.int .i64 4]:=rfl
theorem Ia{q r:List Tm}{n:Nat}:PV.dv (some (q,r,n))= .au [PV.aj q,PV.aj r,.int .i64 n,.int .i64 0]:=rfl
theorem zT(g:List Tm)(v d:Nat):∀(f:Nat)(q r:List Tm)(k:Nat),js g v d f q r k=PV.dv (mP g v d f q r k)
 |0,q,r,k=>rfl
 | f+1,q,r,k=>by
  rw[js,mP];split
  ·rfl
  ·split
   ·rfl
   ·exact zT g v d f _ _ _
abbrev qB:=List Int×List (List Tm)×List Tm
abbrev PV.BB(s:qB):PV:=.agg [.sl 1 (iI s.1),.sl 1 (s.2.1.map PV.aj),PV.aj s.2.2]
theorem OH:PV.le (.agg [.aa,.aa,.aa]) (PV.BB ([],[],[])):=⟨trivial,trivial,trivial,trivial⟩
def kf(i k:Nat)(c:List Tm)(qs:List (List Tm)):List (List Tm):=(List.range qs.length).map fun j=>if i<j/\j<k then Q8 (qs.getD j []) c else qs.getD j []
theorem zg(i k:Nat)(c:List Tm)(qs:List (List Tm)):(kf i k c qs).length=qs.length:=by simp[kf]
theorem zj{i k:Nat}{c:List Tm}{qs:List (List Tm)}{j:Nat}(h:j<(kf i k c qs).length):(kf i k c qs)[j]=if i<j/\j<k then Q8 (qs.getD j []) c else qs.getD j []:=by simp[kf]
theorem Yb(i:Nat)(c:List Tm)(qs:List (List Tm)):kf i (i+1) c qs=qs:=by refine KcT (zg _ _ _ _) fun j h1 h2=>?_;rw[zj h1,if_neg (by omega)];simp[h2]
theorem ZR{i k:Nat}{c:List Tm}{qs:List (List Tm)}(h:i<k):kf i (k+1) c qs=(kf i k c qs).set k (Q8 (qs.getD k []) c):=by
 refine KcT (by simp[zg]) fun j h1 h2=>?_;rw[zj h1,Kde];split
 ·split
  ·subst_vars;rfl
  ·rw[zj,if_pos (by omega)]
 ·split
  ·omega
  ·rw[zj,if_neg (by omega)]
def Ib(g:List Tm)(i:Nat)(D:Option (List Tm×List Tm×Nat))(s:qB):Option qB:=
 match D with
 |none=>none
 |some (q,r,n)=>if(∃k,k<s.2.1.length/\i<k/\bf (Q8 (s.2.1.getD k []) (cF (cy g) n))=true)then none else some (s.1.set i n,(kf i s.2.1.length (cF (cy g) n) s.2.1).set i q,r)
def tl(gs:List (List Tm))(D:List Tm->List Tm->Option (List Tm×List Tm×Nat)):Nat->qB->Option qB
 |0,s=>some s
 |i+1,s=>(Ib (gs.getD i []) i (D s.2.2 (gs.getD i [])) s).bind (tl gs D i)
def PV.aoU:Option qB->PV
 |some s=>.au [PV.BB s,.int .i64 0]
 |none=>.au [PV.BB ([],[],[]),.int .i64 4]
structure PT(mul lg pw Bq dv mn:Nat)(g:List Tm)(i:Nat)(D:Option (List Tm×List Tm×Nat))(s:qB):Prop where
 mn:Qc Tryz.prog mn [PV.aj g] (· = .int .i64 (Qv g))
 dv:Qc Tryz.prog dv [PV.aj s.2.2,PV.aj g,.int .i64 (Qv g)] (· =PV.dv D)
 Bq:Qc Tryz.prog Bq [PV.aj g] (· =PV.aj (cy g))
 pw:∀q r n,D=some (q,r,n)->Qc Tryz.prog pw [PV.aj (cy g),.int .i64 n] (· =PV.aj (cF (cy g) n))
 mul:∀q r n,D=some (q,r,n)->∀k,k<s.2.1.length->i<k->Qc Tryz.prog mul [PV.aj (s.2.1.getD k []),PV.aj (cF (cy g) n)] (· =PV.aj (Q8 (s.2.1.getD k []) (cF (cy g) n)))
 lg:∀q r n,D=some (q,r,n)->∀k,k<s.2.1.length->i<k->Qc Tryz.prog lg [PV.aj (Q8 (s.2.1.getD k []) (cF (cy g) n))] (· = .bool (bf (Q8 (s.2.1.getD k []) (cF (cy g) n))))
theorem MJ{fr:Fr}{hp:HP}(β δ:Nat){hb:HB}(_:hp β=some hb)(lh:hp δ=none)(h2:2000000<=δ)(hY:bG β=false)(aP:β≠δ):Wk fr hp (oN β δ fr) (Bv β δ hp):=FJ β δ lh h2 hY aP
abbrev BW(n:Nat)(r:List Tm):PV:=.aT [.ax 2000002 0 n,.ax 2000003 0 n,PV.aj r]
def JS:az:=⟨104,[.cell 4 3 true,.t 5],Zr (Zo (.alloc 4 3 58 (.agg [.aa,.aa,.aa]))<|Zc 5 0 .nil)<| .seq (Zr (Zm 14 0<|Zq 15 false 40 [.t 14]<|Zu 16 15 .nil)<| .cond (.t 16) (Zr (Zo (.bT 17 [.aa,.aa,.aa] [])<|Zs 3 4 17<|Zc 5 1 .nil) .ret) .skip)<| .seq (Zr (Zm 18 1<|Zq 19 false 14 [.t 18]<|Zu 20 19 .nil)<| .cond (.t 20) (Zr (Zo (.bT 21 [.aa,.aa,.aa] [])<|Zs 3 4 21<|Zc 5 15 .nil) .ret) .skip)<|Zr (Zm 22 1<|Zn 23 22<|Zm 25 1<|Zn 26 25<|Zm 28 0<| .br (Zo (.mk 24 1 8 3 (Zz 0) (.t 23) (.t 23))<| .wk<| .br (Zo (.mk 27 1 24 32 .aa (.t 26) (.t 26))<| .wk<| .wk<|Zo (.bT 29 [.aa,.aa,.aa] [(0,1,.t 24),(1,1,.t 27),(2,1,.t 28)])<|Zo (.alloc 6 3 58 (.agg [.aa,.aa,.aa]))<| .wk<| .wk<|Zs 3 6 29 .nil) (Zo (.alloc 6 3 58 (.agg [.aa,.aa,.aa]))<| .wk<| .wk<|Zo (.mk 27 1 24 32 .aa (.t 26) (.t 26))<| .wk<| .wk<|Zo (.bT 29 [.aa,.aa,.aa] [(0,1,.t 24),(1,1,.t 27),(2,1,.t 28)])<|Zs 3 6 29 .nil)) (.br (Zo (.mk 27 1 24 32 .aa (.t 26) (.t 26))<| .wk<| .wk<| .br (Zo (.mk 24 1 8 3 (Zz 0) (.t 23) (.t 23))<| .wk<|Zo (.bT 29 [.aa,.aa,.aa] [(0,1,.t 24),(1,1,.t 27),(2,1,.t 28)])<|Zo (.alloc 6 3 58 (.agg [.aa,.aa,.aa]))<| .wk<| .wk<|Zs 3 6 29 .nil) (Zo (.alloc 6 3 58 (.agg [.aa,.aa,.aa]))<| .wk<| .wk<|Zo (.mk 24 1 8 3 (Zz 0) (.t 23) (.t 23))<| .wk<|Zo (.bT 29 [.aa,.aa,.aa] [(0,1,.t 24),(1,1,.t 27),(2,1,.t 28)])<|Zs 3 6 29 .nil)) (Zo (.alloc 6 3 58 (.agg [.aa,.aa,.aa]))<| .wk<| .wk<| .br (Zo (.mk 24 1 8 3 (Zz 0) (.t 23) (.t 23))<| .wk<|Zo (.mk 27 1 24 32 .aa (.t 26) (.t 26))<| .wk<| .wk<|Zo (.bT 29 [.aa,.aa,.aa] [(0,1,.t 24),(1,1,.t 27),(2,1,.t 28)])<|Zs 3 6 29 .nil) (Zo (.mk 27 1 24 32 .aa (.t 26) (.t 26))<| .wk<| .wk<|Zo (.mk 24 1 8 3 (Zz 0) (.t 23) (.t 23))<| .wk<|Zo (.bT 29 [.aa,.aa,.aa] [(0,1,.t 24),(1,1,.t 27),(2,1,.t 28)])<|Zs 3 6 29 .nil))))<| .seq (Zr (Zm 30 1<|Zn 31 30<|Zk 32 .sub 31 1<|Zm 7 32 .nil)<| .block 0<| .loop<| .seq (Zr (Zm 33 7<|Zk 34 .geq 33 0 .nil)<| .cond (.t 34) .skip (.exit 0))<| .seq (.block 1<|Zr (Zf 38 2 6<|Zl 39 1 38<|Zm 40 1<|Zm 41 7<|Zi 42 1 40 41<|Zl 43 1 42<|Zm 44 1<|Zm 45 7<|Zi 46 1 44 45<|Zl 47 1 46<|Zq 48 true 41 [.t 47]<|Zq 49 true 57 [.t 39,.t 43,.t 48]<|Zm 37 49<|Zo (.ext 50 (.t 37) 0)<|Zo (.ext 51 (.t 37) 1)<|Zo (.ext 52 (.t 37) 2)<|Zo (.ext 53 (.t 37) 3)<|Zm 8 50<|Zm 9 51<|Zm 10 52<|Zm 11 53 .nil)<| .seq (Zr (Zm 54 11<|Zk 55 .neq 54 0 .nil)<| .cond (.t 55) (Zr (Zo (.bT 56 [.aa,.aa,.aa] [])<|Zm 57 11<|Zs 3 4 56<|Zm 5 57 .nil) .ret) .skip)<|Zr (Zm 58 1<|Zm 59 7<|Zi 60 1 58 59<|Zl 61 1 60<|Zq 62 false 59 [.t 61]<|Zm 63 10<|Zq 64 false 58 [.t 62,.t 63]<|Zm 12 64 .nil)<| .seq (Zr (Zm 65 7<|Zk 66 .add 65 1<|Zm 13 66 .nil)<| .block 2<| .loop<| .seq (Zr (Zm 67 13<|Zm 68 1<|Zn 69 68<|Zb 70 .lss 67 69 .nil)<| .cond (.t 70) .skip (.exit 2))<| .seq (.block 3<|Zr (Zf 73 1 6<|Zl 74 1 73<|Zm 75 13<|Zf 76 1 6<|Zl 77 1 76<|Zm 78 13<|Zi 79 1 77 78<|Zl 80 1 79<|Zm 81 12<|Zq 82 true 60 [.t 80,.t 81]<|Zi 83 1 74 75<|Zs 1 83 82 .nil)<|Zr (Zf 84 1 6<|Zl 85 1 84<|Zm 86 13<|Zi 87 1 85 86<|Zl 88 1 87<|Zq 89 false 61 [.t 88] .nil)<| .cond (.t 89) (Zr (Zo (.bT 90 [.aa,.aa,.aa] [])<|Zs 3 4 90<|Zc 5 4 .nil) .ret) .skip)<| .rg (Zm 71 13<|Zk 72 .add 71 1<|Zm 13 72 .nil))<| .rg (Zf 91 1 6<|Zl 92 1 91<|Zm 93 7<|Zf 94 0 6<|Zm 96 7<|Zm 97 8<|Zm 98 10<|Zm 99 9<|Zi 100 1 92 93<| .br (Zl 95 1 94<|Zs 1 100 97<|Zi 101 1 95 96<|Zs 1 101 98<|Zf 102 2 6<|Zs 1 102 99 .nil) (Zs 1 100 97<|Zl 95 1 94<|Zi 101 1 95 96<|Zs 1 101 98<|Zf 102 2 6<|Zs 1 102 99 .nil)))<| .rg (Zm 35 7<|Zk 36 .sub 35 1<|Zm 7 36 .nil))<|Zr (Zh 103 3 6<| .wk<|Zs 3 4 103<|Zc 5 0 .nil) .ret⟩
theorem aiY:Qe Tryz.prog Tryz.f23=some JS.strip:=by kernel_rfl
theorem adH{p:List Tm}{gs:List (List Tm)}{D:List Tm->List Tm->Option (List Tm×List Tm×Nat)}{G:Nat->qB->Prop}(hl:gs.length<=100)
  (hr:Qc Tryz.prog 40 [PV.aj p] (· = .bool true)) (hrc:Qc Tryz.prog 14 [PV.bZ gs] (· = .bool true))
  (h0:G gs.length (List.replicate gs.length 0,List.replicate gs.length [],p))
  (hG:∀i (h:i<gs.length) s,G (i+1) s->PT 60 61 58 59 57 41 gs[i] i (D s.2.2 gs[i]) s/\∀s',Ib gs[i] i (D s.2.2 gs[i]) s=some s'->G i s'):
  Qc Tryz.prog 23 [PV.aj p,PV.bZ gs] (· =PV.aoU (tl gs D gs.length (List.replicate gs.length 0,List.replicate gs.length [],p))):=by
 refine wL Qj Tryz.func23 rfl aiY (by simp[JS]) fun C hP=>?_;simp only[JS,Zo,Zg,Zm,Zc,Zf,Zl,Zh,Zs,Zi,Zb,Zk,Zn,Zu,Zq,Zr,Zz];refine Sz0 ?_;refine Qa hP hr rfl rfl rfl ?_;refine Sz0 ?_;refine Qa hP hrc rfl rfl rfl ?_;refine Sz0 ?_;have Vh:eM (l6 27 2000003) (.aN 2000001 3 58 [.agg [.aa,.aa,.aa]])=(.aN 2000001 3 58 [.agg [.aa,.aa,.aa]]):=rfl;have Vi:eM (l6 24 2000002) (.aN 2000001 3 58 [.agg [.aa,.aa,.aa]])=(.aN 2000001 3 58 [.agg [.aa,.aa,.aa]]):=rfl;have Va:bX 27 (.aN 2000001 3 58 [.agg [.aa,.aa,.aa]])=(.aN 2000001 3 58 [.agg [.aa,.aa,.aa]]):=rfl;have Vb:bX 24 (.aN 2000001 3 58 [.agg [.aa,.aa,.aa]])=(.aN 2000001 3 58 [.agg [.aa,.aa,.aa]]):=rfl;refine Oa (by repeat (first|exact Qs|exact Ql|exact Qm|exact Qn|exact Qo|apply Qk|apply Qr|apply Qx|apply Q4|apply Q5|apply Qi|apply Q2)) [(6,6),(24,29),(2000001,2000001)] [6,24,27] (fun J hp=>J 6= .np 2000001 0 0/\J 2000001= .aN 2000001 3 58 [BW gs.length p]/\hp 4=some ⟨3,58,[.agg [.aa,.aa,.aa]],false⟩/\hp 2000001=some ⟨3,58,[],false⟩/\
  hp 2000002=some ⟨1,3,iI (List.replicate gs.length 0),false⟩/\hp 2000003=some ⟨1,32,(List.replicate gs.length ([]:List Tm)).map PV.aj,false⟩) ?_ ?_
 ·repeat' first
   |refine ns ?_ ?_
   |refine mE (MJ 24 2000002 rfl rfl (by omega) rfl (by omega)) ?_
   |refine mE (MJ 27 2000003 rfl rfl (by omega) rfl (by omega)) ?_
   |refine mE (H7 gs.length 2000003 32 _ _ rfl) ?_
   |refine mE (MJ 6 2000001 rfl rfl (by omega) rfl (by omega)) ?_
   |refine mE (Fz (γ:=2000001) (e:=3) (ty:=58) (xs:=[.agg [.aa,.aa,.aa]]) (fz:=false) rfl (by simp) (by omega) (fun x hx=>by rw[KaP.1 hx];rfl)) ?_
   |rw[agJ rfl (by omega)]
   |simp+decide (disch:=try exact D4 Vh Vi Va Vb) only[go_sem,Vh,Vi,Va,Vb]
  all_goals
   refine zL ?_;refine Sz0 ?_;trivial
 rintro J0 DX ⟨j6,jn,b4,b1,b2,b3⟩;refine Sz1 j6 ?_;obtain⟨Z,hZ⟩:∃Z,tl gs D gs.length (List.replicate gs.length 0,List.replicate gs.length [],p)=Z:=⟨_,rfl⟩
 rw[hZ];refine zB (by repeat (first|exact Qs|exact Ql|exact Qm|exact Qn|exact Qo|apply Qk|apply Qr|apply Qx|apply Q4|apply Q5|apply Qi|apply Q2)) [(5,13),(33,102),(2000001,2000001)] [] (fun q J hp=>∃(i:Nat)(s:qB),q=i/\i<=gs.length/\G i s/\tl gs D i s=Z/\s.1.length=gs.length/\s.2.1.length=gs.length/\J 6= .np 2000001 0 0/\J 7= .int .i64 ((i:Int)-1)/\J 2000001= .aN 2000001 3 58 [BW gs.length s.2.2]/\hp 4=some ⟨3,58,[.agg [.aa,.aa,.aa]],false⟩/\hp 2000001=some ⟨3,58,[],false⟩/\
  hp 2000002=some ⟨1,3,iI s.1,false⟩/\hp 2000003=some ⟨1,32,s.2.1.map PV.aj,false⟩) gs.length ?_ ?_
 ·refine⟨gs.length,_,rfl,Kac _,h0,hZ,by simp,by simp,?_⟩;refine Sz6 j6 jn b4 b1 b2 b3 ?_;trivial
 rintro q J h ⟨i,⟨pw,qs,rest⟩,hq,hi,hGi,lS,lU,gh,i6,i7,pS,c4,c1,c2,c3⟩;obtain rfl:i=q:=hq.symm;clear hq;simp only at lU gh pS c2 c3;cases i with
 | zero=>
  refine Sz6 i6 i7 pS c1 c2 c3 ?_;refine H2 103 2 [2000002,2000003] (p:=BW gs.length rest) Tz0 (D:=PV.BB (pw,qs,rest)) ?_ ?_ rfl ?_
  ·intro c hc;simp only[KaO,Kdf,or_false]at hc;rcases hc with rfl|rfl|rfl
   ·simp only[sB,bG];simp
   ·simp only[sB,bG];simp
   ·trivial
  ·show PV.agg [jO _ h 2 (.ax 2000002 0 _),jO _ h 2 (.ax 2000003 0 _),_]=_;simp only[jO,c2,c3,Kbo];rw[Kae (by simp;omega),Kae (by simp;omega)]
  refine tA c4 ?_;refine aeD (Wk.refl _ _) ?_;refine jr ?_;refine Sz0 ?_;exact fb (by rw[<-lS];rfl) rfl rfl (Qw _) (Qw _)
 | succ i=>
  obtain⟨hS,hN⟩:=hG i (by omega) _ hGi;have hig:i<gs.length:=by omega
  have e7:((i+1:Nat):Int)-1=(i:Int):=by omega
  rw[e7]at i7;have en:gs.getD i []=gs[i]:=by simp[hig]
  rw[tl,en]at lS;simp only at hS hN lS;generalize hg:gs[i]=g at *
  generalize hD:D rest g=d at *
  have k1:=hS.mn;have k2:=hS.dv;have d0:decide ((0:Int)<=(i:Int))=true:=decide_eq_true (by omega);refine Sz6 i6 i7 pS c1 hg d0 ?_;refine Qa hP k1 rfl rfl rfl ?_;refine Sz6 i6 i7 pS c1 hg d0 ?_;refine Qa hP k2 rfl rfl rfl ?_;cases d with
  |none=>rw[H9];refine Sz4 i6 i7 pS c4 ?_;rw[bI rfl];refine Sz4 i6 i7 pS c4 ?_;refine sS ?_;refine jr ?_;refine Sz0 ?_;exact fb (by rw[<-lS];rfl) rfl rfl OH (Qw _)
  | some d=>
   obtain⟨q,r,n⟩:=d;have k3:=hS.Bq;have k4:=hS.pw q r n rfl;rw[Ia];refine Sz5 i6 i7 pS c1 hg ?_;rw[bI rfl];refine Sz5 i6 i7 pS c1 hg ?_;refine Qa hP k3 rfl rfl rfl ?_;refine Sz5 i6 i7 pS c1 hg ?_;refine Qa hP k4 rfl rfl rfl ?_;refine Sz5 i6 i7 pS c1 hg ?_;have hN:=hN;have k5:=hS.mul q r n rfl;have k6:=hS.lg q r n rfl;simp only at k5 k6;generalize hc:cF (cy g) n=c at *
   have aF:Ib g i (some (q,r,n)) (pw,qs,rest)=if(∃k,k<qs.length/\i<k/\bf (Q8 (qs.getD k []) c)=true)then none else some (pw.set i n,(kf i qs.length c qs).set i q,r):=by rw[<-hc];rfl
   rw[aF]at hN lS;clear aF;refine zB (by repeat (first|exact Qs|exact Ql|exact Qm|exact Qn|exact Qo|apply Qk|apply Qr|apply Qx|apply Q4|apply Q5|apply Qi|apply Q2)) [(5,6),(13,13),(67,90),(2000001,2000001)] [] (fun q' J hp=>∃k,q'=gs.length-k/\i<k/\k<=gs.length/\(∀j,j<qs.length->i<j->j<k->bf (Q8 (qs.getD j []) c)=false)/\J 6= .np 2000001 0 0/\J 13= .int .i64 (k:Nat)/\J 2000001= .aN 2000001 3 58 [BW gs.length rest]/\hp 4=some ⟨3,58,[.agg [.aa,.aa,.aa]],false⟩/\hp 2000001=some ⟨3,58,[],false⟩/\
    hp 2000002=some ⟨1,3,iI pw,false⟩/\hp 2000003=some ⟨1,32,(kf i k c qs).map PV.aj,false⟩) (gs.length-(i+1)) ?_ ?_
   ·refine⟨i+1,rfl,by omega,by omega,fun j _ h1 h2=>by omega,?_⟩;refine Sz8 i6 i7 pS c4 c1 c2 c3 @Yb ?_;trivial
   rintro _ J1 h1 ⟨k,rfl,qM,vP,jy,m6,ug,mn,b4,b1,b2,b3⟩;by_cases hkg:k<gs.length
   ·have d1:decide ((k:Int)<(gs.length:Int))=true:=decide_eq_true (by omega);have EG:k<qs.length:=by omega
    have k5:=k5 k EG qM;have k6:=k6 k EG qM;have L7:k<(kf i k c qs).length:=by rw[zg];exact EG
    have Lt:(kf i k c qs)[k]=qs.getD k []:=by rw[zj,if_neg (by omega)]
    have Ej:=ZR (c:=c) (qs:=qs) qM;have AE:bf (Q8 (qs.getD k []) c)=false->∀j,j<qs.length->i<j->j<k+1->bf (Q8 (qs.getD j []) c)=false:=fun h j h1 h2 h3=>by
     by_cases e:j=k
     ·subst e;exact h
     ·exact jy j h1 h2 (by omega)
    have LL:bf (Q8 (qs.getD k []) c)=true->∃k,k<qs.length/\i<k/\bf (Q8 (qs.getD k []) c)=true:=fun h=>⟨k,EG,qM,h⟩
    generalize qs.getD k []=x at *
    generalize kf i k c qs=M at *
    have anr:k<(M.set k (Q8 x c)).length:=by rw[Kb8];exact L7
    have hMs:(M.set k (Q8 x c))[k]=Q8 x c:=by simp
    refine Sz6 m6 ug mn b1 b3 d1 ?_;rw[OF L7,Lt];refine Sz5 m6 ug mn b1 b3 ?_;refine Qa hP k5 rfl rfl rfl ?_;refine Sz5 m6 ug mn b1 b3 ?_;rw[OG L7];refine Sz4 m6 ug mn b1 ?_;rw[OF anr,hMs];refine Sz4 m6 ug mn b1 ?_;refine Qa hP k6 rfl rfl rfl ?_;cases nX:bf (Q8 x c)
    ·refine Sz1 ug ?_;refine wJ (gs.length-(k+1)) (by omega) ⟨k+1,rfl,by omega,by omega,AE nX,?_⟩;rw[Ej];refine Sz5 m6 mn b4 b1 b2 ?_;trivial
    ·rw[if_pos (LL nX)]at lS;refine Sz2 ug b4 ?_;refine sS ?_;refine jr ?_;refine Sz0 ?_;exact fb (by rw[<-lS];rfl) rfl rfl OH (Qw _)
   ·obtain rfl:k=gs.length:=by omega
    have d1:decide ((gs.length:Int)<(gs.length:Int))=false:=decide_eq_false (by omega);have hnb:¬∃k,k<qs.length/\i<k/\bf (Q8 (qs.getD k []) c)=true:=fun⟨j,h1,h2,h3⟩=>by rw[jy j h1 h2 (by omega)]at h3;cases h3
    rw[if_neg hnb]at hN lS;rw[gh]at hN lS;have hiM:i<(kf i gs.length c qs).length:=by rw[zg];omega
    have hip:i<pw.length:=by omega
    have hML:=zg i gs.length c qs;have hG':=hN _ rfl;have ane:tl gs D i (pw.set i n,(kf i gs.length c qs).set i q,r)=Z:=lS;clear hN lS;generalize kf i gs.length c qs=M at *
    refine Sz8 i7 m6 ug mn b1 b2 b3 d1 ?_;simp (disch:=decide) only[yX,Cl,nw,CF];refine ns ?_ ?_
    all_goals
     repeat' first
      |rw[OG hiM]
      |rw[Pj hip]
      |simp+decide (disch:=try exact D6 i7 m6 mn b1 b2 b3) only[go_sem,i7,m6,mn,b1,b2,b3]
     refine wJ i (by omega) ⟨i,_,rfl,by omega,hG',ane,by simp[lU],by simp[hML,gh],?_⟩;refine Sz3 m6 b4 b1 ?_;trivial
def qC:Int->List (List bc)->Bool
 |_,[]=>true
 |last,l::ls=>eh l&&decide (last<Qv (l.map bc.tm))&&qC (Qv (l.map bc.tm)) ls
def qm(ls:List (List bc))(i:Nat):Int:=if i=0 then -1 else Qv ((ls.getD (i-1) default).map bc.tm)
theorem adI{ls:List (List bc)}{i:Nat}(h:i<ls.length):qC (qm ls i) (ls.drop i)=(eh ls[i]&&decide (qm ls i<Qv (ls[i].map bc.tm))&&qC (qm ls (i+1)) (ls.drop (i+1))):=by
 rw[Kaz h,qC];have:qm ls (i+1)=Qv (ls[i].map bc.tm):=by simp[qm,h]
 rw[this]
def TQ(ls:List (List bc)):Prop:=ls.length<=100/\∀l∈ls,(∀t∈l,RB 1048576 t)/\l.length<=1048576/\(eh l=true->PB 1048577 1048576 (l.map bc.tm)/\aC (l.map bc.tm))
theorem agL{ls:List (List bc)}(hb:TQ ls):Qc Tryz.prog 14 [.sl 1 (ls.map PV.kG)] (· = .bool (qC (-1) ls)):=by
 obtain⟨hl,hb⟩:=hb;refine Qf Qj Tryz.func14 rfl aji (by simp[I6]) fun C hP=>?_;simp only[I6,Zo,Zg,Zm,Zc,Zf,Zl,Zh,Zs,Zi,Zb,Zk,Zn,Zu,Zq,Zr,Zz];refine Sz0 ?_;refine Qz (by repeat (first|exact Qs|exact Ql|exact Qm|exact Qn|exact Qo|apply Qk|apply Qr|apply Qx|apply Q4|apply Q5|apply Qi|apply Q2)) [(2,3),(5,5),(8,23)] [] (fun m J hp=>∃i,m=ls.length-i/\i<=ls.length/\qC (qm ls i) (ls.drop i)=qC (-1) ls/\J 3= .int .i64 (qm ls i)/\J 8= .int .i64 (i:Nat)) ls.length ?_ ?_
 ·refine⟨0,rfl,by omega,rfl,?_⟩;refine Sz0 ?_
  try (first|rfl|exact⟨rfl,rfl⟩)
 rintro _ J h ⟨i,rfl,hi,AI,j3,j8⟩;by_cases c1:i<ls.length
 ·have d1:decide ((i:Int)<(ls.length:Int))=true:=decide_eq_true (by omega);obtain⟨b1,b2,b3⟩:=hb _ (Kah c1);have hr:=RL b1 (by omega) (by omega) (by omega:_<2^40);have cA:=fun h=>Tu b1 h;have rV:=adI c1;have bu:qm ls (i+1)=Qv (ls[i].map bc.tm):=by simp[qm,c1]
  rw[AI]at rV;generalize hx:ls[i]=x at *
  generalize qm ls i=la at *
  cases ho:eh x
  ·rw[ho]at hr rV;refine Sz4 j3 j8 d1 hx ?_;refine Qa hP hr rfl rfl rfl ?_;refine Sz4 j3 j8 d1 hx ?_;exact Qd (by rw[rV];rfl) rfl
  ·rw[ho]at hr rV;obtain⟨e1,_⟩:=cA ho;obtain⟨b4,b5⟩:=b3 ho;have hm:=wD b4 (by rw[KaV];omega:_<=2^36);rw[<-e1]at hm;generalize Qv (x.map bc.tm)=mv at *
   refine Sz4 j3 j8 d1 hx ?_;refine Qa hP hr rfl rfl rfl ?_;refine Sz4 j3 j8 d1 hx ?_;refine Qa hP hm rfl rfl rfl ?_;by_cases c2:la<mv
   ·have q2:decide (mv<=la)=false:=decide_eq_false (by omega);rw[decide_eq_true c2]at rV;simp only[KbY]at rV;refine Sz5 j3 j8 d1 hx q2 ?_;refine Qa hP hm rfl rfl rfl ?_;refine Sz5 j3 j8 d1 hx q2 ?_;refine Qh (ls.length-(i+1)) (by omega) ⟨i+1,rfl,by omega,rV.symm,?_⟩;rw[bu];refine Sz0 ?_
    try (first|rfl|trivial|exact⟨rfl,rfl⟩)
   ·have q2:decide (mv<=la)=true:=decide_eq_true (by omega);rw[decide_eq_false c2]at rV;refine Sz5 j3 j8 d1 hx q2 ?_;exact Qd (by rw[rV];rfl) rfl
 ·obtain rfl:i=ls.length:=by omega
  have d1:decide ((ls.length:Int)<(ls.length:Int))=false:=decide_eq_false (by omega);rw[List.drop_eq_nil_of_le (Kac _),qC]at AI;refine Sz3 j3 j8 d1 ?_;exact Qd (by rw[<-AI]) rfl
def An:Int->List (List Tm)->Bool
 |_,[]=>true
 |last,p::ps=>decide (last<Qv p)&&An (Qv p) ps
theorem Sh(p:List Tm):(p.map jo).map bc.tm=p:=by rw[Kc7];exact(Kba fun t _=>aiN t).trans (List.map_id p)
theorem OI:∀(gs:List (List Tm))(last:Int),(∀p∈gs,rf p)->qC last (gs.map (List.map jo))=An last gs
 | [],_,_=>rfl
 |p::gs,last,h=>by rw[Kbj,qC,An,Sh,Hj (h p (by simp)),KbY,OI gs _ fun q hq=>h q (by simp[hq])]
structure yB(K E:Nat)(p:List Tm):Prop where
 b:PB K E p
 v:rf p
 l:p.length<=1048576
theorem agM{gs:List (List Tm)}{K E:Nat}(hl:gs.length<=100)(h:∀p∈gs,yB K E p)(hK:K<=1048576)(hE:E<=1048576):TQ (gs.map (List.map jo)):=by
 refine⟨by simpa using hl,fun l hl=>?_⟩;obtain⟨p,hp,rfl⟩:=KaI.1 hl;obtain⟨b,v,len⟩:=h p hp;refine⟨fun t ht=>?_,by rw[KaV];exact len,fun _=>?_⟩
 ·obtain⟨s,hs,rfl⟩:=KaI.1 ht;have:=(b s hs).c;exact PJ (by omega) (by have:=(b s hs).m.len;omega)
 ·rw[Sh];exact⟨b.mono (by omega) (by omega),v.og⟩
theorem ZS(gs:List (List Tm)):(gs.map (List.map jo)).map PV.kG=gs.map PV.aj:=by rw[Kc7];exact Kba fun p _=>NV p
theorem adJ{gs:List (List Tm)}{K E:Nat}(hl:gs.length<=100)(h:∀p∈gs,yB K E p)(hK:K<=1048576)(hE:E<=1048576):Qc Tryz.prog 14 [PV.bZ gs] (· = .bool (An (-1) gs)):=by
 have:=agL (agM hl h hK hE)
 rwa[ZS,OI _ _ fun p hp=>(h p hp).v]at this
theorem adK{p:List Tm}{K E:Nat}(h:yB K E p)(hK:K<=1048576):Qc Tryz.prog 40 [PV.aj p] (· = .bool true):=by
 have h':=RL (l:=p.map jo) (k:=max K 1) (fun t ht=>by obtain⟨s,hs,rfl⟩:=KaI.1 ht;have:=(h.b s hs).c;exact PJ (by omega) (by have:=(h.b s hs).m.len;omega)) (by omega) (by omega) (by rw[KaV];have:=h.l;omega)
 rwa[NV,Hj h.v]at h'
end Go.Proofs.YtdjoomkeehihmaaGreat
namespace Go.FW
open Go
theorem Ti{f:Tm->Option Tm}(hf:∀t s,f t=some s->s.1=t.1):∀p:List Tm,n1 (p.filterMap f)<=n1 p
 | []=>Rat.le_refl
 |t::p=>by
  have h1:=Ti hf p;have h2:=qa t.1;rw[Kbk];cases h:f t with
  |none=>simp only[n1];grind
  |some s=>simp only[n1,hf t s h];grind
theorem Hr(p:List Tm)(v:Nat)(n:Int):n1 (aX p v n)<=n1 p:=Ti (fun t s h=>by
 split at h
 ·cases h;rfl
 ·cases h) p
theorem Dk{D:Nat}{p:List Tm}(h:Dn D p)(v:Nat)(n:Int):Dn D (aX p v n):=fun t ht=>by obtain⟨s,hs,_,rfl⟩:=sT ht;exact h s hs
theorem abJ(p:List Tm)(v n:Nat):n1 (gr p v n)<=n1 p:=by
 unfold gr;split
 ·exact Rat.le_refl
 ·have h:=zR p [(1,cJ v n)];have e:n1 [((1:Rat),cJ v n)]=1:=by simp only[n1,dJ];grind
  rw[e,Rat.mul_one]at h;exact h
theorem abK{D:Nat}{p:List Tm}(h:Dn D p)(v n:Nat):Dn D (gr p v n):=by
 unfold gr;split
 ·exact h
 ·have h1:Dn 1 [((1:Rat),cJ v n)]:=fun t ht=>by rw[KaP.1 ht];exact⟨1,by show(1:Rat)*((1:Nat):Rat)=((1:Int):Rat);decide+kernel⟩
  have:=zS h h1
  rwa[KbF]at this
theorem agc(p q:List Tm):n1 (fY p q)<=n1 p+n1 q:=by
 have h1:=Dr p (kP q);have h2:n1 (kP q)<=n1 q:=by
  rw[CG];have:=wM (-1,[]) q;have e:dJ (-1)=1:=by decide+kernel
  rw[e,Kdj]at this;exact this
 unfold fY;grind
theorem agd{D:Nat}{p q:List Tm}(hp:Dn D p)(hq:Dn D q):Dn D (fY p q):=by
 refine Ds p _ hp ?_;rw[CG];have:=zf (D':=1) (t:=(-1,[])) ⟨-1,by decide+kernel⟩ hq
 rwa[KbF]at this
theorem XB.yt{E:Nat}{p q:List Tm}:XB E p->XB E q->XB E (FW.fY p q):=fun hp ⟨K,h⟩=>hp.sC ⟨_,xc h⟩
theorem XB.mO{E:Nat}{p:List Tm}(h:XB E p)(v:Nat)(n:Int):XB E (FW.aX p v n):=let⟨K,h⟩:=h;⟨K,ql h v n⟩
theorem aiZ{m:List Int}{x:Int}(h:x∈m):∃i,eN m i=x:=by obtain⟨i,hi,rfl⟩:=Kbd h;exact⟨i,by simp[eN,hi]⟩
theorem XB.de{E:Nat}{r:List Tm}{v n d:Nat}(h:XB E r)(hv:v<64)(hn:n<=E):XB E (FW.de r v n d):=by
 obtain⟨K,h⟩:=h;have h1:=ql h v n;refine⟨K+2,fun t ht=>?_⟩;have h2:=(QM (n:=n-d) h1 hv).1 t ht;refine⟨h2.c,⟨h2.m.len,h2.m.lo,fun x hx=>?_⟩,h2.l⟩;obtain⟨i,rfl⟩:=aiZ hx;obtain⟨s,hs,he⟩:=CE (show t∈gr (FW.aX r v n) v (n-d)from ht);rw[he];have hb:=((h1 s hs).m.eN i).2;split
 ·rename_i e;subst e;rw[wW hs];omega
 ·omega
structure DV(a b E:Nat)(q r:List Tm):Prop where
 d:∃D N:Nat,0<D/\0<N/\nl D<=a/\nl N<=b/\Dn D q/\Dn D r/\n1 q<=(N:Rat)/\n1 r<=(N:Rat)
 xq:XB E q
 xr:XB E r
theorem DV.start{a b E:Nat}{r:List Tm}(h:SZ a b E r):DV a b E [] r:=by obtain⟨⟨D,N,h1,h2,h3,h4,h5,h6⟩,hx⟩:=h;refine⟨⟨D,N,h1,h2,h3,h4,(fun t ht=>by cases ht),h5,?_,h6⟩,⟨0,PB.nil _ _⟩,hx⟩;exact KbW (lC r) h6
theorem DV.q{a b E:Nat}{q r:List Tm}(h:DV a b E q r):SZ a b E q:=let⟨⟨D,N,h1,h2,h3,h4,h5,_,h7,_⟩,hx,_⟩:=h;⟨⟨D,N,h1,h2,h3,h4,h5,h7⟩,hx⟩
theorem DV.r{a b E:Nat}{q r:List Tm}(h:DV a b E q r):SZ a b E r:=let⟨⟨D,N,h1,h2,h3,h4,_,h6,_,h8⟩,_,hx⟩:=h;⟨⟨D,N,h1,h2,h3,h4,h6,h8⟩,hx⟩
theorem DV.step{a b E a' b' E':Nat}{q r g:List Tm}{v n d:Nat}(h:DV a b E q r)(hg:SZ a' b' E' g)(hv:v<64)(hn:n<=E):DV (a+a') (b+b'+2) (E+E') (iw q r g v n d) (eD r g v n d):=by
 obtain⟨⟨D,N,h1,h2,h3,h4,h5,h6,h7,h8⟩,hxq,EV⟩:=h;obtain⟨⟨D',N',g1,g2,g3,g4,g5,g6⟩,gx⟩:=hg;have e1:=gJ D' D;have e2:=gJ N' N;have e3:=uY (N'*N) (N'*N);have cq:=Hr g v d;have cr:=Hr r v n;have bq:n1 (de r v n d)<=n1 r:=KbW (abJ _ _ _) cr;have bD:Dn D (de r v n d):=abK (Dk h6 v n) v (n-d);have xb:=EV.de (d:=d) hv hn;have n0:(0:Rat)<=(N:Rat):=KbW (lC r) h8;have n0':(0:Rat)<=(N':Rat):=KbW (lC g) g6;have At:(1:Rat)<=(N':Rat):=by have:=rk (show 1<=N' from g2);simpa using this
 have p1:n1 (aX g v d)<=(N':Rat):=KbW cq g6;have p2:n1 (de r v n d)<=(N:Rat):=KbW bq h8;have m0:((N'*N+N'*N:Nat):Rat)=(N':Rat)*N+(N':Rat)*N:=by rw[Rat.natCast_add,Kb9]
 have MI:∀ {x y X Y:Rat},0<=x->0<=y->x<=X->y<=Y->x*y<=X*Y:=fun {x y X Y} hx hy h1 h2=>
  KbW (Kbi h1 hy) (Kbr h2 (KbW hx h1))
 refine⟨⟨D'*D,N'*N+N'*N,Kce g1 h1,by have:=Kce g2 h2;omega,by omega,by omega,?_,?_,?_,?_⟩,?_,?_⟩
 ·exact Ds _ _ (zS (Dk g5 v d) h5) (bD.dvd (Kdg _ _))
 ·refine agd (zS (Dk g5 v d) h6) ?_;have:=zS bD g5
  rwa[KaS]at this
 ·have s1:=Dr (Q8 (aX g v d) q) (de r v n d);have s2:=zR (aX g v d) q;have s3:=MI (lC _) (lC q) p1 h7;have s4:(N:Rat)<=(N':Rat)*N:=by have:=Kbi At n0;rwa[Kdj]at this
  rw[m0];unfold iw;grind
 ·have s1:=agc (Q8 (aX g v d) r) (Q8 (de r v n d) g);have s2:=zR (aX g v d) r;have s3:=MI (lC _) (lC r) p1 h8;have s4:=zR (de r v n d) g;have s5:=MI (lC _) (lC g) p2 g6;rw[m0];unfold eD;grind
 ·have:=((gx.mO v d).l8 hxq)
  rw[KbQ]at this;obtain⟨K,xb⟩:=xb;exact this.sC ⟨K,xb.mono (Kac _) (by omega)⟩
 ·have:=((gx.mO v d).l8 EV)
  rw[KbQ]at this;exact this.yt (xb.l8 gx)
theorem DV.steps{a b E a' b' E':Nat}{f g:List Tm}{v d:Nat}(hf:SZ a b E f)(nf:aC f)(hg:SZ a' b' E' g)(ng:aC g)(hv:v<64):∀k,DV (a+k*a') (b+k*(b'+2)) (E+k*E') (aG g v d f k).1 (aG g v d f k).2
 |0=>by rw[KbH,KbH,KbH];exact DV.start hf
 | k+1=>by
  have ih:=DV.steps (d:=d) hf nf hg ng hv k;have hn:(Q3 (aG g v d f k).2 v).toNat<=E+k*E':=by
   obtain⟨K,hx⟩:=ih.xr;by_cases h0:(aG g v d f k).2=[]
   ·rw[h0];simp[Q3]
   ·have:=(oq hx h0 v).2;omega
  have:=ih.step (n:=(Q3 (aG g v d f k).2 v).toNat) (d:=d) hg hv hn;rw[show a+(k+1)*a'=a+k*a'+a' by rw[KaH];omega,show b+(k+1)*(b'+2)=b+k*(b'+2)+b'+2 by rw[KaH];omega,show E+(k+1)*E'=E+k*E'+E' by rw[KaH];omega];exact this
theorem Hs:∀(B:Nat)(l:List Nat),l.Nodup->(∀x∈l,x<B)->l.length<=B
 |0,l,_,h=>by
  cases l with
  |nil=>simp
  |cons x l=>exact absurd (h x (by simp)) (by omega)
 | B+1,l,hn,h=>by
  by_cases hB:B∈l
  ·have ih:=Hs B (l.erase B) (hn.erase B) (fun x hx=>by have h1:=(hn.mem_erase_iff).1 hx;have:=h x h1.2;have:=h1.1;omega);rw[List.length_erase_of_mem hB]at ih;omega
  ·have:=Hs B l hn (fun x hx=>by have h1:=h x hx;have:x≠B:=fun e=>hB (e▸hx);omega);omega
def o5(E:Nat):Nat->List Int->Nat
 |0,_=>0
 |w+1,m=>(eN m w).toNat*(E+1)^w+o5 E w m
theorem Dl{E:Nat}{m:List Int}(h:∀i,0<=eN m i/\eN m i<=E):∀w,o5 E w m<(E+1)^w
 |0=>by simp[o5]
 |w+1=>by
  have ih:=Dl h w;have h1:=h w;have h2:(eN m w).toNat*(E+1)^w<=E*(E+1)^w:=Kaf _ (by omega);have h3:(E+1)^(w+1)=E*(E+1)^w+(E+1)^w:=by rw[Kbz,KaS,KaH,KcU]
  rw[o5,h3];omega
theorem Tj{E:Nat}{a b:List Int}(ha:∀i,0<=eN a i/\eN a i<=E)(hb:∀i,0<=eN b i/\eN b i<=E):∀w,o5 E w a=o5 E w b->∀i,i<w->eN a i=eN b i
 |0,_,i,hi=>by omega
 | w+1,h,i,hi=>by
  have l1:=Dl ha w;have l2:=Dl hb w;rw[o5,o5]at h;have hp:0<(E+1)^w:=KbN (by omega);have hm:(eN a w).toNat=(eN b w).toNat:=by
   have e1:((eN a w).toNat*(E+1)^w+o5 E w a)/(E+1)^w=(eN a w).toNat:=by rw[KaS,Nat.mul_add_div hp,Kcc l1,KaT]
   have e2:((eN b w).toNat*(E+1)^w+o5 E w b)/(E+1)^w=(eN b w).toNat:=by rw[KaS,Nat.mul_add_div hp,Kcc l2,KaT]
   rw[<-e1,<-e2,h]
  rw[hm]at h;by_cases e:i=w
  ·subst e;have:=ha i;have:=hb i;omega
  ·exact Tj ha hb w (by omega) i (by omega)
theorem Yc{p:List Tm}{K E w:Nat}(hb:PB K E p)(hn:aC p)(hm:ML w p):p.length<=(E+1)^w:=by
 have key:(p.map fun t=>o5 E w t.2).Nodup:=by
  have hs:=hn.s;clear hn;induction p with
  |nil=>simp
  | cons t p ih=>
   rw[Kbj,List.nodup_cons];refine⟨fun eo=>?_,ih (fun s hs=>hb s (by simp[hs])) (fun s hs=>hm s (by simp[hs])) hs.2⟩;obtain⟨s,gl,e⟩:=KaI.1 eo;have h1:=hs.1 s gl;have bt:=hb t (by simp);have bs:=hb s (by simp[gl]);have hi:=Tj (fun i=>bt.m.eN i) (fun i=>bs.m.eN i) w e.symm;have:t.2=s.2:=qh bt.l bs.l fun i=>by
    by_cases hiw:i<w
    ·exact hi i hiw
    ·rw[fq (by have:=hm t (by simp);omega),fq (by have:=hm s (by simp[gl]);omega)]
   rw[this,CH]at h1;exact absurd h1 (by omega)
 have:=Hs ((E+1)^w) _ key (fun x hx=>by obtain⟨t,ht,rfl⟩:=KaI.1 hx;exact Dl (fun i=>(hb t ht).m.eN i) w)
 rwa[KaV]at this
theorem SZ.MP:SZ 1 1 0 (dQ 1):=by
 have e:dQ 1=[(1,[])]:=by decide+kernel
 rw[e];refine⟨⟨1,1,by omega,by omega,by rw[jG];omega,by rw[jG];omega,fun t ht=>?_,?_⟩,2,fun t ht=>?_⟩
 ·rw[KaP.1 ht];exact⟨1,by show(1:Rat)*((1:Nat):Rat)=((1:Int):Rat);decide+kernel⟩
 ·decide+kernel
 ·rw[KaP.1 ht];exact⟨by decide+kernel,⟨by simp,by simp,by simp⟩,by simp⟩
theorem SZ.yr{a b E:Nat}{p:List Tm}(h:SZ a b E p):∀n,SZ (1+n*a) (1+n*b) (n*E) (FW.cF p n)
 |0=>by rw[KbH,KbH,KbH];exact SZ.MP
 |n+1=>by have:=(SZ.yr h n).l8 h;rw[show 1+n*a+a=1+(n+1)*a by rw[KaH];omega,show 1+n*b+b=1+(n+1)*b by rw[KaH];omega,show n*E+E=(n+1)*E by rw[KaH];omega]at this;exact this
theorem SZ.mO{a b E:Nat}{p:List Tm}(h:SZ a b E p)(v:Nat)(n:Int):SZ a b E (FW.aX p v n):=by obtain⟨⟨D,N,h1,h2,h3,h4,h5,h6⟩,hx⟩:=h;exact⟨⟨D,N,h1,h2,h3,h4,Dk h5 v n,KbW (Hr p v n) h6⟩,hx.mO v n⟩
theorem ML.yr{w:Nat}{p:List Tm}(h:ML w p):∀n,ML w (FW.cF p n)
 |0=>fun t ht=>by
  have e:dQ 1=[(1,[])]:=by decide+kernel
  have VI:t∈dQ 1:=ht;rw[e]at VI;rw[KaP.1 VI];simp
 |n+1=>(ML.yr h n).l8 h
theorem ML.top{p:List Tm}{K E v:Nat}(hb:PB K E p)(h:ML (v+1) p)(n:Int):ML v (FW.aX p v n):=fun t ht=>by
 have h1:=h.mO v n t ht;have h2:=wW ht;have h3:=(ql hb v n t ht).l;by_cases e:t.2.length=v+1
 ·exfalso;have hv:v<t.2.length:=by omega
  rw[e9 hv]at h2;apply h3;rw[Ka3,e,Nat.add_sub_cancel,Kam hv,h2]
 ·omega
end Go.FW
