/- Part 16 of the proof of TriangularZeros: TR9, TR10, TR4, TRB, FwRI, FwRJ. Own lemmas; no conditions. -/
import Derived.Test.YtdjoomkeehihmaaGreatTriangularZerosPart15
set_option maxHeartbeats 1000000
set_option linter.unusedSimpArgs false
set_option linter.unusedVariables false
set_option linter.unnecessarySimpa false
set_option maxRecDepth 100000
namespace Go.Proofs.YtdjoomkeehihmaaGreat
open Go Go.FW
def na(g:List Tm)(v d:Nat):Nat->List Tm->List Tm->Nat->Option (List Tm×List Tm×Nat)
 |0,q,r,k=>some (q,r,k)
 |f+1,q,r,k=>
  if r=[]∨Q3 r v<d then some (q,r,k)
  else if bh (gJ q r g v (Q3 r v).toNat d)=true∨bh (ej r g v (Q3 r v).toNat d)=true then none
  else na g v d f (gJ q r g v (Q3 r v).toNat d) (ej r g v (Q3 r v).toNat d) (k+1)
abbrev PV.dv:Option (List Tm×List Tm×Nat)->PV
 |some (q,r,n)=>.au [PV.aj q,PV.aj r,.int .i64 n,.int .i64 0]
 |none=>.au [PV.aj [],PV.aj [],.int .i64 0,.int .i64 4]
theorem I6:PV.dv none= .au [PV.aj [],PV.aj [],.int .i64 0,.int .i64 4]:=rfl
theorem I7{q r:List Tm}{n:Nat}:PV.dv (some (q,r,n))= .au [PV.aj q,PV.aj r,.int .i64 n,.int .i64 0]:=rfl
theorem AB(g:List Tm)(v d:Nat):∀(f:Nat)(q r:List Tm)(k:Nat),jG g v d f q r k=PV.dv (na g v d f q r k)
 |0,q,r,k=>rfl
 | f+1,q,r,k=>by
  rw[jG,na];split
  ·rfl
  ·split
   ·rfl
   ·exact AB g v d f _ _ _
abbrev qS:=List Int×List (List Tm)×List Tm
abbrev PV.Cg(s:qS):PV:=.agg [.sl 1 (iV s.1),.sl 1 (s.2.1.map PV.aj),PV.aj s.2.2]
theorem QB:PV.le (.agg [.aa,.aa,.aa]) (PV.Cg ([],[],[])):=⟨trivial,trivial,trivial,trivial⟩
def kF(i k:Nat)(c:List Tm)(qs:List (List Tm)):List (List Tm):=(List.range qs.length).map fun j=>if i<j/\j<k then Q4 (qs.getD j []) c else qs.getD j []
theorem zM(i k:Nat)(c:List Tm)(qs:List (List Tm)):(kF i k c qs).length=qs.length:=by simp[kF]
theorem zN{i k:Nat}{c:List Tm}{qs:List (List Tm)}{j:Nat}(h:j<(kF i k c qs).length):(kF i k c qs)[j]=if i<j/\j<k then Q4 (qs.getD j []) c else qs.getD j []:=by simp[kF]
theorem ZV(i:Nat)(c:List Tm)(qs:List (List Tm)):kF i (i+1) c qs=qs:=by refine KcV (zM _ _ _ _) fun j h1 h2=>?_;rw[zN h1,if_neg (by omega)];simp[h2]
theorem Q9n{i k:Nat}{c:List Tm}{qs:List (List Tm)}(h:i<k):kF i (k+1) c qs=(kF i k c qs).set k (Q4 (qs.getD k []) c):=by
 refine KcV (by simp[zM]) fun j h1 h2=>?_;rw[zN h1,Kdg];split
 ·split
  ·subst_vars;rfl
  ·rw[zN,if_pos (by omega)]
 ·split
  ·omega
  ·rw[zN,if_neg (by omega)]
def I8(g:List Tm)(i:Nat)(D:Option (List Tm×List Tm×Nat))(s:qS):Option qS:=
 match D with
 |none=>none
 |some (q,r,n)=>if(∃k,k<s.2.1.length/\i<k/\bh (Q4 (s.2.1.getD k []) (cy (cA g) n))=true)then none else some (s.1.set i n,(kF i s.2.1.length (cy (cA g) n) s.2.1).set i q,r)
def tQ(gs:List (List Tm))(D:List Tm->List Tm->Option (List Tm×List Tm×Nat)):Nat->qS->Option qS
 |0,s=>some s
 |i+1,s=>(I8 (gs.getD i []) i (D s.2.2 (gs.getD i [])) s).bind (tQ gs D i)
def PV.aqk:Option qS->PV
 |some s=>.au [PV.Cg s,.int .i64 0]
 |none=>.au [PV.Cg ([],[],[]),.int .i64 4]
structure R3(mul lg pw yY dv mn:Nat)(g:List Tm)(i:Nat)(D:Option (List Tm×List Tm×Nat))(s:qS):Prop where
 mn:Qc Tryz.prog mn [PV.aj g] (· = .int .i64 (Qv g))
 dv:Qc Tryz.prog dv [PV.aj s.2.2,PV.aj g,.int .i64 (Qv g)] (· =PV.dv D)
 yY:Qc Tryz.prog yY [PV.aj g] (· =PV.aj (cA g))
 pw:∀q r n,D=some (q,r,n)->Qc Tryz.prog pw [PV.aj (cA g),.int .i64 n] (· =PV.aj (cy (cA g) n))
 mul:∀q r n,D=some (q,r,n)->∀k,k<s.2.1.length->i<k->Qc Tryz.prog mul [PV.aj (s.2.1.getD k []),PV.aj (cy (cA g) n)] (· =PV.aj (Q4 (s.2.1.getD k []) (cy (cA g) n)))
 lg:∀q r n,D=some (q,r,n)->∀k,k<s.2.1.length->i<k->Qc Tryz.prog lg [PV.aj (Q4 (s.2.1.getD k []) (cy (cA g) n))] (· = .bool (bh (Q4 (s.2.1.getD k []) (cy (cA g) n))))
theorem NH{fr:Fr}{hp:HP}(β δ:Nat){hb:HB}(_:hp β=some hb)(lG:hp δ=none)(h2:2000000<=δ)(hY:bN β=false)(aO:β≠δ):Wk fr hp (o9 β δ fr) (B5 β δ hp):=Gz β δ lG h2 hY aO
abbrev CC(n:Nat)(r:List Tm):PV:=.aX [.ax 2000002 0 n,.ax 2000003 0 n,PV.aj r]
def KN:aA:=⟨104,[.cell 4 3 true,.t 5],Zr (Zo (.alloc 4 3 58 (.agg [.aa,.aa,.aa]))<|Zc 5 0 .nil)<| .seq (Zr (Zm 14 0<|Zq 15 false 40 [.t 14]<|Zu 16 15 .nil)<| .cond (.t 16) (Zr (Zo (.bU 17 [.aa,.aa,.aa] [])<|Zs 3 4 17<|Zc 5 1 .nil) .ret) .skip)<| .seq (Zr (Zm 18 1<|Zq 19 false 14 [.t 18]<|Zu 20 19 .nil)<| .cond (.t 20) (Zr (Zo (.bU 21 [.aa,.aa,.aa] [])<|Zs 3 4 21<|Zc 5 15 .nil) .ret) .skip)<|Zr (Zm 22 1<|Zn 23 22<|Zm 25 1<|Zn 26 25<|Zm 28 0<| .br (Zo (.mk 24 1 8 3 (Zz 0) (.t 23) (.t 23))<| .wk<| .br (Zo (.mk 27 1 24 32 .aa (.t 26) (.t 26))<| .wk<| .wk<|Zo (.bU 29 [.aa,.aa,.aa] [(0,1,.t 24),(1,1,.t 27),(2,1,.t 28)])<|Zo (.alloc 6 3 58 (.agg [.aa,.aa,.aa]))<| .wk<| .wk<|Zs 3 6 29 .nil) (Zo (.alloc 6 3 58 (.agg [.aa,.aa,.aa]))<| .wk<| .wk<|Zo (.mk 27 1 24 32 .aa (.t 26) (.t 26))<| .wk<| .wk<|Zo (.bU 29 [.aa,.aa,.aa] [(0,1,.t 24),(1,1,.t 27),(2,1,.t 28)])<|Zs 3 6 29 .nil)) (.br (Zo (.mk 27 1 24 32 .aa (.t 26) (.t 26))<| .wk<| .wk<| .br (Zo (.mk 24 1 8 3 (Zz 0) (.t 23) (.t 23))<| .wk<|Zo (.bU 29 [.aa,.aa,.aa] [(0,1,.t 24),(1,1,.t 27),(2,1,.t 28)])<|Zo (.alloc 6 3 58 (.agg [.aa,.aa,.aa]))<| .wk<| .wk<|Zs 3 6 29 .nil) (Zo (.alloc 6 3 58 (.agg [.aa,.aa,.aa]))<| .wk<| .wk<|Zo (.mk 24 1 8 3 (Zz 0) (.t 23) (.t 23))<| .wk<|Zo (.bU 29 [.aa,.aa,.aa] [(0,1,.t 24),(1,1,.t 27),(2,1,.t 28)])<|Zs 3 6 29 .nil)) (Zo (.alloc 6 3 58 (.agg [.aa,.aa,.aa]))<| .wk<| .wk<| .br (Zo (.mk 24 1 8 3 (Zz 0) (.t 23) (.t 23))<| .wk<|Zo (.mk 27 1 24 32 .aa (.t 26) (.t 26))<| .wk<| .wk<|Zo (.bU 29 [.aa,.aa,.aa] [(0,1,.t 24),(1,1,.t 27),(2,1,.t 28)])<|Zs 3 6 29 .nil) (Zo (.mk 27 1 24 32 .aa (.t 26) (.t 26))<| .wk<| .wk<|Zo (.mk 24 1 8 3 (Zz 0) (.t 23) (.t 23))<| .wk<|Zo (.bU 29 [.aa,.aa,.aa] [(0,1,.t 24),(1,1,.t 27),(2,1,.t 28)])<|Zs 3 6 29 .nil))))<| .seq (Zr (Zm 30 1<|Zn 31 30<|Zk 32 .sub 31 1<|Zm 7 32 .nil)<| .block 0<| .loop<| .seq (Zr (Zm 33 7<|Zk 34 .geq 33 0 .nil)<| .cond (.t 34) .skip (.exit 0))<| .seq (.block 1<|Zr (Zf 38 2 6<|Zl 39 1 38<|Zm 40 1<|Zm 41 7<|Zi 42 1 40 41<|Zl 43 1 42<|Zm 44 1<|Zm 45 7<|Zi 46 1 44 45<|Zl 47 1 46<|Zq 48 true 41 [.t 47]<|Zq 49 true 57 [.t 39,.t 43,.t 48]<|Zm 37 49<|Zo (.ext 50 (.t 37) 0)<|Zo (.ext 51 (.t 37) 1)<|Zo (.ext 52 (.t 37) 2)<|Zo (.ext 53 (.t 37) 3)<|Zm 8 50<|Zm 9 51<|Zm 10 52<|Zm 11 53 .nil)<| .seq (Zr (Zm 54 11<|Zk 55 .neq 54 0 .nil)<| .cond (.t 55) (Zr (Zo (.bU 56 [.aa,.aa,.aa] [])<|Zm 57 11<|Zs 3 4 56<|Zm 5 57 .nil) .ret) .skip)<|Zr (Zm 58 1<|Zm 59 7<|Zi 60 1 58 59<|Zl 61 1 60<|Zq 62 false 59 [.t 61]<|Zm 63 10<|Zq 64 false 58 [.t 62,.t 63]<|Zm 12 64 .nil)<| .seq (Zr (Zm 65 7<|Zk 66 .add 65 1<|Zm 13 66 .nil)<| .block 2<| .loop<| .seq (Zr (Zm 67 13<|Zm 68 1<|Zn 69 68<|Zb 70 .lss 67 69 .nil)<| .cond (.t 70) .skip (.exit 2))<| .seq (.block 3<|Zr (Zf 73 1 6<|Zl 74 1 73<|Zm 75 13<|Zf 76 1 6<|Zl 77 1 76<|Zm 78 13<|Zi 79 1 77 78<|Zl 80 1 79<|Zm 81 12<|Zq 82 true 60 [.t 80,.t 81]<|Zi 83 1 74 75<|Zs 1 83 82 .nil)<|Zr (Zf 84 1 6<|Zl 85 1 84<|Zm 86 13<|Zi 87 1 85 86<|Zl 88 1 87<|Zq 89 false 61 [.t 88] .nil)<| .cond (.t 89) (Zr (Zo (.bU 90 [.aa,.aa,.aa] [])<|Zs 3 4 90<|Zc 5 4 .nil) .ret) .skip)<| .rg (Zm 71 13<|Zk 72 .add 71 1<|Zm 13 72 .nil))<| .rg (Zf 91 1 6<|Zl 92 1 91<|Zm 93 7<|Zf 94 0 6<|Zm 96 7<|Zm 97 8<|Zm 98 10<|Zm 99 9<|Zi 100 1 92 93<| .br (Zl 95 1 94<|Zs 1 100 97<|Zi 101 1 95 96<|Zs 1 101 98<|Zf 102 2 6<|Zs 1 102 99 .nil) (Zs 1 100 97<|Zl 95 1 94<|Zi 101 1 95 96<|Zs 1 101 98<|Zf 102 2 6<|Zs 1 102 99 .nil)))<| .rg (Zm 35 7<|Zk 36 .sub 35 1<|Zm 7 36 .nil))<|Zr (Zh 103 3 6<| .wk<|Zs 3 4 103<|Zc 5 0 .nil) .ret⟩
theorem akm:Qe Tryz.prog Tryz.f23=some KN.strip:=by kernel_rfl
theorem ae4{p:List Tm}{gs:List (List Tm)}{D:List Tm->List Tm->Option (List Tm×List Tm×Nat)}{G:Nat->qS->Prop}(hl:gs.length<=100)
  (hr:Qc Tryz.prog 40 [PV.aj p] (· = .bool true)) (hrc:Qc Tryz.prog 14 [PV.ch gs] (· = .bool true))
  (h0:G gs.length (List.replicate gs.length 0,List.replicate gs.length [],p))
  (hG:∀i (h:i<gs.length) s,G (i+1) s->R3 60 61 58 59 57 41 gs[i] i (D s.2.2 gs[i]) s/\∀s',I8 gs[i] i (D s.2.2 gs[i]) s=some s'->G i s'):
  Qc Tryz.prog 23 [PV.aj p,PV.ch gs] (· =PV.aqk (tQ gs D gs.length (List.replicate gs.length 0,List.replicate gs.length [],p))):=by
 refine xA Qo Tryz.func23 rfl akm (by simp[KN]) fun C hP=>?_;simp only[KN,Zo,Zg,Zm,Zc,Zf,Zl,Zh,Zs,Zi,Zb,Zk,Zn,Zu,Zq,Zr,Zz];refine Sz0 ?_;refine Qa hP hr rfl rfl rfl ?_;refine Sz0 ?_;refine Qa hP hrc rfl rfl rfl ?_;refine Sz0 ?_;have WM:fb (my 27 2000003) (.aN 2000001 3 58 [.agg [.aa,.aa,.aa]])=(.aN 2000001 3 58 [.agg [.aa,.aa,.aa]]):=rfl;have WN:fb (my 24 2000002) (.aN 2000001 3 58 [.agg [.aa,.aa,.aa]])=(.aN 2000001 3 58 [.agg [.aa,.aa,.aa]]):=rfl;have WE:bZ 27 (.aN 2000001 3 58 [.agg [.aa,.aa,.aa]])=(.aN 2000001 3 58 [.agg [.aa,.aa,.aa]]):=rfl;have WG:bZ 24 (.aN 2000001 3 58 [.agg [.aa,.aa,.aa]])=(.aN 2000001 3 58 [.agg [.aa,.aa,.aa]]):=rfl;refine PD (by repeat (first|exact Qr|exact Qk|exact Ql|exact Qm|exact Qn|apply Qj|apply Qq|apply Qx|apply Q5|apply Q6|apply Qi|apply Q2)) [(6,6),(24,29),(2000001,2000001)] [6,24,27] (fun J hp=>J 6= .np 2000001 0 0/\J 2000001= .aN 2000001 3 58 [CC gs.length p]/\hp 4=some ⟨3,58,[.agg [.aa,.aa,.aa]],false⟩/\hp 2000001=some ⟨3,58,[],false⟩/\
  hp 2000002=some ⟨1,3,iV (List.replicate gs.length 0),false⟩/\hp 2000003=some ⟨1,32,(List.replicate gs.length ([]:List Tm)).map PV.aj,false⟩) ?_ ?_
 ·repeat' first
   |refine nP ?_ ?_
   |refine mT (NH 24 2000002 rfl rfl (by omega) rfl (by omega)) ?_
   |refine mT (NH 27 2000003 rfl rfl (by omega) rfl (by omega)) ?_
   |refine mT (IF gs.length 2000003 32 _ _ rfl) ?_
   |refine mT (NH 6 2000001 rfl rfl (by omega) rfl (by omega)) ?_
   |refine mT (Gj (γ:=2000001) (e:=3) (ty:=58) (xs:=[.agg [.aa,.aa,.aa]]) (fz:=false) rfl (by simp) (by omega) (fun x hx=>by rw[KaL.1 hx];rfl)) ?_
   |rw[ahx rfl (by omega)]
   |simp+decide (disch:=try exact D4 WM WN WE WG) only[go_sem,WM,WN,WE,WG]
  all_goals
   refine Aw ?_;refine Sz0 ?_;trivial
 rintro J0 EN ⟨j6,jn,b4,b1,b2,b3⟩;refine Sz1 j6 ?_;obtain⟨Z,hZ⟩:∃Z,tQ gs D gs.length (List.replicate gs.length 0,List.replicate gs.length [],p)=Z:=⟨_,rfl⟩
 rw[hZ];refine Al (by repeat (first|exact Qr|exact Qk|exact Ql|exact Qm|exact Qn|apply Qj|apply Qq|apply Qx|apply Q5|apply Q6|apply Qi|apply Q2)) [(5,13),(33,102),(2000001,2000001)] [] (fun q J hp=>∃(i:Nat)(s:qS),q=i/\i<=gs.length/\G i s/\tQ gs D i s=Z/\s.1.length=gs.length/\s.2.1.length=gs.length/\J 6= .np 2000001 0 0/\J 7= .int .i64 ((i:Int)-1)/\J 2000001= .aN 2000001 3 58 [CC gs.length s.2.2]/\hp 4=some ⟨3,58,[.agg [.aa,.aa,.aa]],false⟩/\hp 2000001=some ⟨3,58,[],false⟩/\
  hp 2000002=some ⟨1,3,iV s.1,false⟩/\hp 2000003=some ⟨1,32,s.2.1.map PV.aj,false⟩) gs.length ?_ ?_
 ·refine⟨gs.length,_,rfl,Kac _,h0,hZ,by simp,by simp,?_⟩;refine Sz6 j6 jn b4 b1 b2 b3 ?_;trivial
 rintro q J h ⟨i,⟨pw,qs,rest⟩,hq,hi,hGi,mb,me,gB,i6,i7,qo,c4,c1,c2,c3⟩;obtain rfl:i=q:=hq.symm;clear hq;simp only at me gB qo c2 c3;cases i with
 | zero=>
  refine Sz6 i6 i7 qo c1 c2 c3 ?_;refine IA 103 2 [2000002,2000003] (p:=CC gs.length rest) Tz0 (D:=PV.Cg (pw,qs,rest)) ?_ ?_ rfl ?_
  ·intro c hc;simp only[KaP,Kdh,or_false]at hc;rcases hc with rfl|rfl|rfl
   ·simp only[s0,bN];simp
   ·simp only[s0,bN];simp
   ·trivial
  ·show PV.agg [ke _ h 2 (.ax 2000002 0 _),ke _ h 2 (.ax 2000003 0 _),_]=_;simp only[ke,c2,c3,Kbp];rw[Kae (by simp;omega),Kae (by simp;omega)]
  refine tZ c4 ?_;refine afZ (Wk.refl _ _) ?_;refine iS ?_;refine Sz0 ?_;exact eV (by rw[<-mb];rfl) rfl rfl (Qy _) (Qy _)
 | succ i=>
  obtain⟨hS,hN⟩:=hG i (by omega) _ hGi;have hig:i<gs.length:=by omega
  have e7:((i+1:Nat):Int)-1=(i:Int):=by omega
  rw[e7]at i7;have eH:gs.getD i []=gs[i]:=by simp[hig]
  rw[tQ,eH]at mb;simp only at hS hN mb;generalize hg:gs[i]=g at *
  generalize hD:D rest g=d at *
  have k1:=hS.mn;have k2:=hS.dv;have d0:decide ((0:Int)<=(i:Int))=true:=decide_eq_true (by omega);refine Sz6 i6 i7 qo c1 hg d0 ?_;refine Qa hP k1 rfl rfl rfl ?_;refine Sz6 i6 i7 qo c1 hg d0 ?_;refine Qa hP k2 rfl rfl rfl ?_;cases d with
  |none=>rw[I6];refine Sz4 i6 i7 qo c4 ?_;rw[bO rfl];refine Sz4 i6 i7 qo c4 ?_;refine tv ?_;refine iS ?_;refine Sz0 ?_;exact eV (by rw[<-mb];rfl) rfl rfl QB (Qy _)
  | some d=>
   obtain⟨q,r,n⟩:=d;have k3:=hS.yY;have k4:=hS.pw q r n rfl;rw[I7];refine Sz5 i6 i7 qo c1 hg ?_;rw[bO rfl];refine Sz5 i6 i7 qo c1 hg ?_;refine Qa hP k3 rfl rfl rfl ?_;refine Sz5 i6 i7 qo c1 hg ?_;refine Qa hP k4 rfl rfl rfl ?_;refine Sz5 i6 i7 qo c1 hg ?_;have hN:=hN;have k5:=hS.mul q r n rfl;have k6:=hS.lg q r n rfl;simp only at k5 k6;generalize hc:cy (cA g) n=c at *
   have aG:I8 g i (some (q,r,n)) (pw,qs,rest)=if(∃k,k<qs.length/\i<k/\bh (Q4 (qs.getD k []) c)=true)then none else some (pw.set i n,(kF i qs.length c qs).set i q,r):=by rw[<-hc];rfl
   rw[aG]at hN mb;clear aG;refine Al (by repeat (first|exact Qr|exact Qk|exact Ql|exact Qm|exact Qn|apply Qj|apply Qq|apply Qx|apply Q5|apply Q6|apply Qi|apply Q2)) [(5,6),(13,13),(67,90),(2000001,2000001)] [] (fun q' J hp=>∃k,q'=gs.length-k/\i<k/\k<=gs.length/\(∀j,j<qs.length->i<j->j<k->bh (Q4 (qs.getD j []) c)=false)/\J 6= .np 2000001 0 0/\J 13= .int .i64 (k:Nat)/\J 2000001= .aN 2000001 3 58 [CC gs.length rest]/\hp 4=some ⟨3,58,[.agg [.aa,.aa,.aa]],false⟩/\hp 2000001=some ⟨3,58,[],false⟩/\
    hp 2000002=some ⟨1,3,iV pw,false⟩/\hp 2000003=some ⟨1,32,(kF i k c qs).map PV.aj,false⟩) (gs.length-(i+1)) ?_ ?_
   ·refine⟨i+1,rfl,by omega,by omega,fun j _ h1 h2=>by omega,?_⟩;refine Sz8 i6 i7 qo c4 c1 c2 c3 @ZV ?_;trivial
   rintro _ J1 h1 ⟨k,rfl,rf,wq,jJ,m6,uK,mn,b4,b1,b2,b3⟩;by_cases hkg:k<gs.length
   ·have d1:decide ((k:Int)<(gs.length:Int))=true:=decide_eq_true (by omega);have Fz:k<qs.length:=by omega
    have k5:=k5 k Fz rf;have k6:=k6 k Fz rf;have M4:k<(kF i k c qs).length:=by rw[zM];exact Fz
    have Ms:(kF i k c qs)[k]=qs.getD k []:=by rw[zN,if_neg (by omega)]
    have Fb:=Q9n (c:=c) (qs:=qs) rf;have Bm:bh (Q4 (qs.getD k []) c)=false->∀j,j<qs.length->i<j->j<k+1->bh (Q4 (qs.getD j []) c)=false:=fun h j h1 h2 h3=>by
     by_cases e:j=k
     ·subst e;exact h
     ·exact jJ j h1 h2 (by omega)
    have MJ:bh (Q4 (qs.getD k []) c)=true->∃k,k<qs.length/\i<k/\bh (Q4 (qs.getD k []) c)=true:=fun h=>⟨k,Fz,rf,h⟩
    generalize qs.getD k []=x at *
    generalize kF i k c qs=M at *
    have aoO:k<(M.set k (Q4 x c)).length:=by rw[Kb8];exact M4
    have hMs:(M.set k (Q4 x c))[k]=Q4 x c:=by simp
    refine Sz6 m6 uK mn b1 b3 d1 ?_;rw[P' M4,Ms];refine Sz5 m6 uK mn b1 b3 ?_;refine Qa hP k5 rfl rfl rfl ?_;refine Sz5 m6 uK mn b1 b3 ?_;rw[QA M4];refine Sz4 m6 uK mn b1 ?_;rw[P' aoO,hMs];refine Sz4 m6 uK mn b1 ?_;refine Qa hP k6 rfl rfl rfl ?_;cases ow:bh (Q4 x c)
    ·refine Sz1 uK ?_;refine xy (gs.length-(k+1)) (by omega) ⟨k+1,rfl,by omega,by omega,Bm ow,?_⟩;rw[Fb];refine Sz5 m6 mn b4 b1 b2 ?_;trivial
    ·rw[if_pos (MJ ow)]at mb;refine Sz2 uK b4 ?_;refine tv ?_;refine iS ?_;refine Sz0 ?_;exact eV (by rw[<-mb];rfl) rfl rfl QB (Qy _)
   ·obtain rfl:k=gs.length:=by omega
    have d1:decide ((gs.length:Int)<(gs.length:Int))=false:=decide_eq_false (by omega);have hnb:¬∃k,k<qs.length/\i<k/\bh (Q4 (qs.getD k []) c)=true:=fun⟨j,h1,h2,h3⟩=>by rw[jJ j h1 h2 (by omega)]at h3;cases h3
    rw[if_neg hnb]at hN mb;rw[gB]at hN mb;have hiM:i<(kF i gs.length c qs).length:=by rw[zM];omega
    have hip:i<pw.length:=by omega
    have hML:=zM i gs.length c qs;have hG':=hN _ rfl;have aoz:tQ gs D i (pw.set i n,(kF i gs.length c qs).set i q,r)=Z:=mb;clear hN mb;generalize kF i gs.length c qs=M at *
    refine Sz8 i7 m6 uK mn b1 b2 b3 d1 ?_;simp (disch:=decide) only[zL,C4,mM,Dg];refine nP ?_ ?_
    all_goals
     repeat' first
      |rw[QA hiM]
      |rw[Ro hip]
      |simp+decide (disch:=try exact D6 i7 m6 mn b1 b2 b3) only[go_sem,i7,m6,mn,b1,b2,b3]
     refine xy i (by omega) ⟨i,_,rfl,by omega,hG',aoz,by simp[me],by simp[hML,gB],?_⟩;refine Sz3 m6 b4 b1 ?_;trivial
def qT:Int->List (List aU)->Bool
 |_,[]=>true
 |last,l::ls=>eE l&&decide (last<Qv (l.map aU.tm))&&qT (Qv (l.map aU.tm)) ls
def qN(ls:List (List aU))(i:Nat):Int:=if i=0 then -1 else Qv ((ls.getD (i-1) default).map aU.tm)
theorem ae5{ls:List (List aU)}{i:Nat}(h:i<ls.length):qT (qN ls i) (ls.drop i)=(eE ls[i]&&decide (qN ls i<Qv (ls[i].map aU.tm))&&qT (qN ls (i+1)) (ls.drop (i+1))):=by
 rw[Kaz h,qT];have:qN ls (i+1)=Qv (ls[i].map aU.tm):=by simp[qN,h]
 rw[this]
def Vo(ls:List (List aU)):Prop:=ls.length<=100/\∀l∈ls,(∀t∈l,RB 1048576 t)/\l.length<=1048576/\(eE l=true->PB 1048577 1048576 (l.map aU.tm)/\az (l.map aU.tm))
theorem ahz{ls:List (List aU)}(hb:Vo ls):Qc Tryz.prog 14 [.sl 1 (ls.map PV.kD)] (· = .bool (qT (-1) ls)):=by
 obtain⟨hl,hb⟩:=hb;refine Qf Qo Tryz.func14 rfl akH (by simp[JU]) fun C hP=>?_;simp only[JU,Zo,Zg,Zm,Zc,Zf,Zl,Zh,Zs,Zi,Zb,Zk,Zn,Zu,Zq,Zr,Zz];refine Sz0 ?_;refine Qw (by repeat (first|exact Qr|exact Qk|exact Ql|exact Qm|exact Qn|apply Qj|apply Qq|apply Qx|apply Q5|apply Q6|apply Qi|apply Q2)) [(2,3),(5,5),(8,23)] [] (fun m J hp=>∃i,m=ls.length-i/\i<=ls.length/\qT (qN ls i) (ls.drop i)=qT (-1) ls/\J 3= .int .i64 (qN ls i)/\J 8= .int .i64 (i:Nat)) ls.length ?_ ?_
 ·refine⟨0,rfl,by omega,rfl,?_⟩;refine Sz0 ?_
  try (first|rfl|exact⟨rfl,rfl⟩)
 rintro _ J h ⟨i,rfl,hi,Bq,j3,j8⟩;by_cases c1:i<ls.length
 ·have d1:decide ((i:Int)<(ls.length:Int))=true:=decide_eq_true (by omega);obtain⟨b1,b2,b3⟩:=hb _ (Kag c1);have hr:=TA b1 (by omega) (by omega) (by omega:_<2^40);have cx:=fun h=>US b1 h;have sE:=ae5 c1;have bC:qN ls (i+1)=Qv (ls[i].map aU.tm):=by simp[qN,c1]
  rw[Bq]at sE;generalize hx:ls[i]=x at *
  generalize qN ls i=la at *
  cases ho:eE x
  ·rw[ho]at hr sE;refine Sz4 j3 j8 d1 hx ?_;refine Qa hP hr rfl rfl rfl ?_;refine Sz4 j3 j8 d1 hx ?_;exact Qd (by rw[sE];rfl) rfl
  ·rw[ho]at hr sE;obtain⟨e1,_⟩:=cx ho;obtain⟨b4,b5⟩:=b3 ho;have hm:=xf b4 (by rw[KaV];omega:_<=2^36);rw[<-e1]at hm;generalize Qv (x.map aU.tm)=mv at *
   refine Sz4 j3 j8 d1 hx ?_;refine Qa hP hr rfl rfl rfl ?_;refine Sz4 j3 j8 d1 hx ?_;refine Qa hP hm rfl rfl rfl ?_;by_cases c2:la<mv
   ·have q2:decide (mv<=la)=false:=decide_eq_false (by omega);rw[decide_eq_true c2]at sE;simp only[KbZ]at sE;refine Sz5 j3 j8 d1 hx q2 ?_;refine Qa hP hm rfl rfl rfl ?_;refine Sz5 j3 j8 d1 hx q2 ?_;refine Qg (ls.length-(i+1)) (by omega) ⟨i+1,rfl,by omega,sE.symm,?_⟩;rw[bC];refine Sz0 ?_
    try (first|rfl|trivial|exact⟨rfl,rfl⟩)
   ·have q2:decide (mv<=la)=true:=decide_eq_true (by omega);rw[decide_eq_false c2]at sE;refine Sz5 j3 j8 d1 hx q2 ?_;exact Qd (by rw[sE];rfl) rfl
 ·obtain rfl:i=ls.length:=by omega
  have d1:decide ((ls.length:Int)<(ls.length:Int))=false:=decide_eq_false (by omega);rw[List.drop_eq_nil_of_le (Kac _),qT]at Bq;refine Sz3 j3 j8 d1 ?_;exact Qd (by rw[<-Bq]) rfl
def AX:Int->List (List Tm)->Bool
 |_,[]=>true
 |last,p::ps=>decide (last<Qv p)&&AX (Qv p) ps
theorem UH(p:List Tm):(p.map jC).map aU.tm=p:=by rw[KcY];exact(Ka9 fun t _=>akc t).trans (List.map_id p)
theorem QC:∀(gs:List (List Tm))(last:Int),(∀p∈gs,rG p)->qT last (gs.map (List.map jC))=AX last gs
 | [],_,_=>rfl
 |p::gs,last,h=>by rw[Kbd,qT,AX,UH,Ih (h p (by simp)),KbZ,QC gs _ fun q hq=>h q (by simp[hq])]
structure w9(K E:Nat)(p:List Tm):Prop where
 b:PB K E p
 v:rG p
 l:p.length<=1048576
theorem ahA{gs:List (List Tm)}{K E:Nat}(hl:gs.length<=100)(h:∀p∈gs,w9 K E p)(hK:K<=1048576)(hE:E<=1048576):Vo (gs.map (List.map jC)):=by
 refine⟨by simpa using hl,fun l hl=>?_⟩;obtain⟨p,hp,rfl⟩:=KaE.1 hl;obtain⟨b,v,len⟩:=h p hp;refine⟨fun t ht=>?_,by rw[KaV];exact len,fun _=>?_⟩
 ·obtain⟨s,hs,rfl⟩:=KaE.1 ht;have:=(b s hs).c;exact RR (by omega) (by have:=(b s hs).m.len;omega)
 ·rw[UH];exact⟨b.mono (by omega) (by omega),v.nF⟩
theorem Q9p(gs:List (List Tm)):(gs.map (List.map jC)).map PV.kD=gs.map PV.aj:=by rw[KcY];exact Ka9 fun p _=>Pr p
theorem ae6{gs:List (List Tm)}{K E:Nat}(hl:gs.length<=100)(h:∀p∈gs,w9 K E p)(hK:K<=1048576)(hE:E<=1048576):Qc Tryz.prog 14 [PV.ch gs] (· = .bool (AX (-1) gs)):=by
 have:=ahz (ahA hl h hK hE)
 rwa[Q9p,QC _ _ fun p hp=>(h p hp).v]at this
theorem ae7{p:List Tm}{K E:Nat}(h:w9 K E p)(hK:K<=1048576):Qc Tryz.prog 40 [PV.aj p] (· = .bool true):=by
 have h':=TA (l:=p.map jC) (k:=max K 1) (fun t ht=>by obtain⟨s,hs,rfl⟩:=KaE.1 ht;have:=(h.b s hs).c;exact RR (by omega) (by have:=(h.b s hs).m.len;omega)) (by omega) (by omega) (by rw[KaV];have:=h.l;omega)
 rwa[Pr,Ih h.v]at h'
end Go.Proofs.YtdjoomkeehihmaaGreat
namespace Go.FW
open Go
theorem OG{f:Tm->Option Tm}(hf:∀t s,f t=some s->s.1=t.1):∀p:List Tm,n1 (p.filterMap f)<=n1 p
 | []=>Rat.le_refl
 |t::p=>by
  have h1:=OG hf p;have h2:=qB t.1;rw[Kbl];cases h:f t with
  |none=>simp only[n1];grind
  |some s=>simp only[n1,hf t s h];grind
theorem Ir(p:List Tm)(v:Nat)(n:Int):n1 (aZ p v n)<=n1 p:=OG (fun t s h=>by
 split at h
 ·cases h;rfl
 ·cases h) p
theorem DX{D:Nat}{p:List Tm}(h:Dn D p)(v:Nat)(n:Int):Dn D (aZ p v n):=fun t ht=>by obtain⟨s,hs,_,rfl⟩:=tw ht;exact h s hs
theorem ac5(p:List Tm)(v n:Nat):n1 (gH p v n)<=n1 p:=by
 unfold gH;split
 ·exact Rat.le_refl
 ·have h:=Az p [(1,cM v n)];have e:n1 [((1:Rat),cM v n)]=1:=by simp only[n1,dQ];grind
  rw[e,Rat.mul_one]at h;exact h
theorem ac6{D:Nat}{p:List Tm}(h:Dn D p)(v n:Nat):Dn D (gH p v n):=by
 unfold gH;split
 ·exact h
 ·have h1:Dn 1 [((1:Rat),cM v n)]:=fun t ht=>by rw[KaL.1 ht];exact⟨1,by show(1:Rat)*((1:Nat):Rat)=((1:Int):Rat);decide+kernel⟩
  have:=AA h h1
  rwa[KbF]at this
theorem ahB(p q:List Tm):n1 (fV p q)<=n1 p+n1 q:=by
 have h1:=Ep p (lj q);have h2:n1 (lj q)<=n1 q:=by
  rw[Dh];have:=xB (-1,[]) q;have e:dQ (-1)=1:=by decide+kernel
  rw[e,Kdl]at this;exact this
 unfold fV;grind
theorem ahC{D:Nat}{p q:List Tm}(hp:Dn D p)(hq:Dn D q):Dn D (fV p q):=by
 refine Er p _ hp ?_;rw[Dh];have:=z9 (D':=1) (t:=(-1,[])) ⟨-1,by decide+kernel⟩ hq
 rwa[KbF]at this
theorem XB.wW{E:Nat}{p q:List Tm}:XB E p->XB E q->XB E (FW.fV p q):=fun hp ⟨K,h⟩=>hp.s6 ⟨_,xK h⟩
theorem XB.m9{E:Nat}{p:List Tm}(h:XB E p)(v:Nat)(n:Int):XB E (FW.aZ p v n):=let⟨K,h⟩:=h;⟨K,qJ h v n⟩
theorem akX{m:List Int}{x:Int}(h:x∈m):∃i,eN m i=x:=by obtain⟨i,hi,rfl⟩:=Ka8 h;exact⟨i,by simp[eN,hi]⟩
theorem XB.c8{E:Nat}{r:List Tm}{v n d:Nat}(h:XB E r)(hv:v<64)(hn:n<=E):XB E (FW.c8 r v n d):=by
 obtain⟨K,h⟩:=h;have h1:=qJ h v n;refine⟨K+2,fun t ht=>?_⟩;have h2:=(SE (n:=n-d) h1 hv).1 t ht;refine⟨h2.c,⟨h2.m.len,h2.m.lo,fun x hx=>?_⟩,h2.l⟩;obtain⟨i,rfl⟩:=akX hx;obtain⟨s,hs,he⟩:=Df (show t∈gH (FW.aZ r v n) v (n-d)from ht);rw[he];have hb:=((h1 s hs).m.eN i).2;split
 ·rename_i e;subst e;rw[xH hs];omega
 ·omega
structure DV(a b E:Nat)(q r:List Tm):Prop where
 d:∃D N:Nat,0<D/\0<N/\nl D<=a/\nl N<=b/\Dn D q/\Dn D r/\n1 q<=(N:Rat)/\n1 r<=(N:Rat)
 xq:XB E q
 xr:XB E r
theorem DV.start{a b E:Nat}{r:List Tm}(h:SZ a b E r):DV a b E [] r:=by obtain⟨⟨D,N,h1,h2,h3,h4,h5,h6⟩,hx⟩:=h;refine⟨⟨D,N,h1,h2,h3,h4,(fun t ht=>by cases ht),h5,?_,h6⟩,⟨0,PB.nil _ _⟩,hx⟩;exact KbX (lP r) h6
theorem DV.q{a b E:Nat}{q r:List Tm}(h:DV a b E q r):SZ a b E q:=let⟨⟨D,N,h1,h2,h3,h4,h5,_,h7,_⟩,hx,_⟩:=h;⟨⟨D,N,h1,h2,h3,h4,h5,h7⟩,hx⟩
theorem DV.r{a b E:Nat}{q r:List Tm}(h:DV a b E q r):SZ a b E r:=let⟨⟨D,N,h1,h2,h3,h4,_,h6,_,h8⟩,_,hx⟩:=h;⟨⟨D,N,h1,h2,h3,h4,h6,h8⟩,hx⟩
theorem DV.step{a b E a' b' E':Nat}{q r g:List Tm}{v n d:Nat}(h:DV a b E q r)(hg:SZ a' b' E' g)(hv:v<64)(hn:n<=E):DV (a+a') (b+b'+2) (E+E') (gJ q r g v n d) (ej r g v n d):=by
 obtain⟨⟨D,N,h1,h2,h3,h4,h5,h6,h7,h8⟩,hxq,FP⟩:=h;obtain⟨⟨D',N',g1,g2,g3,g4,g5,g6⟩,gx⟩:=hg;have e1:=gV D' D;have e2:=gV N' N;have e3:=vD (N'*N) (N'*N);have cq:=Ir g v d;have cr:=Ir r v n;have bq:n1 (c8 r v n d)<=n1 r:=KbX (ac5 _ _ _) cr;have bD:Dn D (c8 r v n d):=ac6 (DX h6 v n) v (n-d);have xb:=FP.c8 (d:=d) hv hn;have n0:(0:Rat)<=(N:Rat):=KbX (lP r) h8;have n0':(0:Rat)<=(N':Rat):=KbX (lP g) g6;have Bc:(1:Rat)<=(N':Rat):=by have:=rL (show 1<=N' from g2);simpa using this
 have p1:n1 (aZ g v d)<=(N':Rat):=KbX cq g6;have p2:n1 (c8 r v n d)<=(N:Rat):=KbX bq h8;have m0:((N'*N+N'*N:Nat):Rat)=(N':Rat)*N+(N':Rat)*N:=by rw[Rat.natCast_add,Kb9]
 have NG:∀ {x y X Y:Rat},0<=x->0<=y->x<=X->y<=Y->x*y<=X*Y:=fun {x y X Y} hx hy h1 h2=>
  KbX (Kbk h1 hy) (Kbt h2 (KbX hx h1))
 refine⟨⟨D'*D,N'*N+N'*N,Kce g1 h1,by have:=Kce g2 h2;omega,by omega,by omega,?_,?_,?_,?_⟩,?_,?_⟩
 ·exact Er _ _ (AA (DX g5 v d) h5) (bD.dvd (Kdi _ _))
 ·refine ahC (AA (DX g5 v d) h6) ?_;have:=AA bD g5
  rwa[KaU]at this
 ·have s1:=Ep (Q4 (aZ g v d) q) (c8 r v n d);have s2:=Az (aZ g v d) q;have s3:=NG (lP _) (lP q) p1 h7;have s4:(N:Rat)<=(N':Rat)*N:=by have:=Kbk Bc n0;rwa[Kdl]at this
  rw[m0];unfold gJ;grind
 ·have s1:=ahB (Q4 (aZ g v d) r) (Q4 (c8 r v n d) g);have s2:=Az (aZ g v d) r;have s3:=NG (lP _) (lP r) p1 h8;have s4:=Az (c8 r v n d) g;have s5:=NG (lP _) (lP g) p2 g6;rw[m0];unfold ej;grind
 ·have:=((gx.m9 v d).mA hxq)
  rw[KbQ]at this;obtain⟨K,xb⟩:=xb;exact this.s6 ⟨K,xb.mono (Kac _) (by omega)⟩
 ·have:=((gx.m9 v d).mA FP)
  rw[KbQ]at this;exact this.wW (xb.mA gx)
theorem DV.steps{a b E a' b' E':Nat}{f g:List Tm}{v d:Nat}(hf:SZ a b E f)(nf:az f)(hg:SZ a' b' E' g)(ng:az g)(hv:v<64):∀k,DV (a+k*a') (b+k*(b'+2)) (E+k*E') (aD g v d f k).1 (aD g v d f k).2
 |0=>by rw[KbI,KbI,KbI];exact DV.start hf
 | k+1=>by
  have ih:=DV.steps (d:=d) hf nf hg ng hv k;have hn:(Q3 (aD g v d f k).2 v).toNat<=E+k*E':=by
   obtain⟨K,hx⟩:=ih.xr;by_cases h0:(aD g v d f k).2=[]
   ·rw[h0];simp[Q3]
   ·have:=(oI hx h0 v).2;omega
  have:=ih.step (n:=(Q3 (aD g v d f k).2 v).toNat) (d:=d) hg hv hn;rw[show a+(k+1)*a'=a+k*a'+a' by rw[KaF];omega,show b+(k+1)*(b'+2)=b+k*(b'+2)+b'+2 by rw[KaF];omega,show E+(k+1)*E'=E+k*E'+E' by rw[KaF];omega];exact this
theorem Is:∀(B:Nat)(l:List Nat),l.Nodup->(∀x∈l,x<B)->l.length<=B
 |0,l,_,h=>by
  cases l with
  |nil=>simp
  |cons x l=>exact absurd (h x (by simp)) (by omega)
 | B+1,l,hn,h=>by
  by_cases hB:B∈l
  ·have ih:=Is B (l.erase B) (hn.erase B) (fun x hx=>by have h1:=(hn.mem_erase_iff).1 hx;have:=h x h1.2;have:=h1.1;omega);rw[List.length_erase_of_mem hB]at ih;omega
  ·have:=Is B l hn (fun x hx=>by have h1:=h x hx;have:x≠B:=fun e=>hB (e▸hx);omega);omega
def pP(E:Nat):Nat->List Int->Nat
 |0,_=>0
 |w+1,m=>(eN m w).toNat*(E+1)^w+pP E w m
theorem DY{E:Nat}{m:List Int}(h:∀i,0<=eN m i/\eN m i<=E):∀w,pP E w m<(E+1)^w
 |0=>by simp[pP]
 |w+1=>by
  have ih:=DY h w;have h1:=h w;have h2:(eN m w).toNat*(E+1)^w<=E*(E+1)^w:=Kaf _ (by omega);have h3:(E+1)^(w+1)=E*(E+1)^w+(E+1)^w:=by rw[KbB,KaU,KaF,KcW]
  rw[pP,h3];omega
theorem Ob{E:Nat}{a b:List Int}(ha:∀i,0<=eN a i/\eN a i<=E)(hb:∀i,0<=eN b i/\eN b i<=E):∀w,pP E w a=pP E w b->∀i,i<w->eN a i=eN b i
 |0,_,i,hi=>by omega
 | w+1,h,i,hi=>by
  have l1:=DY ha w;have l2:=DY hb w;rw[pP,pP]at h;have hp:0<(E+1)^w:=KbN (by omega);have hm:(eN a w).toNat=(eN b w).toNat:=by
   have e1:((eN a w).toNat*(E+1)^w+pP E w a)/(E+1)^w=(eN a w).toNat:=by rw[KaU,Nat.mul_add_div hp,Kcc l1,KaS]
   have e2:((eN b w).toNat*(E+1)^w+pP E w b)/(E+1)^w=(eN b w).toNat:=by rw[KaU,Nat.mul_add_div hp,Kcc l2,KaS]
   rw[<-e1,<-e2,h]
  rw[hm]at h;by_cases e:i=w
  ·subst e;have:=ha i;have:=hb i;omega
  ·exact Ob ha hb w (by omega) i (by omega)
theorem ZW{p:List Tm}{K E w:Nat}(hb:PB K E p)(hn:az p)(hm:ML w p):p.length<=(E+1)^w:=by
 have key:(p.map fun t=>pP E w t.2).Nodup:=by
  have hs:=hn.s;clear hn;induction p with
  |nil=>simp
  | cons t p ih=>
   rw[Kbd,List.nodup_cons];refine⟨fun eo=>?_,ih (fun s hs=>hb s (by simp[hs])) (fun s hs=>hm s (by simp[hs])) hs.2⟩;obtain⟨s,gD,e⟩:=KaE.1 eo;have h1:=hs.1 s gD;have bt:=hb t (by simp);have bs:=hb s (by simp[gD]);have hi:=Ob (fun i=>bt.m.eN i) (fun i=>bs.m.eN i) w e.symm;have:t.2=s.2:=pF bt.l bs.l fun i=>by
    by_cases hiw:i<w
    ·exact hi i hiw
    ·rw[fA (by have:=hm t (by simp);omega),fA (by have:=hm s (by simp[gD]);omega)]
   rw[this,zX]at h1;exact absurd h1 (by omega)
 have:=Is ((E+1)^w) _ key (fun x hx=>by obtain⟨t,ht,rfl⟩:=KaE.1 hx;exact DY (fun i=>(hb t ht).m.eN i) w)
 rwa[KaV]at this
theorem SZ.F3:SZ 1 1 0 (dm 1):=by
 have e:dm 1=[(1,[])]:=by decide+kernel
 rw[e];refine⟨⟨1,1,by omega,by omega,by rw[jV];omega,by rw[jV];omega,fun t ht=>?_,?_⟩,2,fun t ht=>?_⟩
 ·rw[KaL.1 ht];exact⟨1,by show(1:Rat)*((1:Nat):Rat)=((1:Int):Rat);decide+kernel⟩
 ·decide+kernel
 ·rw[KaL.1 ht];exact⟨by decide+kernel,⟨by simp,by simp,by simp⟩,by simp⟩
theorem SZ.y9{a b E:Nat}{p:List Tm}(h:SZ a b E p):∀n,SZ (1+n*a) (1+n*b) (n*E) (FW.cy p n)
 |0=>by rw[KbI,KbI,KbI];exact SZ.F3
 |n+1=>by have:=(SZ.y9 h n).mA h;rw[show 1+n*a+a=1+(n+1)*a by rw[KaF];omega,show 1+n*b+b=1+(n+1)*b by rw[KaF];omega,show n*E+E=(n+1)*E by rw[KaF];omega]at this;exact this
theorem SZ.m9{a b E:Nat}{p:List Tm}(h:SZ a b E p)(v:Nat)(n:Int):SZ a b E (FW.aZ p v n):=by obtain⟨⟨D,N,h1,h2,h3,h4,h5,h6⟩,hx⟩:=h;exact⟨⟨D,N,h1,h2,h3,h4,DX h5 v n,KbX (Ir p v n) h6⟩,hx.m9 v n⟩
theorem ML.y9{w:Nat}{p:List Tm}(h:ML w p):∀n,ML w (FW.cy p n)
 |0=>fun t ht=>by
  have e:dm 1=[(1,[])]:=by decide+kernel
  have Xh:t∈dm 1:=ht;rw[e]at Xh;rw[KaL.1 Xh];simp
 |n+1=>(ML.y9 h n).mA h
theorem ML.top{p:List Tm}{K E v:Nat}(hb:PB K E p)(h:ML (v+1) p)(n:Int):ML v (FW.aZ p v n):=fun t ht=>by
 have h1:=h.m9 v n t ht;have h2:=xH ht;have h3:=(qJ hb v n t ht).l;by_cases e:t.2.length=v+1
 ·exfalso;have hv:v<t.2.length:=by omega
  rw[fj hv]at h2;apply h3;rw[Ka4,e,Nat.add_sub_cancel,Kam hv,h2]
 ·omega
end Go.FW
