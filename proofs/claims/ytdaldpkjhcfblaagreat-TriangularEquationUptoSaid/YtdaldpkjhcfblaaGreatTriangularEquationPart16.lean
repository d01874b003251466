/- Part 16 of the proof of TriangularEquation: TR9, TR10, TR4, TRB, FwRI, FwRJ. Own lemmas; no conditions. -/
import Derived.Test.YtdaldpkjhcfblaaGreatTriangularEquationPart15
set_option maxHeartbeats 1000000
set_option linter.unusedSimpArgs false
set_option linter.unusedVariables false
set_option linter.unnecessarySimpa false
set_option maxRecDepth 100000
namespace Go.Proofs.YtdaldpkjhcfblaaGreat
open Go Go.FW
def dvO(g:List Tm)(v d:Nat):Nat->List Tm->List Tm->Nat->Option (List Tm×List Tm×Nat)
 |0,q,r,k=>some (q,r,k)
 |f+1,q,r,k=>
  if r=[]∨Q8 r v<d then some (q,r,k)
  else if Qaf (dvQ q r g v (Q8 r v).toNat d)=true∨Qaf (dvR r g v (Q8 r v).toNat d)=true then none
  else dvO g v d f (dvQ q r g v (Q8 r v).toNat d) (dvR r g v (Q8 r v).toNat d) (k+1)
abbrev PV.dv:Option (List Tm×List Tm×Nat)->PV
 |some (q,r,n)=>.tup [PV.poly q,PV.poly r,.int .i64 n,.int .i64 0]
 |none=>.tup [PV.poly [],PV.poly [],.int .i64 0,.int .i64 4]
theorem Q4p:PV.dv none= .tup [PV.poly [],PV.poly [],.int .i64 0,.int .i64 4]:=rfl
theorem Q4q{q r:List Tm}{n:Nat}:PV.dv (some (q,r,n))= .tup [PV.poly q,PV.poly r,.int .i64 n,.int .i64 0]:=rfl
theorem Qlq(g:List Tm)(v d:Nat):∀(f:Nat)(q r:List Tm)(k:Nat),Qe8 g v d f q r k=PV.dv (dvO g v d f q r k)
 |0,q,r,k=>rfl
 | f+1,q,r,k=>by
  rw[Qe8,dvO];split
  ·rfl
  ·split
   ·rfl
   ·exact Qlq g v d f _ _ _
abbrev RSt:=List Int×List (List Tm)×List Tm
abbrev PV.redn(s:RSt):PV:=.agg [.sl 1 (Qee s.1),.sl 1 (s.2.1.map PV.poly),PV.poly s.2.2]
theorem Qr8:PV.le (.agg [.nilS,.nilS,.nilS]) (PV.redn ([],[],[])):=⟨trivial,trivial,trivial,trivial⟩
def Qb8(i k:Nat)(c:List Tm)(qs:List (List Tm)):List (List Tm):=(List.range qs.length).map fun j=>if i<j/\j<k then Qx (qs.getD j []) c else qs.getD j []
theorem Qc3(i k:Nat)(c:List Tm)(qs:List (List Tm)):(Qb8 i k c qs).length=qs.length:=by simp[Qb8]
theorem Qfj{i k:Nat}{c:List Tm}{qs:List (List Tm)}{j:Nat}(h:j<(Qb8 i k c qs).length):(Qb8 i k c qs)[j]=if i<j/\j<k then Qx (qs.getD j []) c else qs.getD j []:=by simp[Qb8]
theorem Qs6(i:Nat)(c:List Tm)(qs:List (List Tm)):Qb8 i (i+1) c qs=qs:=by refine List.ext_getElem (Qc3 _ _ _ _) fun j h1 h2=>?_;rw[Qfj h1,if_neg (by omega)];simp[h2]
theorem Qv3{i k:Nat}{c:List Tm}{qs:List (List Tm)}(h:i<k):Qb8 i (k+1) c qs=(Qb8 i k c qs).set k (Qx (qs.getD k []) c):=by
 refine List.ext_getElem (by simp[Qc3]) fun j h1 h2=>?_;rw[Qfj h1,List.getElem_set];split
 ·split
  ·subst_vars;rfl
  ·rw[Qfj,if_pos (by omega)]
 ·split
  ·omega
  ·rw[Qfj,if_neg (by omega)]
def Qfe(g:List Tm)(i:Nat)(D:Option (List Tm×List Tm×Nat))(s:RSt):Option RSt:=
 match D with
 |none=>none
 |some (q,r,n)=>if(∃k,k<s.2.1.length/\i<k/\Qaf (Qx (s.2.1.getD k []) (Qax (Qao g) n))=true)then none else some (s.1.set i n,(Qb8 i s.2.1.length (Qax (Qao g) n) s.2.1).set i q,r)
def Qdt(gs:List (List Tm))(D:List Tm->List Tm->Option (List Tm×List Tm×Nat)):Nat->RSt->Option RSt
 |0,s=>some s
 |i+1,s=>(Qfe (gs.getD i []) i (D s.2.2 (gs.getD i [])) s).bind (Qdt gs D i)
def PV.redO:Option RSt->PV
 |some s=>.tup [PV.redn s,.int .i64 0]
 |none=>.tup [PV.redn ([],[],[]),.int .i64 4]
structure Qrm(mul lg pw ini dv mn:Nat)(g:List Tm)(i:Nat)(D:Option (List Tm×List Tm×Nat))(s:RSt):Prop where
 mn:Qd Tryz.prog mn [PV.poly g] (· = .int .i64 (Q3 g))
 dv:Qd Tryz.prog dv [PV.poly s.2.2,PV.poly g,.int .i64 (Q3 g)] (· =PV.dv D)
 ini:Qd Tryz.prog ini [PV.poly g] (· =PV.poly (Qao g))
 pw:∀q r n,D=some (q,r,n)->Qd Tryz.prog pw [PV.poly (Qao g),.int .i64 n] (· =PV.poly (Qax (Qao g) n))
 mul:∀q r n,D=some (q,r,n)->∀k,k<s.2.1.length->i<k->Qd Tryz.prog mul [PV.poly (s.2.1.getD k []),PV.poly (Qax (Qao g) n)] (· =PV.poly (Qx (s.2.1.getD k []) (Qax (Qao g) n)))
 lg:∀q r n,D=some (q,r,n)->∀k,k<s.2.1.length->i<k->Qd Tryz.prog lg [PV.poly (Qx (s.2.1.getD k []) (Qax (Qao g) n))] (· = .bool (Qaf (Qx (s.2.1.getD k []) (Qax (Qao g) n))))
theorem mvS{fr:Fr}{hp:HP}(β δ:Nat){hb:HB}(_:hp β=some hb)(hδ:hp δ=none)(h2:2000000<=δ)(hY:isY β=false)(hne:β≠δ):Wk fr hp (mvF β δ fr) (mvH β δ hp):=Qaq9 β δ hδ h2 hY hne
abbrev Qpp(n:Nat)(r:List Tm):PV:=.rag [.mso 2000002 0 n,.mso 2000003 0 n,PV.poly r]
def c8:SFn:=⟨104,[.cell 4 3 true,.t 5],.seq (.rg (.o none (.alloc 4 3 29 (.agg [.nilS,.nilS,.nilS]))<|
 .o none (.mv 5 (.c (.int .i64 0))) .nil))<| .seq (.seq (.rg (.o none (.mv 14 (.t 0))<|
 .o none (.call (some 15) false (.c (.fn 34 [] [])) [(.t 14)])<|
 .o none (.un 16 .not (.t 15)) .nil))<| .cond (.t 16) (.seq (.rg (.o none (.bld 17 [.nilS,.nilS,.nilS] [])<|
 .o none (.st 3 (.t 4) (.t 17))<|
 .o none (.mv 5 (.c (.int .i64 1))) .nil))<| .ret) (.skip))<| .seq (.seq (.rg (.o none (.mv 18 (.t 1))<|
 .o none (.call (some 19) false (.c (.fn 20 [] [])) [(.t 18)])<|
 .o none (.un 20 .not (.t 19)) .nil))<| .cond (.t 20) (.seq (.rg (.o none (.bld 21 [.nilS,.nilS,.nilS] [])<|
 .o none (.st 3 (.t 4) (.t 21))<|
 .o none (.mv 5 (.c (.int .i64 15))) .nil))<| .ret) (.skip))<| .seq (.rg (.o none (.mv 22 (.t 1))<|
 .o none (.len 23 (.t 22))<|
 .o none (.mv 25 (.t 1))<|
 .o none (.len 26 (.t 25))<|
 .o none (.mv 28 (.t 0))<|
 .br (.o none (.mk 24 1 8 3 (.int .i64 0) (.t 23) (.t 23))<| .wk<|
 .br (.o none (.mk 27 1 24 23 .nilS (.t 26) (.t 26))<| .wk<| .wk<|
 .o none (.bld 29 [.nilS,.nilS,.nilS] [(0,1,(.t 24)),(1,1,(.t 27)),(2,1,(.t 28))])<|
 .o none (.alloc 6 3 29 (.agg [.nilS,.nilS,.nilS]))<| .wk<| .wk<|
 .o none (.st 3 (.t 6) (.t 29)) .nil) (.o none (.alloc 6 3 29 (.agg [.nilS,.nilS,.nilS]))<| .wk<| .wk<|
 .o none (.mk 27 1 24 23 .nilS (.t 26) (.t 26))<| .wk<| .wk<|
 .o none (.bld 29 [.nilS,.nilS,.nilS] [(0,1,(.t 24)),(1,1,(.t 27)),(2,1,(.t 28))])<|
 .o none (.st 3 (.t 6) (.t 29)) .nil)) (.br (.o none (.mk 27 1 24 23 .nilS (.t 26) (.t 26))<| .wk<| .wk<|
 .br (.o none (.mk 24 1 8 3 (.int .i64 0) (.t 23) (.t 23))<| .wk<|
 .o none (.bld 29 [.nilS,.nilS,.nilS] [(0,1,(.t 24)),(1,1,(.t 27)),(2,1,(.t 28))])<|
 .o none (.alloc 6 3 29 (.agg [.nilS,.nilS,.nilS]))<| .wk<| .wk<|
 .o none (.st 3 (.t 6) (.t 29)) .nil) (.o none (.alloc 6 3 29 (.agg [.nilS,.nilS,.nilS]))<| .wk<| .wk<|
 .o none (.mk 24 1 8 3 (.int .i64 0) (.t 23) (.t 23))<| .wk<|
 .o none (.bld 29 [.nilS,.nilS,.nilS] [(0,1,(.t 24)),(1,1,(.t 27)),(2,1,(.t 28))])<|
 .o none (.st 3 (.t 6) (.t 29)) .nil)) (.o none (.alloc 6 3 29 (.agg [.nilS,.nilS,.nilS]))<| .wk<| .wk<|
 .br (.o none (.mk 24 1 8 3 (.int .i64 0) (.t 23) (.t 23))<| .wk<|
 .o none (.mk 27 1 24 23 .nilS (.t 26) (.t 26))<| .wk<| .wk<|
 .o none (.bld 29 [.nilS,.nilS,.nilS] [(0,1,(.t 24)),(1,1,(.t 27)),(2,1,(.t 28))])<|
 .o none (.st 3 (.t 6) (.t 29)) .nil) (.o none (.mk 27 1 24 23 .nilS (.t 26) (.t 26))<| .wk<| .wk<|
 .o none (.mk 24 1 8 3 (.int .i64 0) (.t 23) (.t 23))<| .wk<|
 .o none (.bld 29 [.nilS,.nilS,.nilS] [(0,1,(.t 24)),(1,1,(.t 27)),(2,1,(.t 28))])<|
 .o none (.st 3 (.t 6) (.t 29)) .nil)))))<| .seq (.seq (.rg (.o none (.mv 30 (.t 1))<|
 .o none (.len 31 (.t 30))<|
 .o none (.bin 32 .sub false (.t 31) (.c (.int .i64 1)))<|
 .o none (.mv 7 (.t 32)) .nil))<| .block 0 (.loop (.seq (.seq (.rg (.o none (.mv 33 (.t 7))<|
 .o none (.bin 34 .geq false (.t 33) (.c (.int .i64 0))) .nil))<| .cond (.t 34) (.skip) (.exit 0))<| .seq (.block 1 (.seq (.rg (.o none (.fld 38 2 (.t 6))<|
 .o none (.ld 39 1 false (.t 38))<|
 .o none (.mv 40 (.t 1))<|
 .o none (.mv 41 (.t 7))<|
 .o none (.idx 42 1 (.t 40) (.t 41))<|
 .o none (.ld 43 1 false (.t 42))<|
 .o none (.mv 44 (.t 1))<|
 .o none (.mv 45 (.t 7))<|
 .o none (.idx 46 1 (.t 44) (.t 45))<|
 .o none (.ld 47 1 false (.t 46))<|
 .o none (.call (some 48) true (.c (.fn 16 [] [])) [(.t 47)])<|
 .o none (.call (some 49) true (.c (.fn 35 [] [])) [(.t 39),(.t 43),(.t 48)])<|
 .o none (.mv 37 (.t 49))<|
 .o none (.ext 50 (.t 37) 0)<|
 .o none (.ext 51 (.t 37) 1)<|
 .o none (.ext 52 (.t 37) 2)<|
 .o none (.ext 53 (.t 37) 3)<|
 .o none (.mv 8 (.t 50))<|
 .o none (.mv 9 (.t 51))<|
 .o none (.mv 10 (.t 52))<|
 .o none (.mv 11 (.t 53)) .nil))<| .seq (.seq (.rg (.o none (.mv 54 (.t 11))<|
 .o none (.bin 55 .neq false (.t 54) (.c (.int .i64 0))) .nil))<| .cond (.t 55) (.seq (.rg (.o none (.bld 56 [.nilS,.nilS,.nilS] [])<|
 .o none (.mv 57 (.t 11))<|
 .o none (.st 3 (.t 4) (.t 56))<|
 .o none (.mv 5 (.t 57)) .nil))<| .ret) (.skip))<| .seq (.rg (.o none (.mv 58 (.t 1))<|
 .o none (.mv 59 (.t 7))<|
 .o none (.idx 60 1 (.t 58) (.t 59))<|
 .o none (.ld 61 1 false (.t 60))<|
 .o none (.call (some 62) false (.c (.fn 37 [] [])) [(.t 61)])<|
 .o none (.mv 63 (.t 10))<|
 .o none (.call (some 64) false (.c (.fn 36 [] [])) [(.t 62),(.t 63)])<|
 .o none (.mv 12 (.t 64)) .nil))<| .seq (.seq (.rg (.o none (.mv 65 (.t 7))<|
 .o none (.bin 66 .add false (.t 65) (.c (.int .i64 1)))<|
 .o none (.mv 13 (.t 66)) .nil))<| .block 2 (.loop (.seq (.seq (.rg (.o none (.mv 67 (.t 13))<|
 .o none (.mv 68 (.t 1))<|
 .o none (.len 69 (.t 68))<|
 .o none (.bin 70 .lss false (.t 67) (.t 69)) .nil))<| .cond (.t 70) (.skip) (.exit 2))<| .seq (.block 3 (.seq (.rg (.o none (.fld 73 1 (.t 6))<|
 .o none (.ld 74 1 false (.t 73))<|
 .o none (.mv 75 (.t 13))<|
 .o none (.fld 76 1 (.t 6))<|
 .o none (.ld 77 1 false (.t 76))<|
 .o none (.mv 78 (.t 13))<|
 .o none (.idx 79 1 (.t 77) (.t 78))<|
 .o none (.ld 80 1 false (.t 79))<|
 .o none (.mv 81 (.t 12))<|
 .o none (.call (some 82) true (.c (.fn 12 [] [])) [(.t 80),(.t 81)])<|
 .o none (.idx 83 1 (.t 74) (.t 75))<|
 .o none (.st 1 (.t 83) (.t 82)) .nil))<| .seq (.rg (.o none (.fld 84 1 (.t 6))<|
 .o none (.ld 85 1 false (.t 84))<|
 .o none (.mv 86 (.t 13))<|
 .o none (.idx 87 1 (.t 85) (.t 86))<|
 .o none (.ld 88 1 false (.t 87))<|
 .o none (.call (some 89) false (.c (.fn 38 [] [])) [(.t 88)]) .nil))<| .cond (.t 89) (.seq (.rg (.o none (.bld 90 [.nilS,.nilS,.nilS] [])<|
 .o none (.st 3 (.t 4) (.t 90))<|
 .o none (.mv 5 (.c (.int .i64 4))) .nil))<| .ret) (.skip)))<| .rg (.o none (.mv 71 (.t 13))<|
 .o none (.bin 72 .add false (.t 71) (.c (.int .i64 1)))<|
 .o none (.mv 13 (.t 72)) .nil))))<| .rg (.o none (.fld 91 1 (.t 6))<|
 .o none (.ld 92 1 false (.t 91))<|
 .o none (.mv 93 (.t 7))<|
 .o none (.fld 94 0 (.t 6))<|
 .o none (.mv 96 (.t 7))<|
 .o none (.mv 97 (.t 8))<|
 .o none (.mv 98 (.t 10))<|
 .o none (.mv 99 (.t 9))<|
 .o none (.idx 100 1 (.t 92) (.t 93))<|
 .br (.o none (.ld 95 1 false (.t 94))<|
 .o none (.st 1 (.t 100) (.t 97))<|
 .o none (.idx 101 1 (.t 95) (.t 96))<|
 .o none (.st 1 (.t 101) (.t 98))<|
 .o none (.fld 102 2 (.t 6))<|
 .o none (.st 1 (.t 102) (.t 99)) .nil) (.o none (.st 1 (.t 100) (.t 97))<|
 .o none (.ld 95 1 false (.t 94))<|
 .o none (.idx 101 1 (.t 95) (.t 96))<|
 .o none (.st 1 (.t 101) (.t 98))<|
 .o none (.fld 102 2 (.t 6))<|
 .o none (.st 1 (.t 102) (.t 99)) .nil))))<| .rg (.o none (.mv 35 (.t 7))<|
 .o none (.bin 36 .sub false (.t 35) (.c (.int .i64 1)))<|
 .o none (.mv 7 (.t 36)) .nil))))<| .seq (.rg (.o none (.ld 103 3 true (.t 6))<| .wk<|
 .o none (.st 3 (.t 4) (.t 103))<|
 .o none (.mv 5 (.c (.int .i64 0))) .nil))<| .ret⟩
theorem Qar3:Qe Tryz.prog Tryz.f8=some c8.strip:=by kernel_rfl
theorem Q13{p:List Tm}{gs:List (List Tm)}{D:List Tm->List Tm->Option (List Tm×List Tm×Nat)}{G:Nat->RSt->Prop}(hl:gs.length<=100)
  (hr:Qd Tryz.prog 34 [PV.poly p] (· = .bool true)) (hrc:Qd Tryz.prog 20 [PV.polys gs] (· = .bool true))
  (h0:G gs.length (List.replicate gs.length 0,List.replicate gs.length [],p))
  (hG:∀i (h:i<gs.length) s,G (i+1) s->Qrm 12 38 36 37 35 16 gs[i] i (D s.2.2 gs[i]) s/\∀s',Qfe gs[i] i (D s.2.2 gs[i]) s=some s'->G i s'):
  Qd Tryz.prog 8 [PV.poly p,PV.polys gs] (· =PV.redO (Qdt gs D gs.length (List.replicate gs.length 0,List.replicate gs.length [],p))):=by
 refine Qrc Qj Tryz.func8 rfl Qar3 (by simp[c8]) fun C hP=>?_;simp only[c8];refine Sz0 ?_;refine Qa hP hr rfl rfl rfl ?_;refine Sz0 ?_;refine Qa hP hrc rfl rfl rfl ?_;refine Sz0 ?_;have hmA:rnP (mvN 27 2000003) (.nst 2000001 3 29 [.agg [.nilS,.nilS,.nilS]])=(.nst 2000001 3 29 [.agg [.nilS,.nilS,.nilS]]):=rfl;have hmB:rnP (mvN 24 2000002) (.nst 2000001 3 29 [.agg [.nilS,.nilS,.nilS]])=(.nst 2000001 3 29 [.agg [.nilS,.nilS,.nilS]]):=rfl;have hkA:Qaq 27 (.nst 2000001 3 29 [.agg [.nilS,.nilS,.nilS]])=(.nst 2000001 3 29 [.agg [.nilS,.nilS,.nilS]]):=rfl;have hkB:Qaq 24 (.nst 2000001 3 29 [.agg [.nilS,.nilS,.nilS]])=(.nst 2000001 3 29 [.agg [.nilS,.nilS,.nilS]]):=rfl;refine Qtx (by repeat (first|exact Qu|exact Qn|exact Qo|exact Qk|exact Qp|apply Qm|apply Qt|apply Qw|apply Q5|apply Q6|apply Qi|apply Qz)) [(6,6),(24,29),(2000001,2000001)] [6,24,27] (fun J hp=>J 6= .np 2000001 0 0/\J 2000001= .nst 2000001 3 29 [Qpp gs.length p]/\hp 4=some ⟨3,29,[.agg [.nilS,.nilS,.nilS]],false⟩/\hp 2000001=some ⟨3,29,[],false⟩/\
  hp 2000002=some ⟨1,3,Qee (List.replicate gs.length 0),false⟩/\hp 2000003=some ⟨1,23,(List.replicate gs.length ([]:List Tm)).map PV.poly,false⟩) ?_ ?_
 ·repeat' first
   |refine Qfq ?_ ?_
   |refine Qh0 (mvS 24 2000002 rfl rfl (by omega) rfl (by omega)) ?_
   |refine Qh0 (mvS 27 2000003 rfl rfl (by omega) rfl (by omega)) ?_
   |refine Qh0 (Qxf gs.length 2000003 23 _ _ rfl) ?_
   |refine Qh0 (mvS 6 2000001 rfl rfl (by omega) rfl (by omega)) ?_
   |refine Qh0 (Q9h (γ:=2000001) (e:=3) (ty:=29) (xs:=[.agg [.nilS,.nilS,.nilS]]) (fz:=false) rfl (by simp) (by omega) (fun x hx=>by rw[List.mem_singleton.1 hx];rfl)) ?_
   |rw[Q4o rfl (by omega)]
   |simp+decide (disch:=first|omega|rfl|(simp+decide only[go_sem,↓reduceIte,hmA,hmB,hkA,hkB]<;>rfl)|fail) only[go_sem,↓reduceIte,hmA,hmB,hkA,hkB]
  all_goals
   refine Qln ?_;refine Sz0 ?_;trivial
 rintro J0 h0' ⟨j6,jn,b4,b1,b2,b3⟩;refine Sz1 j6 ?_;obtain⟨Z,hZ⟩:∃Z,Qdt gs D gs.length (List.replicate gs.length 0,List.replicate gs.length [],p)=Z:=⟨_,rfl⟩
 rw[hZ];refine Qo7 (by repeat (first|exact Qu|exact Qn|exact Qo|exact Qk|exact Qp|apply Qm|apply Qt|apply Qw|apply Q5|apply Q6|apply Qi|apply Qz)) [(5,13),(33,102),(2000001,2000001)] [] (fun q J hp=>∃(i:Nat)(s:RSt),q=i/\i<=gs.length/\G i s/\Qdt gs D i s=Z/\s.1.length=gs.length/\s.2.1.length=gs.length/\J 6= .np 2000001 0 0/\J 7= .int .i64 ((i:Int)-1)/\J 2000001= .nst 2000001 3 29 [Qpp gs.length s.2.2]/\hp 4=some ⟨3,29,[.agg [.nilS,.nilS,.nilS]],false⟩/\hp 2000001=some ⟨3,29,[],false⟩/\
  hp 2000002=some ⟨1,3,Qee s.1,false⟩/\hp 2000003=some ⟨1,23,s.2.1.map PV.poly,false⟩) gs.length ?_ ?_
 ·refine⟨gs.length,_,rfl,Nat.le_refl _,h0,hZ,by simp,by simp,?_⟩;refine Sz6 j6 jn b4 b1 b2 b3 ?_;trivial
 rintro q J h ⟨i,⟨pw,qs,rest⟩,hq,hi,hGi,hgo,hl1,hl2,i6,i7,inn,c4,c1,c2,c3⟩;obtain rfl:i=q:=hq.symm;clear hq;simp only at hl1 hl2 inn c2 c3;cases i with
 | zero=>
  refine Sz6 i6 i7 inn c1 c2 c3 ?_;refine Q4f 103 2 [2000002,2000003] (p:=Qpp gs.length rest) Tz0 (D:=PV.redn (pw,qs,rest)) ?_ ?_ rfl ?_
  ·intro c hc;simp only[List.mem_cons,List.not_mem_nil,or_false]at hc;rcases hc with rfl|rfl|rfl
   ·simp only[okD,isY];simp
   ·simp only[okD,isY];simp
   ·trivial
  ·show PV.agg [dsn _ h 2 (.mso 2000002 0 _),dsn _ h 2 (.mso 2000003 0 _),_]=_;simp only[dsn,c2,c3,List.drop_zero];rw[List.take_of_length_le (by simp;omega),List.take_of_length_le (by simp;omega)]
  refine Vz1 c4 ?_;refine Q34 (Wk.refl _ _) ?_;refine Qhk ?_;refine Sz0 ?_;exact Qf9 (by rw[<-hgo];rfl) rfl rfl (Q2 _) (Q2 _)
 | succ i=>
  obtain⟨hS,hN⟩:=hG i (by omega) _ hGi;have hig:i<gs.length:=by omega
  have e7:((i+1:Nat):Int)-1=(i:Int):=by omega
  rw[e7]at i7;have hgd:gs.getD i []=gs[i]:=by simp[hig]
  rw[Qdt,hgd]at hgo;simp only at hS hN hgo;generalize hg:gs[i]=g at *
  generalize hD:D rest g=d at *
  have k1:=hS.mn;have k2:=hS.dv;have d0:decide ((0:Int)<=(i:Int))=true:=decide_eq_true (by omega);refine Sz6 i6 i7 inn c1 hg d0 ?_;refine Qa hP k1 rfl rfl rfl ?_;refine Sz6 i6 i7 inn c1 hg d0 ?_;refine Qa hP k2 rfl rfl rfl ?_;cases d with
  |none=>rw[Q4p];refine Sz4 i6 i7 inn c4 ?_;rw[Qaz rfl];refine Sz4 i6 i7 inn c4 ?_;refine Qkk ?_;refine Qhk ?_;refine Sz0 ?_;exact Qf9 (by rw[<-hgo];rfl) rfl rfl Qr8 (Q2 _)
  | some d=>
   obtain⟨q,r,n⟩:=d;have k3:=hS.ini;have k4:=hS.pw q r n rfl;rw[Q4q];refine Sz5 i6 i7 inn c1 hg ?_;rw[Qaz rfl];refine Sz5 i6 i7 inn c1 hg ?_;refine Qa hP k3 rfl rfl rfl ?_;refine Sz5 i6 i7 inn c1 hg ?_;refine Qa hP k4 rfl rfl rfl ?_;refine Sz5 i6 i7 inn c1 hg ?_;have hN:=hN;have k5:=hS.mul q r n rfl;have k6:=hS.lg q r n rfl;simp only at k5 k6;generalize hc:Qax (Qao g) n=c at *
   have hst:Qfe g i (some (q,r,n)) (pw,qs,rest)=if(∃k,k<qs.length/\i<k/\Qaf (Qx (qs.getD k []) c)=true)then none else some (pw.set i n,(Qb8 i qs.length c qs).set i q,r):=by rw[<-hc];rfl
   rw[hst]at hN hgo;clear hst;refine Qo7 (by repeat (first|exact Qu|exact Qn|exact Qo|exact Qk|exact Qp|apply Qm|apply Qt|apply Qw|apply Q5|apply Q6|apply Qi|apply Qz)) [(5,6),(13,13),(67,90),(2000001,2000001)] [] (fun q' J hp=>∃k,q'=gs.length-k/\i<k/\k<=gs.length/\(∀j,j<qs.length->i<j->j<k->Qaf (Qx (qs.getD j []) c)=false)/\J 6= .np 2000001 0 0/\J 13= .int .i64 (k:Nat)/\J 2000001= .nst 2000001 3 29 [Qpp gs.length rest]/\hp 4=some ⟨3,29,[.agg [.nilS,.nilS,.nilS]],false⟩/\hp 2000001=some ⟨3,29,[],false⟩/\
    hp 2000002=some ⟨1,3,Qee pw,false⟩/\hp 2000003=some ⟨1,23,(Qb8 i k c qs).map PV.poly,false⟩) (gs.length-(i+1)) ?_ ?_
   ·refine⟨i+1,rfl,by omega,by omega,fun j _ h1 h2=>by omega,?_⟩;refine Sz8 i6 i7 inn c4 c1 c2 c3 @Qs6 ?_;trivial
   rintro _ J1 h1 ⟨k,rfl,hik,hkl,hbad,m6,m13,mn,b4,b1,b2,b3⟩;by_cases hkg:k<gs.length
   ·have d1:decide ((k:Int)<(gs.length:Int))=true:=decide_eq_true (by omega);have hkq:k<qs.length:=by omega
    have k5:=k5 k hkq hik;have k6:=k6 k hkq hik;have hkM:k<(Qb8 i k c qs).length:=by rw[Qc3];exact hkq
    have hMk:(Qb8 i k c qs)[k]=qs.getD k []:=by rw[Qfj,if_neg (by omega)]
    have hM2:=Qv3 (c:=c) (qs:=qs) hik;have hbn:Qaf (Qx (qs.getD k []) c)=false->∀j,j<qs.length->i<j->j<k+1->Qaf (Qx (qs.getD j []) c)=false:=fun h j h1 h2 h3=>by
     by_cases e:j=k
     ·subst e;exact h
     ·exact hbad j h1 h2 (by omega)
    have hby:Qaf (Qx (qs.getD k []) c)=true->∃k,k<qs.length/\i<k/\Qaf (Qx (qs.getD k []) c)=true:=fun h=>⟨k,hkq,hik,h⟩
    generalize qs.getD k []=x at *
    generalize Qb8 i k c qs=M at *
    have hkM2:k<(M.set k (Qx x c)).length:=by rw[List.length_set];exact hkM
    have hMs:(M.set k (Qx x c))[k]=Qx x c:=by simp
    refine Sz6 m6 m13 mn b1 b3 d1 ?_;rw[Qr6 hkM,hMk];refine Sz5 m6 m13 mn b1 b3 ?_;refine Qa hP k5 rfl rfl rfl ?_;refine Sz5 m6 m13 mn b1 b3 ?_;rw[Qr7 hkM];refine Sz4 m6 m13 mn b1 ?_;rw[Qr6 hkM2,hMs];refine Sz4 m6 m13 mn b1 ?_;refine Qa hP k6 rfl rfl rfl ?_;cases hlg:Qaf (Qx x c)
    ·refine Sz1 m13 ?_;refine Qmz (gs.length-(k+1)) (by omega) ⟨k+1,rfl,by omega,by omega,hbn hlg,?_⟩;rw[hM2];refine Sz5 m6 mn b4 b1 b2 ?_;trivial
    ·rw[if_pos (hby hlg)]at hgo;refine Sz2 m13 b4 ?_;refine Qkk ?_;refine Qhk ?_;refine Sz0 ?_;exact Qf9 (by rw[<-hgo];rfl) rfl rfl Qr8 (Q2 _)
   ·obtain rfl:k=gs.length:=by omega
    have d1:decide ((gs.length:Int)<(gs.length:Int))=false:=decide_eq_false (by omega);have hnb:¬∃k,k<qs.length/\i<k/\Qaf (Qx (qs.getD k []) c)=true:=fun⟨j,h1,h2,h3⟩=>by rw[hbad j h1 h2 (by omega)]at h3;cases h3
    rw[if_neg hnb]at hN hgo;rw[hl2]at hN hgo;have hiM:i<(Qb8 i gs.length c qs).length:=by rw[Qc3];omega
    have hip:i<pw.length:=by omega
    have hML:=Qc3 i gs.length c qs;have hG':=hN _ rfl;have hgo':Qdt gs D i (pw.set i n,(Qb8 i gs.length c qs).set i q,r)=Z:=hgo;clear hN hgo;generalize Qb8 i gs.length c qs=M at *
    refine Sz8 i7 m6 m13 mn b1 b2 b3 d1 ?_;simp (disch:=decide) only[Qpn,Qs2,Qfx,Qvp];refine Qfq ?_ ?_
    all_goals
     repeat' first
      |rw[Qr7 hiM]
      |rw[Q0g hip]
      |simp+decide (disch:=first|omega|rfl|(simp+decide only[go_sem,↓reduceIte,i7,m6,mn,b1,b2,b3]<;>rfl)|fail) only[go_sem,↓reduceIte,i7,m6,mn,b1,b2,b3]
     refine Qmz i (by omega) ⟨i,_,rfl,by omega,hG',hgo',by simp[hl1],by simp[hML,hl2],?_⟩;refine Sz3 m6 b4 b1 ?_;trivial
theorem Qaas{i k:Nat}{c q:List Tm}{qs:List (List Tm)}(h:i<k):((Qb8 i k c qs).set i q).set k (Qx (qs.getD k []) c)=(Qb8 i (k+1) c qs).set i q:=by rw[Qv3 h,List.set_comm _ _ (by omega)]
def c9:SFn:=⟨102,[.cell 4 3 true,.t 5],.seq (.rg (.o none (.alloc 4 3 29 (.agg [.nilS,.nilS,.nilS]))<|
 .o none (.mv 5 (.c (.int .i64 0))) .nil))<| .seq (.seq (.rg (.o none (.mv 13 (.t 0))<|
 .o none (.call (some 14) false (.c (.fn 19 [] [])) [(.t 13)])<|
 .o none (.un 15 .not (.t 14)) .nil))<| .cond (.t 15) (.seq (.rg (.o none (.bld 16 [.nilS,.nilS,.nilS] [])<|
 .o none (.st 3 (.t 4) (.t 16))<|
 .o none (.mv 5 (.c (.int .i64 1))) .nil))<| .ret) (.skip))<| .seq (.seq (.rg (.o none (.mv 17 (.t 1))<|
 .o none (.call (some 18) false (.c (.fn 11 [] [])) [(.t 17)])<|
 .o none (.un 19 .not (.t 18)) .nil))<| .cond (.t 19) (.seq (.rg (.o none (.bld 20 [.nilS,.nilS,.nilS] [])<|
 .o none (.st 3 (.t 4) (.t 20))<|
 .o none (.mv 5 (.c (.int .i64 15))) .nil))<| .ret) (.skip))<| .seq (.rg (.o none (.mv 21 (.t 1))<|
 .o none (.len 22 (.t 21))<|
 .o none (.mv 24 (.t 1))<|
 .o none (.len 25 (.t 24))<|
 .o none (.mv 27 (.t 0))<|
 .br (.o none (.mk 23 1 8 3 (.int .i64 0) (.t 22) (.t 22))<| .wk<|
 .br (.o none (.mk 26 1 24 23 .nilS (.t 25) (.t 25))<| .wk<| .wk<|
 .o none (.bld 28 [.nilS,.nilS,.nilS] [(0,1,(.t 23)),(1,1,(.t 26)),(2,1,(.t 27))])<|
 .o none (.alloc 6 3 29 (.agg [.nilS,.nilS,.nilS]))<| .wk<| .wk<|
 .o none (.st 3 (.t 6) (.t 28)) .nil) (.o none (.alloc 6 3 29 (.agg [.nilS,.nilS,.nilS]))<| .wk<| .wk<|
 .o none (.mk 26 1 24 23 .nilS (.t 25) (.t 25))<| .wk<| .wk<|
 .o none (.bld 28 [.nilS,.nilS,.nilS] [(0,1,(.t 23)),(1,1,(.t 26)),(2,1,(.t 27))])<|
 .o none (.st 3 (.t 6) (.t 28)) .nil)) (.br (.o none (.mk 26 1 24 23 .nilS (.t 25) (.t 25))<| .wk<| .wk<|
 .br (.o none (.mk 23 1 8 3 (.int .i64 0) (.t 22) (.t 22))<| .wk<|
 .o none (.bld 28 [.nilS,.nilS,.nilS] [(0,1,(.t 23)),(1,1,(.t 26)),(2,1,(.t 27))])<|
 .o none (.alloc 6 3 29 (.agg [.nilS,.nilS,.nilS]))<| .wk<| .wk<|
 .o none (.st 3 (.t 6) (.t 28)) .nil) (.o none (.alloc 6 3 29 (.agg [.nilS,.nilS,.nilS]))<| .wk<| .wk<|
 .o none (.mk 23 1 8 3 (.int .i64 0) (.t 22) (.t 22))<| .wk<|
 .o none (.bld 28 [.nilS,.nilS,.nilS] [(0,1,(.t 23)),(1,1,(.t 26)),(2,1,(.t 27))])<|
 .o none (.st 3 (.t 6) (.t 28)) .nil)) (.o none (.alloc 6 3 29 (.agg [.nilS,.nilS,.nilS]))<| .wk<| .wk<|
 .br (.o none (.mk 23 1 8 3 (.int .i64 0) (.t 22) (.t 22))<| .wk<|
 .o none (.mk 26 1 24 23 .nilS (.t 25) (.t 25))<| .wk<| .wk<|
 .o none (.bld 28 [.nilS,.nilS,.nilS] [(0,1,(.t 23)),(1,1,(.t 26)),(2,1,(.t 27))])<|
 .o none (.st 3 (.t 6) (.t 28)) .nil) (.o none (.mk 26 1 24 23 .nilS (.t 25) (.t 25))<| .wk<| .wk<|
 .o none (.mk 23 1 8 3 (.int .i64 0) (.t 22) (.t 22))<| .wk<|
 .o none (.bld 28 [.nilS,.nilS,.nilS] [(0,1,(.t 23)),(1,1,(.t 26)),(2,1,(.t 27))])<|
 .o none (.st 3 (.t 6) (.t 28)) .nil)))))<| .seq (.seq (.rg (.o none (.mv 29 (.t 1))<|
 .o none (.len 30 (.t 29))<|
 .o none (.bin 31 .sub false (.t 30) (.c (.int .i64 1)))<|
 .o none (.mv 7 (.t 31)) .nil))<| .block 0 (.loop (.seq (.seq (.rg (.o none (.mv 32 (.t 7))<|
 .o none (.bin 33 .geq false (.t 32) (.c (.int .i64 0))) .nil))<| .cond (.t 33) (.skip) (.exit 0))<| .seq (.block 1 (.seq (.rg (.o none (.fld 37 2 (.t 6))<|
 .o none (.ld 38 1 false (.t 37))<|
 .o none (.mv 39 (.t 1))<|
 .o none (.mv 40 (.t 7))<|
 .o none (.idx 41 1 (.t 39) (.t 40))<|
 .o none (.ld 42 1 false (.t 41))<|
 .o none (.mv 43 (.t 1))<|
 .o none (.mv 44 (.t 7))<|
 .o none (.idx 45 1 (.t 43) (.t 44))<|
 .o none (.ld 46 1 false (.t 45))<|
 .o none (.call (some 47) true (.c (.fn 40 [] [])) [(.t 46)])<|
 .o none (.call (some 48) true (.c (.fn 39 [] [])) [(.t 38),(.t 42),(.t 47)])<|
 .o none (.mv 36 (.t 48))<|
 .o none (.ext 49 (.t 36) 0)<|
 .o none (.ext 50 (.t 36) 1)<|
 .o none (.ext 51 (.t 36) 2)<|
 .o none (.ext 52 (.t 36) 3)<|
 .o none (.mv 8 (.t 49))<|
 .o none (.mv 9 (.t 50))<|
 .o none (.mv 10 (.t 51))<|
 .o none (.mv 11 (.t 52)) .nil))<| .seq (.seq (.rg (.o none (.mv 53 (.t 11))<|
 .o none (.bin 54 .neq false (.t 53) (.c (.int .i64 0))) .nil))<| .cond (.t 54) (.seq (.rg (.o none (.bld 55 [.nilS,.nilS,.nilS] [])<|
 .o none (.mv 56 (.t 11))<|
 .o none (.st 3 (.t 4) (.t 55))<|
 .o none (.mv 5 (.t 56)) .nil))<| .ret) (.skip))<| .seq (.rg (.o none (.fld 57 0 (.t 6))<|
 .o none (.ld 58 1 false (.t 57))<|
 .o none (.mv 59 (.t 7))<|
 .o none (.fld 60 1 (.t 6))<|
 .o none (.mv 62 (.t 7))<|
 .o none (.mv 63 (.t 10))<|
 .o none (.mv 64 (.t 8))<|
 .o none (.mv 65 (.t 9))<|
 .o none (.idx 66 1 (.t 58) (.t 59))<|
 .br (.o none (.ld 61 1 false (.t 60))<|
 .o none (.st 1 (.t 66) (.t 63))<|
 .o none (.idx 67 1 (.t 61) (.t 62))<|
 .o none (.st 1 (.t 67) (.t 64))<|
 .o none (.fld 68 2 (.t 6))<|
 .o none (.st 1 (.t 68) (.t 65)) .nil) (.o none (.st 1 (.t 66) (.t 63))<|
 .o none (.ld 61 1 false (.t 60))<|
 .o none (.idx 67 1 (.t 61) (.t 62))<|
 .o none (.st 1 (.t 67) (.t 64))<|
 .o none (.fld 68 2 (.t 6))<|
 .o none (.st 1 (.t 68) (.t 65)) .nil)))<| .seq (.rg (.o none (.mv 69 (.t 7))<|
 .o none (.bin 70 .add false (.t 69) (.c (.int .i64 1)))<|
 .o none (.mv 12 (.t 70)) .nil))<| .block 2 (.loop (.seq (.seq (.rg (.o none (.mv 71 (.t 12))<|
 .o none (.mv 72 (.t 1))<|
 .o none (.len 73 (.t 72))<|
 .o none (.bin 74 .lss false (.t 71) (.t 73)) .nil))<| .cond (.t 74) (.skip) (.exit 2))<| .seq (.block 3 (.seq (.rg (.o none (.fld 77 1 (.t 6))<|
 .o none (.ld 78 1 false (.t 77))<|
 .o none (.mv 79 (.t 12))<|
 .o none (.fld 80 1 (.t 6))<|
 .o none (.ld 81 1 false (.t 80))<|
 .o none (.mv 82 (.t 12))<|
 .o none (.idx 83 1 (.t 81) (.t 82))<|
 .o none (.ld 84 1 false (.t 83))<|
 .o none (.mv 85 (.t 1))<|
 .o none (.mv 86 (.t 7))<|
 .o none (.idx 87 1 (.t 85) (.t 86))<|
 .o none (.ld 88 1 false (.t 87))<|
 .o none (.mv 90 (.t 10))<|
 .o none (.call (some 89) true (.c (.fn 14 [] [])) [(.t 88)])<|
 .o none (.call (some 91) true (.c (.fn 13 [] [])) [(.t 89),(.t 90)])<|
 .o none (.call (some 92) true (.c (.fn 30 [] [])) [(.t 84),(.t 91)])<|
 .o none (.idx 93 1 (.t 78) (.t 79))<|
 .o none (.st 1 (.t 93) (.t 92)) .nil))<| .seq (.rg (.o none (.fld 94 1 (.t 6))<|
 .o none (.ld 95 1 false (.t 94))<|
 .o none (.mv 96 (.t 12))<|
 .o none (.idx 97 1 (.t 95) (.t 96))<|
 .o none (.ld 98 1 false (.t 97))<|
 .o none (.call (some 99) false (.c (.fn 41 [] [])) [(.t 98)]) .nil))<| .cond (.t 99) (.seq (.rg (.o none (.bld 100 [.nilS,.nilS,.nilS] [])<|
 .o none (.st 3 (.t 4) (.t 100))<|
 .o none (.mv 5 (.c (.int .i64 4))) .nil))<| .ret) (.skip)))<| .rg (.o none (.mv 75 (.t 12))<|
 .o none (.bin 76 .add false (.t 75) (.c (.int .i64 1)))<|
 .o none (.mv 12 (.t 76)) .nil)))))<| .rg (.o none (.mv 34 (.t 7))<|
 .o none (.bin 35 .sub false (.t 34) (.c (.int .i64 1)))<|
 .o none (.mv 7 (.t 35)) .nil))))<| .seq (.rg (.o none (.ld 101 3 true (.t 6))<| .wk<|
 .o none (.st 3 (.t 4) (.t 101))<|
 .o none (.mv 5 (.c (.int .i64 0))) .nil))<| .ret⟩
theorem Qar4:Qe Tryz.prog Tryz.f9=some c9.strip:=by kernel_rfl
theorem Q60{p:List Tm}{gs:List (List Tm)}{D:List Tm->List Tm->Option (List Tm×List Tm×Nat)}{G:Nat->RSt->Prop}(hl:gs.length<=100)
  (hr:Qd Tryz.prog 19 [PV.poly p] (· = .bool true)) (hrc:Qd Tryz.prog 11 [PV.polys gs] (· = .bool true))
  (h0:G gs.length (List.replicate gs.length 0,List.replicate gs.length [],p))
  (hG:∀i (h:i<gs.length) s,G (i+1) s->Qrm 30 41 13 14 39 40 gs[i] i (D s.2.2 gs[i]) s/\∀s',Qfe gs[i] i (D s.2.2 gs[i]) s=some s'->G i s'):
  Qd Tryz.prog 9 [PV.poly p,PV.polys gs] (· =PV.redO (Qdt gs D gs.length (List.replicate gs.length 0,List.replicate gs.length [],p))):=by
 refine Qrc Qj Tryz.func9 rfl Qar4 (by simp[c9]) fun C hP=>?_;simp only[c9];refine Sz0 ?_;refine Qa hP hr rfl rfl rfl ?_;refine Sz0 ?_;refine Qa hP hrc rfl rfl rfl ?_;refine Sz0 ?_;have hmA:rnP (mvN 26 2000003) (.nst 2000001 3 29 [.agg [.nilS,.nilS,.nilS]])=(.nst 2000001 3 29 [.agg [.nilS,.nilS,.nilS]]):=rfl;have hmB:rnP (mvN 23 2000002) (.nst 2000001 3 29 [.agg [.nilS,.nilS,.nilS]])=(.nst 2000001 3 29 [.agg [.nilS,.nilS,.nilS]]):=rfl;have hkA:Qaq 26 (.nst 2000001 3 29 [.agg [.nilS,.nilS,.nilS]])=(.nst 2000001 3 29 [.agg [.nilS,.nilS,.nilS]]):=rfl;have hkB:Qaq 23 (.nst 2000001 3 29 [.agg [.nilS,.nilS,.nilS]])=(.nst 2000001 3 29 [.agg [.nilS,.nilS,.nilS]]):=rfl;refine Qtx (by repeat (first|exact Qu|exact Qn|exact Qo|exact Qk|exact Qp|apply Qm|apply Qt|apply Qw|apply Q5|apply Q6|apply Qi|apply Qz)) [(6,6),(23,28),(2000001,2000001)] [6,23,26] (fun J hp=>J 6= .np 2000001 0 0/\J 2000001= .nst 2000001 3 29 [Qpp gs.length p]/\hp 4=some ⟨3,29,[.agg [.nilS,.nilS,.nilS]],false⟩/\hp 2000001=some ⟨3,29,[],false⟩/\
  hp 2000002=some ⟨1,3,Qee (List.replicate gs.length 0),false⟩/\hp 2000003=some ⟨1,23,(List.replicate gs.length ([]:List Tm)).map PV.poly,false⟩) ?_ ?_
 ·repeat' first
   |refine Qfq ?_ ?_
   |refine Qh0 (mvS 23 2000002 rfl rfl (by omega) rfl (by omega)) ?_
   |refine Qh0 (mvS 26 2000003 rfl rfl (by omega) rfl (by omega)) ?_
   |refine Qh0 (Qxf gs.length 2000003 23 _ _ rfl) ?_
   |refine Qh0 (mvS 6 2000001 rfl rfl (by omega) rfl (by omega)) ?_
   |refine Qh0 (Q9h (γ:=2000001) (e:=3) (ty:=29) (xs:=[.agg [.nilS,.nilS,.nilS]]) (fz:=false) rfl (by simp) (by omega) (fun x hx=>by rw[List.mem_singleton.1 hx];rfl)) ?_
   |rw[Q4o rfl (by omega)]
   |simp+decide (disch:=first|omega|rfl|(simp+decide only[go_sem,↓reduceIte,hmA,hmB,hkA,hkB]<;>rfl)|fail) only[go_sem,↓reduceIte,hmA,hmB,hkA,hkB]
  all_goals
   refine Qln ?_;refine Sz0 ?_;trivial
 rintro J0 h0' ⟨j6,jn,b4,b1,b2,b3⟩;refine Sz1 j6 ?_;obtain⟨Z,hZ⟩:∃Z,Qdt gs D gs.length (List.replicate gs.length 0,List.replicate gs.length [],p)=Z:=⟨_,rfl⟩
 rw[hZ];refine Qo7 (by repeat (first|exact Qu|exact Qn|exact Qo|exact Qk|exact Qp|apply Qm|apply Qt|apply Qw|apply Q5|apply Q6|apply Qi|apply Qz)) [(5,12),(32,100),(2000001,2000001)] [] (fun q J hp=>∃(i:Nat)(s:RSt),q=i/\i<=gs.length/\G i s/\Qdt gs D i s=Z/\s.1.length=gs.length/\s.2.1.length=gs.length/\J 6= .np 2000001 0 0/\J 7= .int .i64 ((i:Int)-1)/\J 2000001= .nst 2000001 3 29 [Qpp gs.length s.2.2]/\hp 4=some ⟨3,29,[.agg [.nilS,.nilS,.nilS]],false⟩/\hp 2000001=some ⟨3,29,[],false⟩/\
  hp 2000002=some ⟨1,3,Qee s.1,false⟩/\hp 2000003=some ⟨1,23,s.2.1.map PV.poly,false⟩) gs.length ?_ ?_
 ·refine⟨gs.length,_,rfl,Nat.le_refl _,h0,hZ,by simp,by simp,?_⟩;refine Sz6 j6 jn b4 b1 b2 b3 ?_;trivial
 rintro q J h ⟨i,⟨pw,qs,rest⟩,hq,hi,hGi,hgo,hl1,hl2,i6,i7,inn,c4,c1,c2,c3⟩;obtain rfl:i=q:=hq.symm;clear hq;simp only at hl1 hl2 inn c2 c3;cases i with
 | zero=>
  refine Sz6 i6 i7 inn c1 c2 c3 ?_;refine Q4f 101 2 [2000002,2000003] (p:=Qpp gs.length rest) Tz0 (D:=PV.redn (pw,qs,rest)) ?_ ?_ rfl ?_
  ·intro c hc;simp only[List.mem_cons,List.not_mem_nil,or_false]at hc;rcases hc with rfl|rfl|rfl
   ·simp only[okD,isY];simp
   ·simp only[okD,isY];simp
   ·trivial
  ·show PV.agg [dsn _ h 2 (.mso 2000002 0 _),dsn _ h 2 (.mso 2000003 0 _),_]=_;simp only[dsn,c2,c3,List.drop_zero];rw[List.take_of_length_le (by simp;omega),List.take_of_length_le (by simp;omega)]
  refine Vz1 c4 ?_;refine Q34 (Wk.refl _ _) ?_;refine Qhk ?_;refine Sz0 ?_;exact Qf9 (by rw[<-hgo];rfl) rfl rfl (Q2 _) (Q2 _)
 | succ i=>
  obtain⟨hS,hN⟩:=hG i (by omega) _ hGi;have hig:i<gs.length:=by omega
  have e7:((i+1:Nat):Int)-1=(i:Int):=by omega
  rw[e7]at i7;have hgd:gs.getD i []=gs[i]:=by simp[hig]
  rw[Qdt,hgd]at hgo;simp only at hS hN hgo;generalize hg:gs[i]=g at *
  generalize hD:D rest g=d at *
  have k1:=hS.mn;have k2:=hS.dv;have d0:decide ((0:Int)<=(i:Int))=true:=decide_eq_true (by omega);refine Sz6 i6 i7 inn c1 hg d0 ?_;refine Qa hP k1 rfl rfl rfl ?_;refine Sz6 i6 i7 inn c1 hg d0 ?_;refine Qa hP k2 rfl rfl rfl ?_;cases d with
  |none=>rw[Q4p];refine Sz4 i6 i7 inn c4 ?_;rw[Qaz rfl];refine Sz4 i6 i7 inn c4 ?_;refine Qkk ?_;refine Qhk ?_;refine Sz0 ?_;exact Qf9 (by rw[<-hgo];rfl) rfl rfl Qr8 (Q2 _)
  | some d=>
   obtain⟨q,r,n⟩:=d;have k3:=hS.ini;have k4:=hS.pw q r n rfl;have k5:=hS.mul q r n rfl;have k6:=hS.lg q r n rfl;simp only at k5 k6;rw[Q4q];refine Sz5 i6 i7 inn c1 hg ?_;rw[Qaz rfl];generalize hc:Qax (Qao g) n=c at *
   have hst:Qfe g i (some (q,r,n)) (pw,qs,rest)=if(∃k,k<qs.length/\i<k/\Qaf (Qx (qs.getD k []) c)=true)then none else some (pw.set i n,(Qb8 i qs.length c qs).set i q,r):=by rw[<-hc];rfl
   rw[hst]at hN hgo;clear hst;have hiq:i<qs.length:=by omega
   have hip:i<pw.length:=by omega
   have hw:(pw.set i (n:Int)).length=gs.length:=by rw[List.length_set];exact hl1
   refine Sz7 i6 i7 inn c1 c2 c3 hg ?_;refine Qtx (by repeat (first|exact Qk|apply Qz|apply Qt|apply Qw|apply Q5|apply Q6|apply Qi)) [(6,6),(57,68),(2000001,2000001)] [] (fun J hp=>J 6= .np 2000001 0 0/\J 2000001= .nst 2000001 3 29 [Qpp gs.length r]/\hp 4=some ⟨3,29,[.agg [.nilS,.nilS,.nilS]],false⟩/\hp 2000001=some ⟨3,29,[],false⟩/\
    hp 2000002=some ⟨1,3,Qee (pw.set i (n:Int)),false⟩/\hp 2000003=some ⟨1,23,(qs.set i q).map PV.poly,false⟩) ?_ ?_
   ·refine Qfq ?_ ?_
    all_goals
     repeat' first
      |rw[Qr7 hiq]
      |rw[Q0g hip]
      |simp+decide (disch:=first|omega|rfl|(simp+decide only[go_sem,↓reduceIte,i6,i7,inn,c1,c2,c3]<;>rfl)|fail) only[go_sem,↓reduceIte,i6,i7,inn,c1,c2,c3]
     refine Qln ?_;refine Sz6 i6 inn c1 c2 c3 c4 ?_
     try trivial
   rintro J3 h3 ⟨o6,on,o4,o1,o2,o3⟩;refine Sz2 i7 o6 ?_;refine Qo7 (by repeat (first|exact Qu|exact Qn|exact Qo|exact Qk|exact Qp|apply Qm|apply Qt|apply Qw|apply Q5|apply Q6|apply Qi|apply Qz)) [(5,6),(12,12),(71,100),(2000001,2000001)] [] (fun q' J hp=>∃k,q'=gs.length-k/\i<k/\k<=gs.length/\(∀j,j<qs.length->i<j->j<k->Qaf (Qx (qs.getD j []) c)=false)/\J 6= .np 2000001 0 0/\J 12= .int .i64 (k:Nat)/\J 2000001= .nst 2000001 3 29 [Qpp gs.length r]/\hp 4=some ⟨3,29,[.agg [.nilS,.nilS,.nilS]],false⟩/\hp 2000001=some ⟨3,29,[],false⟩/\
    hp 2000002=some ⟨1,3,Qee (pw.set i (n:Int)),false⟩/\hp 2000003=some ⟨1,23,((Qb8 i k c qs).set i q).map PV.poly,false⟩) (gs.length-(i+1)) ?_ ?_
   ·refine⟨i+1,rfl,by omega,by omega,fun j _ h1 h2=>by omega,?_⟩;refine Sz7 o6 on o4 o1 o2 o3 @Qs6 ?_
    try trivial
   rintro _ J1 h1 ⟨k,rfl,hik,hkl,hbad,m6,m13,mn,b4,b1,b2,b3⟩;by_cases hkg:k<gs.length
   ·have d1:decide ((k:Int)<(gs.length:Int))=true:=decide_eq_true (by omega);have hkq:k<qs.length:=by omega
    have k5:=k5 k hkq hik;have k6:=k6 k hkq hik;have hkM:k<((Qb8 i k c qs).set i q).length:=by rw[List.length_set,Qc3];exact hkq
    have hMk:((Qb8 i k c qs).set i q)[k]=qs.getD k []:=by rw[List.getElem_set_ne (by omega),Qfj,if_neg (by omega)]
    have hM2:=Qaas (c:=c) (qs:=qs) (q:=q) hik;have hbn:Qaf (Qx (qs.getD k []) c)=false->∀j,j<qs.length->i<j->j<k+1->Qaf (Qx (qs.getD j []) c)=false:=fun h j h1 h2 h3=>by
     by_cases e:j=k
     ·subst e;exact h
     ·exact hbad j h1 h2 (by omega)
    have hby:Qaf (Qx (qs.getD k []) c)=true->∃k,k<qs.length/\i<k/\Qaf (Qx (qs.getD k []) c)=true:=fun h=>⟨k,hkq,hik,h⟩
    generalize qs.getD k []=x at *
    generalize(Qb8 i k c qs).set i q=M at *
    have hkM2:k<(M.set k (Qx x c)).length:=by rw[List.length_set];exact hkM
    have hMs:(M.set k (Qx x c))[k]=Qx x c:=by simp
    refine Sz6 m6 m13 mn b1 b3 d1 ?_;rw[Qr6 hkM,hMk];refine Sz7 i7 hg m6 m13 mn b1 b3 ?_;refine Qa hP k3 rfl rfl rfl ?_;refine Sz7 i7 hg m6 m13 mn b1 b3 ?_;refine Qa hP k4 rfl rfl rfl ?_;refine Sz7 i7 hg m6 m13 mn b1 b3 ?_;refine Qa hP k5 rfl rfl rfl ?_;refine Sz5 m6 m13 mn b1 b3 ?_;rw[Qr7 hkM];refine Sz4 m6 m13 mn b1 ?_;rw[Qr6 hkM2,hMs];refine Sz4 m6 m13 mn b1 ?_;refine Qa hP k6 rfl rfl rfl ?_;cases hlg:Qaf (Qx x c)
    ·refine Sz1 m13 ?_;refine Qmz (gs.length-(k+1)) (by omega) ⟨k+1,rfl,by omega,by omega,hbn hlg,?_⟩;rw[hM2];refine Sz5 m6 mn b4 b1 b2 ?_
     try trivial
    ·rw[if_pos (hby hlg)]at hgo;refine Sz2 m13 b4 ?_;refine Qkk ?_;refine Qhk ?_;refine Sz0 ?_;exact Qf9 (by rw[<-hgo];rfl) rfl rfl Qr8 (Q2 _)
   ·obtain rfl:k=gs.length:=by omega
    have d1:decide ((gs.length:Int)<(gs.length:Int))=false:=decide_eq_false (by omega);have hnb:¬∃k,k<qs.length/\i<k/\Qaf (Qx (qs.getD k []) c)=true:=fun⟨j,h1,h2,h3⟩=>by rw[hbad j h1 h2 (by omega)]at h3;cases h3
    rw[if_neg hnb]at hN hgo;rw[hl2]at hN hgo;have hML:=Qc3 i gs.length c qs;have hG':=hN _ rfl;have hgo':Qdt gs D i (pw.set i n,(Qb8 i gs.length c qs).set i q,r)=Z:=hgo;clear hN hgo;generalize Qb8 i gs.length c qs=M at *
    refine Sz8 i7 m6 m13 mn b1 b2 b3 d1 ?_;simp (disch:=decide) only[Qpn,Qs2,Qfx,Qvp];refine Qmz i (by omega) ⟨i,_,rfl,by omega,hG',hgo',by simp[hl1],by simp[hML,hl2],?_⟩;refine Sz6 m6 mn b4 b1 b2 b3 ?_
    try trivial
def chB:Int->List (List RTm)->Bool
 |_,[]=>true
 |last,l::ls=>Qcu l&&decide (last<Q3 (l.map RTm.tm))&&chB (Q3 (l.map RTm.tm)) ls
def Qgi(ls:List (List RTm))(i:Nat):Int:=if i=0 then -1 else Q3 ((ls.getD (i-1) default).map RTm.tm)
theorem Q14{ls:List (List RTm)}{i:Nat}(h:i<ls.length):chB (Qgi ls i) (ls.drop i)=(Qcu ls[i]&&decide (Qgi ls i<Q3 (ls[i].map RTm.tm))&&chB (Qgi ls (i+1)) (ls.drop (i+1))):=by
 rw[List.drop_eq_getElem_cons h,chB];have:Qgi ls (i+1)=Q3 (ls[i].map RTm.tm):=by simp[Qgi,h]
 rw[this]
def RwP(ls:List (List RTm)):Prop:=ls.length<=100/\∀l∈ls,(∀t∈l,RB 1048576 t)/\l.length<=1048576/\(Qcu l=true->PB 1048577 1048576 (l.map RTm.tm)/\Nrm (l.map RTm.tm))
theorem Qak5{ls:List (List RTm)}(hb:RwP ls):Qd Tryz.prog 20 [.sl 1 (ls.map PV.rpoly)] (· = .bool (chB (-1) ls)):=by
 obtain⟨hl,hb⟩:=hb;refine Qf Qj Tryz.func20 rfl Qapy (by simp[c20]) fun C hP=>?_;simp only[c20];refine Sz0 ?_;refine Qy (by repeat (first|exact Qu|exact Qn|exact Qo|exact Qk|exact Qp|apply Qm|apply Qt|apply Qw|apply Q5|apply Q6|apply Qi|apply Qz)) [(2,3),(5,5),(8,23)] [] (fun m J hp=>∃i,m=ls.length-i/\i<=ls.length/\chB (Qgi ls i) (ls.drop i)=chB (-1) ls/\J 3= .int .i64 (Qgi ls i)/\J 8= .int .i64 (i:Nat)) ls.length ?_ ?_
 ·refine⟨0,rfl,by omega,rfl,?_⟩;refine Sz0 ?_
  try (first|rfl|exact⟨rfl,rfl⟩)
 rintro _ J h ⟨i,rfl,hi,hch,j3,j8⟩;by_cases c1:i<ls.length
 ·have d1:decide ((i:Int)<(ls.length:Int))=true:=decide_eq_true (by omega);obtain⟨b1,b2,b3⟩:=hb _ (List.getElem_mem c1);have hr:=Qs1 b1 (by omega) (by omega) (by omega:_<2^40);have hok:=fun h=>Qqs b1 h;have hcd:=Q14 c1;have hla:Qgi ls (i+1)=Q3 (ls[i].map RTm.tm):=by simp[Qgi,c1]
  rw[hch]at hcd;generalize hx:ls[i]=x at *
  generalize Qgi ls i=la at *
  cases ho:Qcu x
  ·rw[ho]at hr hcd;refine Sz4 j3 j8 d1 hx ?_;refine Qa hP hr rfl rfl rfl ?_;refine Sz4 j3 j8 d1 hx ?_;exact Qc (by rw[hcd];rfl) rfl
  ·rw[ho]at hr hcd;obtain⟨e1,_⟩:=hok ho;obtain⟨b4,b5⟩:=b3 ho;have hm:=Qea b4 (by rw[List.length_map];omega:_<=2^36);rw[<-e1]at hm;generalize Q3 (x.map RTm.tm)=mv at *
   refine Sz4 j3 j8 d1 hx ?_;refine Qa hP hr rfl rfl rfl ?_;refine Sz4 j3 j8 d1 hx ?_;refine Qa hP hm rfl rfl rfl ?_;by_cases c2:la<mv
   ·have q2:decide (mv<=la)=false:=decide_eq_false (by omega);rw[decide_eq_true c2]at hcd;simp only[Bool.true_and]at hcd;refine Sz5 j3 j8 d1 hx q2 ?_;refine Qa hP hm rfl rfl rfl ?_;refine Sz5 j3 j8 d1 hx q2 ?_;refine Qh (ls.length-(i+1)) (by omega) ⟨i+1,rfl,by omega,hcd.symm,?_⟩;rw[hla];refine Sz0 ?_
    try (first|rfl|trivial|exact⟨rfl,rfl⟩)
   ·have q2:decide (mv<=la)=true:=decide_eq_true (by omega);rw[decide_eq_false c2]at hcd;refine Sz5 j3 j8 d1 hx q2 ?_;exact Qc (by rw[hcd];rfl) rfl
 ·obtain rfl:i=ls.length:=by omega
  have d1:decide ((ls.length:Int)<(ls.length:Int))=false:=decide_eq_false (by omega);rw[List.drop_eq_nil_of_le (Nat.le_refl _),chB]at hch;refine Sz3 j3 j8 d1 ?_;exact Qc (by rw[<-hch]) rfl
theorem Qaat{ls:List (List RTm)}(hb:RwP ls):Qd Tryz.prog 11 [.sl 1 (ls.map PV.rpoly)] (· = .bool (chB (-1) ls)):=by
 obtain⟨hl,hb⟩:=hb;refine Qf Qj Tryz.func11 rfl Qap5 (by simp[c11]) fun C hP=>?_;simp only[c11];refine Sz0 ?_;refine Qy (by repeat (first|exact Qu|exact Qn|exact Qo|exact Qk|exact Qp|apply Qm|apply Qt|apply Qw|apply Q5|apply Q6|apply Qi|apply Qz)) [(2,30)] [] (fun m J hp=>∃i,m=ls.length-i/\i<=ls.length/\chB (Qgi ls i) (ls.drop i)=chB (-1) ls/\J 3= .int .i64 (Qgi ls i)/\J 4= .int .i64 (i:Nat)) ls.length ?_ ?_
 ·refine⟨0,rfl,by omega,rfl,?_⟩;refine Sz0 ?_
  try (first|rfl|exact⟨rfl,rfl⟩)
 rintro _ J h ⟨i,rfl,hi,hch,j3,j8⟩;by_cases c1:i<ls.length
 ·have d1:decide ((i:Int)<(ls.length:Int))=true:=decide_eq_true (by omega);obtain⟨b1,b2,b3⟩:=hb _ (List.getElem_mem c1);have hr:=Qmg b1 (by omega) (by omega) (by omega:_<2^40);have hok:=fun h=>Qqs b1 h;have hcd:=Q14 c1;have hla:Qgi ls (i+1)=Q3 (ls[i].map RTm.tm):=by simp[Qgi,c1]
  rw[hch]at hcd;generalize hx:ls[i]=x at *
  generalize Qgi ls i=la at *
  cases ho:Qcu x
  ·rw[ho]at hr hcd;refine Sz4 j3 j8 d1 hx ?_;refine Qa hP hr rfl rfl rfl ?_;refine Sz4 j3 j8 d1 hx ?_;exact Qc (by rw[hcd];rfl) rfl
  ·rw[ho]at hr hcd;obtain⟨e1,_⟩:=hok ho;obtain⟨b4,b5⟩:=b3 ho;have hm:=Qmi b4 b5 (by rw[List.length_map];omega:_<=2^36);rw[<-e1]at hm;generalize Q3 (x.map RTm.tm)=mv at *
   refine Sz4 j3 j8 d1 hx ?_;refine Qa hP hr rfl rfl rfl ?_;refine Sz4 j3 j8 d1 hx ?_;refine Qa hP hm rfl rfl rfl ?_;by_cases c2:la<mv
   ·have q2:decide (mv<=la)=false:=decide_eq_false (by omega);rw[decide_eq_true c2]at hcd;simp only[Bool.true_and]at hcd;refine Sz5 j3 j8 d1 hx q2 ?_;refine Qa hP hm rfl rfl rfl ?_;refine Sz5 j3 j8 d1 hx q2 ?_;refine Qh (ls.length-(i+1)) (by omega) ⟨i+1,rfl,by omega,hcd.symm,?_⟩;rw[hla];refine Sz0 ?_
    try (first|rfl|trivial|exact⟨rfl,rfl⟩)
   ·have q2:decide (mv<=la)=true:=decide_eq_true (by omega);rw[decide_eq_false c2]at hcd;refine Sz5 j3 j8 d1 hx q2 ?_;exact Qc (by rw[hcd];rfl) rfl
 ·obtain rfl:i=ls.length:=by omega
  have d1:decide ((ls.length:Int)<(ls.length:Int))=false:=decide_eq_false (by omega);rw[List.drop_eq_nil_of_le (Nat.le_refl _),chB]at hch;refine Sz3 j3 j8 d1 ?_;exact Qc (by rw[<-hch]) rfl
def chV:Int->List (List Tm)->Bool
 |_,[]=>true
 |last,p::ps=>decide (last<Q3 p)&&chV (Q3 p) ps
theorem Qv4(p:List Tm):(p.map toR).map RTm.tm=p:=by rw[List.map_map];exact(List.map_congr_left fun t _=>Qaox t).trans (List.map_id p)
theorem Qxh:∀(gs:List (List Tm))(last:Int),(∀p∈gs,PVd p)->chB last (gs.map (List.map toR))=chV last gs
 | [],_,_=>rfl
 |p::gs,last,h=>by rw[List.map_cons,chB,chV,Qv4,Qpi (h p (by simp)),Bool.true_and,Qxh gs _ fun q hq=>h q (by simp[hq])]
structure PVB(K E:Nat)(p:List Tm):Prop where
 b:PB K E p
 v:PVd p
 l:p.length<=1048576
theorem Q4r{gs:List (List Tm)}{K E:Nat}(hl:gs.length<=100)(h:∀p∈gs,PVB K E p)(hK:K<=1048576)(hE:E<=1048576):RwP (gs.map (List.map toR)):=by
 refine⟨by simpa using hl,fun l hl=>?_⟩;obtain⟨p,hp,rfl⟩:=List.mem_map.1 hl;obtain⟨b,v,len⟩:=h p hp;refine⟨fun t ht=>?_,by rw[List.length_map];exact len,fun _=>?_⟩
 ·obtain⟨s,hs,rfl⟩:=List.mem_map.1 ht;have:=(b s hs).c;exact Q1j (by omega) (by have:=(b s hs).m.len;omega)
 ·rw[Qv4];exact⟨b.mono (by omega) (by omega),v.nrm⟩
theorem Qv5(gs:List (List Tm)):(gs.map (List.map toR)).map PV.rpoly=gs.map PV.poly:=by rw[List.map_map];exact List.map_congr_left fun p _=>Qts p
theorem Q15{gs:List (List Tm)}{K E:Nat}(hl:gs.length<=100)(h:∀p∈gs,PVB K E p)(hK:K<=1048576)(hE:E<=1048576):Qd Tryz.prog 20 [PV.polys gs] (· = .bool (chV (-1) gs)):=by
 have:=Qak5 (Q4r hl h hK hE)
 rwa[Qv5,Qxh _ _ fun p hp=>(h p hp).v]at this
theorem Qv6{gs:List (List Tm)}{K E:Nat}(hl:gs.length<=100)(h:∀p∈gs,PVB K E p)(hK:K<=1048576)(hE:E<=1048576):Qd Tryz.prog 11 [PV.polys gs] (· = .bool (chV (-1) gs)):=by
 have:=Qaat (Q4r hl h hK hE)
 rwa[Qv5,Qxh _ _ fun p hp=>(h p hp).v]at this
theorem Q16{p:List Tm}{K E:Nat}(h:PVB K E p)(hK:K<=1048576):Qd Tryz.prog 34 [PV.poly p] (· = .bool true):=by
 have h':=Qs1 (l:=p.map toR) (k:=max K 1) (fun t ht=>by obtain⟨s,hs,rfl⟩:=List.mem_map.1 ht;have:=(h.b s hs).c;exact Q1j (by omega) (by have:=(h.b s hs).m.len;omega)) (by omega) (by omega) (by rw[List.length_map];have:=h.l;omega)
 rwa[Qts,Qpi h.v]at h'
theorem Qaau{p:List Tm}{K E:Nat}(h:PVB K E p)(hK:K<=1048576):Qd Tryz.prog 19 [PV.poly p] (· = .bool true):=by
 have h':=Qmg (l:=p.map toR) (k:=max K 1) (fun t ht=>by obtain⟨s,hs,rfl⟩:=List.mem_map.1 ht;have:=(h.b s hs).c;exact Q1j (by omega) (by have:=(h.b s hs).m.len;omega)) (by omega) (by omega) (by rw[List.length_map];have:=h.l;omega)
 rwa[Qts,Qpi h.v]at h'
end Go.Proofs.YtdaldpkjhcfblaaGreat
namespace Go.FW
open Go
theorem Qyu{f:Tm->Option Tm}(hf:∀t s,f t=some s->s.1=t.1):∀p:List Tm,n1 (p.filterMap f)<=n1 p
 | []=>Rat.le_refl
 |t::p=>by
  have h1:=Qyu hf p;have h2:=Qdh t.1;rw[List.filterMap_cons];cases h:f t with
  |none=>simp only[n1];grind
  |some s=>simp only[n1,hf t s h];grind
theorem Qty(p:List Tm)(v:Nat)(n:Int):n1 (Qae p v n)<=n1 p:=Qyu (fun t s h=>by
 split at h
 ·cases h;rfl
 ·cases h) p
theorem Qpq{D:Nat}{p:List Tm}(h:Dn D p)(v:Nat)(n:Int):Dn D (Qae p v n):=fun t ht=>by obtain⟨s,hs,_,rfl⟩:=Qfh ht;exact h s hs
theorem Qaav(p:List Tm)(v n:Nat):n1 (Qcn p v n)<=n1 p:=by
 unfold Qcn;split
 ·exact Rat.le_refl
 ·have h:=Qob p [(1,Qbl v n)];have e:n1 [((1:Rat),Qbl v n)]=1:=by simp only[n1,Qdb];grind
  rw[e,Rat.mul_one]at h;exact h
theorem Qaaw{D:Nat}{p:List Tm}(h:Dn D p)(v n:Nat):Dn D (Qcn p v n):=by
 unfold Qcn;split
 ·exact h
 ·have h1:Dn 1 [((1:Rat),Qbl v n)]:=fun t ht=>by rw[List.mem_singleton.1 ht];exact⟨1,by show(1:Rat)*((1:Nat):Rat)=((1:Int):Rat);decide+kernel⟩
  have:=Qoc h h1
  rwa[Nat.mul_one]at this
theorem Qak6(p q:List Tm):n1 (Qgc p q)<=n1 p+n1 q:=by
 have h1:=Qr4 p (Qi2 q);have h2:n1 (Qi2 q)<=n1 q:=by
  rw[Qvz];have:=Qrj (-1,[]) q;have e:Qdb (-1)=1:=by decide+kernel
  rw[e,Rat.one_mul]at this;exact this
 unfold Qgc;grind
theorem Qak7{D:Nat}{p q:List Tm}(hp:Dn D p)(hq:Dn D q):Dn D (Qgc p q):=by
 refine Qr5 p _ hp ?_;rw[Qvz];have:=Qrl (D':=1) (t:=(-1,[])) ⟨-1,by decide+kernel⟩ hq
 rwa[Nat.mul_one]at this
theorem XB.psub{E:Nat}{p q:List Tm}:XB E p->XB E q->XB E (FW.Qgc p q):=fun hp ⟨K,h⟩=>hp.padd ⟨_,Qn5 h⟩
theorem XB.coefN{E:Nat}{p:List Tm}(h:XB E p)(v:Nat)(n:Int):XB E (FW.Qae p v n):=let⟨K,h⟩:=h;⟨K,Qfs h v n⟩
theorem Qaqh{m:List Int}{x:Int}(h:x∈m):∃i,eN m i=x:=by obtain⟨i,hi,rfl⟩:=List.getElem_of_mem h;exact⟨i,by simp[eN,hi]⟩
theorem XB.dvB{E:Nat}{r:List Tm}{v n d:Nat}(h:XB E r)(hv:v<64)(hn:n<=E):XB E (FW.dvB r v n d):=by
 obtain⟨K,h⟩:=h;have h1:=Qfs h v n;refine⟨K+2,fun t ht=>?_⟩;have h2:=(Qpz (n:=n-d) h1 hv).1 t ht;refine⟨h2.c,⟨h2.m.len,h2.m.lo,fun x hx=>?_⟩,h2.l⟩;obtain⟨i,rfl⟩:=Qaqh hx;obtain⟨s,hs,he⟩:=Qpj (show t∈Qcn (FW.Qae r v n) v (n-d)from ht);rw[he];have hb:=((h1 s hs).m.eN i).2;split
 ·rename_i e;subst e;rw[Qjp hs];omega
 ·omega
structure DV(a b E:Nat)(q r:List Tm):Prop where
 d:∃D N:Nat,0<D/\0<N/\nl D<=a/\nl N<=b/\Dn D q/\Dn D r/\n1 q<=(N:Rat)/\n1 r<=(N:Rat)
 xq:XB E q
 xr:XB E r
theorem DV.start{a b E:Nat}{r:List Tm}(h:SZ a b E r):DV a b E [] r:=by obtain⟨⟨D,N,h1,h2,h3,h4,h5,h6⟩,hx⟩:=h;refine⟨⟨D,N,h1,h2,h3,h4,(fun t ht=>by cases ht),h5,?_,h6⟩,⟨0,PB.nil _ _⟩,hx⟩;exact Rat.le_trans (Qdd r) h6
theorem DV.q{a b E:Nat}{q r:List Tm}(h:DV a b E q r):SZ a b E q:=let⟨⟨D,N,h1,h2,h3,h4,h5,_,h7,_⟩,hx,_⟩:=h;⟨⟨D,N,h1,h2,h3,h4,h5,h7⟩,hx⟩
theorem DV.r{a b E:Nat}{q r:List Tm}(h:DV a b E q r):SZ a b E r:=let⟨⟨D,N,h1,h2,h3,h4,_,h6,_,h8⟩,_,hx⟩:=h;⟨⟨D,N,h1,h2,h3,h4,h6,h8⟩,hx⟩
theorem DV.step{a b E a' b' E':Nat}{q r g:List Tm}{v n d:Nat}(h:DV a b E q r)(hg:SZ a' b' E' g)(hv:v<64)(hn:n<=E):DV (a+a') (b+b'+2) (E+E') (dvQ q r g v n d) (dvR r g v n d):=by
 obtain⟨⟨D,N,h1,h2,h3,h4,h5,h6,h7,h8⟩,hxq,hxr⟩:=h;obtain⟨⟨D',N',g1,g2,g3,g4,g5,g6⟩,gx⟩:=hg;have e1:=Qdl D' D;have e2:=Qdl N' N;have e3:=Qny (N'*N) (N'*N);have cq:=Qty g v d;have cr:=Qty r v n;have bq:n1 (dvB r v n d)<=n1 r:=Rat.le_trans (Qaav _ _ _) cr;have bD:Dn D (dvB r v n d):=Qaaw (Qpq h6 v n) v (n-d);have xb:=hxr.dvB (d:=d) hv hn;have n0:(0:Rat)<=(N:Rat):=Rat.le_trans (Qdd r) h8;have n0':(0:Rat)<=(N':Rat):=Rat.le_trans (Qdd g) g6;have hN1:(1:Rat)<=(N':Rat):=by have:=Qs5 (show 1<=N' from g2);simpa using this
 have p1:n1 (Qae g v d)<=(N':Rat):=Rat.le_trans cq g6;have p2:n1 (dvB r v n d)<=(N:Rat):=Rat.le_trans bq h8;have m0:((N'*N+N'*N:Nat):Rat)=(N':Rat)*N+(N':Rat)*N:=by rw[Rat.natCast_add,Rat.natCast_mul]
 have mul_le:∀ {x y X Y:Rat},0<=x->0<=y->x<=X->y<=Y->x*y<=X*Y:=fun {x y X Y} hx hy h1 h2=>
  Rat.le_trans (Rat.mul_le_mul_of_nonneg_right h1 hy) (Rat.mul_le_mul_of_nonneg_left h2 (Rat.le_trans hx h1))
 refine⟨⟨D'*D,N'*N+N'*N,Nat.mul_pos g1 h1,by have:=Nat.mul_pos g2 h2;omega,by omega,by omega,?_,?_,?_,?_⟩,?_,?_⟩
 ·exact Qr5 _ _ (Qoc (Qpq g5 v d) h5) (bD.dvd (Nat.dvd_mul_left _ _))
 ·refine Qak7 (Qoc (Qpq g5 v d) h6) ?_;have:=Qoc bD g5
  rwa[Nat.mul_comm]at this
 ·have s1:=Qr4 (Qx (Qae g v d) q) (dvB r v n d);have s2:=Qob (Qae g v d) q;have s3:=mul_le (Qdd _) (Qdd q) p1 h7;have s4:(N:Rat)<=(N':Rat)*N:=by have:=Rat.mul_le_mul_of_nonneg_right hN1 n0;rwa[Rat.one_mul]at this
  rw[m0];unfold dvQ;grind
 ·have s1:=Qak6 (Qx (Qae g v d) r) (Qx (dvB r v n d) g);have s2:=Qob (Qae g v d) r;have s3:=mul_le (Qdd _) (Qdd r) p1 h8;have s4:=Qob (dvB r v n d) g;have s5:=mul_le (Qdd _) (Qdd g) p2 g6;rw[m0];unfold dvR;grind
 ·have:=((gx.coefN v d).pmul hxq)
  rw[Nat.add_comm]at this;obtain⟨K,xb⟩:=xb;exact this.padd ⟨K,xb.mono (Nat.le_refl _) (by omega)⟩
 ·have:=((gx.coefN v d).pmul hxr)
  rw[Nat.add_comm]at this;exact this.psub (xb.pmul gx)
theorem DV.steps{a b E a' b' E':Nat}{f g:List Tm}{v d:Nat}(hf:SZ a b E f)(nf:Nrm f)(hg:SZ a' b' E' g)(ng:Nrm g)(hv:v<64):∀k,DV (a+k*a') (b+k*(b'+2)) (E+k*E') (dvS g v d f k).1 (dvS g v d f k).2
 |0=>by rw[Nat.zero_mul,Nat.zero_mul,Nat.zero_mul];exact DV.start hf
 | k+1=>by
  have ih:=DV.steps (d:=d) hf nf hg ng hv k;have hn:(Q8 (dvS g v d f k).2 v).toNat<=E+k*E':=by
   obtain⟨K,hx⟩:=ih.xr;by_cases h0:(dvS g v d f k).2=[]
   ·rw[h0];simp[Q8]
   ·have:=(Qe1 hx h0 v).2;omega
  have:=ih.step (n:=(Q8 (dvS g v d f k).2 v).toNat) (d:=d) hg hv hn;rw[show a+(k+1)*a'=a+k*a'+a' by rw[Nat.add_mul];omega,show b+(k+1)*(b'+2)=b+k*(b'+2)+b'+2 by rw[Nat.add_mul];omega,show E+(k+1)*E'=E+k*E'+E' by rw[Nat.add_mul];omega];exact this
theorem Qtz:∀(B:Nat)(l:List Nat),l.Nodup->(∀x∈l,x<B)->l.length<=B
 |0,l,_,h=>by
  cases l with
  |nil=>simp
  |cons x l=>exact absurd (h x (by simp)) (by omega)
 | B+1,l,hn,h=>by
  by_cases hB:B∈l
  ·have ih:=Qtz B (l.erase B) (hn.erase B) (fun x hx=>by have h1:=(hn.mem_erase_iff).1 hx;have:=h x h1.2;have:=h1.1;omega);rw[List.length_erase_of_mem hB]at ih;omega
  ·have:=Qtz B l hn (fun x hx=>by have h1:=h x hx;have:x≠B:=fun e=>hB (e▸hx);omega);omega
def Qjc(E:Nat):Nat->List Int->Nat
 |0,_=>0
 |w+1,m=>(eN m w).toNat*(E+1)^w+Qjc E w m
theorem Qpr{E:Nat}{m:List Int}(h:∀i,0<=eN m i/\eN m i<=E):∀w,Qjc E w m<(E+1)^w
 |0=>by simp[Qjc]
 |w+1=>by
  have ih:=Qpr h w;have h1:=h w;have h2:(eN m w).toNat*(E+1)^w<=E*(E+1)^w:=Nat.mul_le_mul_right _ (by omega);have h3:(E+1)^(w+1)=E*(E+1)^w+(E+1)^w:=by rw[Nat.pow_succ,Nat.mul_comm,Nat.add_mul,Nat.one_mul]
  rw[Qjc,h3];omega
theorem Qyv{E:Nat}{a b:List Int}(ha:∀i,0<=eN a i/\eN a i<=E)(hb:∀i,0<=eN b i/\eN b i<=E):∀w,Qjc E w a=Qjc E w b->∀i,i<w->eN a i=eN b i
 |0,_,i,hi=>by omega
 | w+1,h,i,hi=>by
  have l1:=Qpr ha w;have l2:=Qpr hb w;rw[Qjc,Qjc]at h;have hp:0<(E+1)^w:=Nat.pow_pos (by omega);have hm:(eN a w).toNat=(eN b w).toNat:=by
   have e1:((eN a w).toNat*(E+1)^w+Qjc E w a)/(E+1)^w=(eN a w).toNat:=by rw[Nat.mul_comm,Nat.mul_add_div hp,Nat.div_eq_of_lt l1,Nat.add_zero]
   have e2:((eN b w).toNat*(E+1)^w+Qjc E w b)/(E+1)^w=(eN b w).toNat:=by rw[Nat.mul_comm,Nat.mul_add_div hp,Nat.div_eq_of_lt l2,Nat.add_zero]
   rw[<-e1,<-e2,h]
  rw[hm]at h;by_cases e:i=w
  ·subst e;have:=ha i;have:=hb i;omega
  ·exact Qyv ha hb w (by omega) i (by omega)
theorem Qnp{p:List Tm}{K E w:Nat}(hb:PB K E p)(hn:Nrm p)(hm:ML w p):p.length<=(E+1)^w:=by
 have key:(p.map fun t=>Qjc E w t.2).Nodup:=by
  have hs:=hn.s;clear hn;induction p with
  |nil=>simp
  | cons t p ih=>
   rw[List.map_cons,List.nodup_cons];refine⟨fun hmem=>?_,ih (fun s hs=>hb s (by simp[hs])) (fun s hs=>hm s (by simp[hs])) hs.2⟩;obtain⟨s,hsp,e⟩:=List.mem_map.1 hmem;have h1:=hs.1 s hsp;have bt:=hb t (by simp);have bs:=hb s (by simp[hsp]);have hi:=Qyv (fun i=>bt.m.eN i) (fun i=>bs.m.eN i) w e.symm;have:t.2=s.2:=Qey bt.l bs.l fun i=>by
    by_cases hiw:i<w
    ·exact hi i hiw
    ·rw[Qcs (by have:=hm t (by simp);omega),Qcs (by have:=hm s (by simp[hsp]);omega)]
   rw[this,Qmy]at h1;exact absurd h1 (by omega)
 have:=Qtz ((E+1)^w) _ key (fun x hx=>by obtain⟨t,ht,rfl⟩:=List.mem_map.1 hx;exact Qpr (fun i=>(hb t ht).m.eN i) w)
 rwa[List.length_map]at this
theorem SZ.onep:SZ 1 1 0 (Qbe 1):=by
 have e:Qbe 1=[(1,[])]:=by decide+kernel
 rw[e];refine⟨⟨1,1,by omega,by omega,by rw[Qex];omega,by rw[Qex];omega,fun t ht=>?_,?_⟩,2,fun t ht=>?_⟩
 ·rw[List.mem_singleton.1 ht];exact⟨1,by show(1:Rat)*((1:Nat):Rat)=((1:Int):Rat);decide+kernel⟩
 ·decide+kernel
 ·rw[List.mem_singleton.1 ht];exact⟨by decide+kernel,⟨by simp,by simp,by simp⟩,by simp⟩
theorem SZ.ppow{a b E:Nat}{p:List Tm}(h:SZ a b E p):∀n,SZ (1+n*a) (1+n*b) (n*E) (FW.Qax p n)
 |0=>by rw[Nat.zero_mul,Nat.zero_mul,Nat.zero_mul];exact SZ.onep
 |n+1=>by have:=(SZ.ppow h n).pmul h;rw[show 1+n*a+a=1+(n+1)*a by rw[Nat.add_mul];omega,show 1+n*b+b=1+(n+1)*b by rw[Nat.add_mul];omega,show n*E+E=(n+1)*E by rw[Nat.add_mul];omega]at this;exact this
theorem SZ.coefN{a b E:Nat}{p:List Tm}(h:SZ a b E p)(v:Nat)(n:Int):SZ a b E (FW.Qae p v n):=by obtain⟨⟨D,N,h1,h2,h3,h4,h5,h6⟩,hx⟩:=h;exact⟨⟨D,N,h1,h2,h3,h4,Qpq h5 v n,Rat.le_trans (Qty p v n) h6⟩,hx.coefN v n⟩
theorem ML.ppow{w:Nat}{p:List Tm}(h:ML w p):∀n,ML w (FW.Qax p n)
 |0=>fun t ht=>by
  have e:Qbe 1=[(1,[])]:=by decide+kernel
  have ht':t∈Qbe 1:=ht;rw[e]at ht';rw[List.mem_singleton.1 ht'];simp
 |n+1=>(ML.ppow h n).pmul h
theorem ML.top{p:List Tm}{K E v:Nat}(hb:PB K E p)(h:ML (v+1) p)(n:Int):ML v (FW.Qae p v n):=fun t ht=>by
 have h1:=h.coefN v n t ht;have h2:=Qjp ht;have h3:=(Qfs hb v n t ht).l;by_cases e:t.2.length=v+1
 ·exfalso;have hv:v<t.2.length:=by omega
  rw[Qc2 hv]at h2;apply h3;rw[List.getLast?_eq_getElem?,e,Nat.add_sub_cancel,List.getElem?_eq_getElem hv,h2]
 ·omega
end Go.FW
