/- Right of triangular is that of the specification for any polynomials, and Initials for valid ones, and the first examples hold. -/
import Derived.Test.YtdaldpkjhcfblaaGreatTriangularChainsPart15
set_option maxHeartbeats 1000000
set_option linter.unusedSimpArgs false
set_option linter.unusedVariables false
set_option linter.unnecessarySimpa false
set_option maxRecDepth 100000
namespace Go.Proofs.YtdaldpkjhcfblaaGreat
open Go Go.FW
def dvO(g:List Tm)(v d:Nat):Nat->List Tm->List Tm->Nat->Option (List Tm×List Tm×Nat)
 |0,q,r,k=>some (q,r,k)
 |f+1,q,r,k=>
  if r=[]∨Qat r v<d then some (q,r,k)
  else if Qa2 (dvQ q r g v (Qat r v).toNat d)=true∨Qa2 (dvR r g v (Qat r v).toNat d)=true then none
  else dvO g v d f (dvQ q r g v (Qat r v).toNat d) (dvR r g v (Qat r v).toNat d) (k+1)
abbrev PV.dv:Option (List Tm×List Tm×Nat)->PV
 |some (q,r,n)=>.tup [PV.poly q,PV.poly r,.int .i64 n,.int .i64 0]
 |none=>.tup [PV.poly [],PV.poly [],.int .i64 0,.int .i64 4]
theorem Qaif:PV.dv none= .tup [PV.poly [],PV.poly [],.int .i64 0,.int .i64 4]:=rfl
theorem Qaig{q r:List Tm}{n:Nat}:PV.dv (some (q,r,n))= .tup [PV.poly q,PV.poly r,.int .i64 n,.int .i64 0]:=rfl
theorem Qus(g:List Tm)(v d:Nat):∀(f:Nat)(q r:List Tm)(k:Nat),Qgl g v d f q r k=PV.dv (dvO g v d f q r k)
 |0,q,r,k=>rfl
 | f+1,q,r,k=>by
  rw[Qgl,dvO];split
  ·rfl
  ·split
   ·rfl
   ·exact Qus g v d f _ _ _
abbrev RSt:=List Int×List (List Tm)×List Tm
abbrev PV.redn(s:RSt):PV:=.agg [.sl 1 (Qfc s.1),.sl 1 (s.2.1.map PV.poly),PV.poly s.2.2]
theorem Q1t:PV.le (.agg [.nilS,.nilS,.nilS]) (PV.redn ([],[],[])):=⟨trivial,trivial,trivial,trivial⟩
def Qeq(i k:Nat)(c:List Tm)(qs:List (List Tm)):List (List Tm):=(List.range qs.length).map fun j=>if i<j/\j<k then Qai (qs.getD j []) c else qs.getD j []
theorem Qjf(i k:Nat)(c:List Tm)(qs:List (List Tm)):(Qeq i k c qs).length=qs.length:=by simp[Qeq]
theorem Qjg{i k:Nat}{c:List Tm}{qs:List (List Tm)}{j:Nat}(h:j<(Qeq i k c qs).length):(Qeq i k c qs)[j]=if i<j/\j<k then Qai (qs.getD j []) c else qs.getD j []:=by simp[Qeq]
theorem Q0c(i:Nat)(c:List Tm)(qs:List (List Tm)):Qeq i (i+1) c qs=qs:=by refine List.ext_getElem (Qjf _ _ _ _) fun j h1 h2=>?_;rw[Qjg h1,if_neg (by omega)];simp[h2]
theorem Q39{i k:Nat}{c:List Tm}{qs:List (List Tm)}(h:i<k):Qeq i (k+1) c qs=(Qeq i k c qs).set k (Qai (qs.getD k []) c):=by
 refine List.ext_getElem (by simp[Qjf]) fun j h1 h2=>?_;rw[Qjg h1,List.getElem_set];split
 ·split
  ·subst_vars;rfl
  ·rw[Qjg,if_pos (by omega)]
 ·split
  ·omega
  ·rw[Qjg,if_neg (by omega)]
def Qut(g:List Tm)(i:Nat)(D:Option (List Tm×List Tm×Nat))(s:RSt):Option RSt:=
 match D with
 |none=>none
 |some (q,r,n)=>if(∃k,k<s.2.1.length/\i<k/\Qa2 (Qai (s.2.1.getD k []) (Qfj (Qa1 g) n))=true)then none else some (s.1.set i n,(Qeq i s.2.1.length (Qfj (Qa1 g) n) s.2.1).set i q,r)
def Qlr(gs:List (List Tm))(D:List Tm->List Tm->Option (List Tm×List Tm×Nat)):Nat->RSt->Option RSt
 |0,s=>some s
 |i+1,s=>(Qut (gs.getD i []) i (D s.2.2 (gs.getD i [])) s).bind (Qlr gs D i)
def PV.redO:Option RSt->PV
 |some s=>.tup [PV.redn s,.int .i64 0]
 |none=>.tup [PV.redn ([],[],[]),.int .i64 4]
structure Q7z(mul lg pw ini dv mn:Nat)(g:List Tm)(i:Nat)(D:Option (List Tm×List Tm×Nat))(s:RSt):Prop where
 mn:Qd Tryz.prog mn [PV.poly g] (· = .int .i64 (Qaz g))
 dv:Qd Tryz.prog dv [PV.poly s.2.2,PV.poly g,.int .i64 (Qaz g)] (· =PV.dv D)
 ini:Qd Tryz.prog ini [PV.poly g] (· =PV.poly (Qa1 g))
 pw:∀q r n,D=some (q,r,n)->Qd Tryz.prog pw [PV.poly (Qa1 g),.int .i64 n] (· =PV.poly (Qfj (Qa1 g) n))
 mul:∀q r n,D=some (q,r,n)->∀k,k<s.2.1.length->i<k->Qd Tryz.prog mul [PV.poly (s.2.1.getD k []),PV.poly (Qfj (Qa1 g) n)] (· =PV.poly (Qai (s.2.1.getD k []) (Qfj (Qa1 g) n)))
 lg:∀q r n,D=some (q,r,n)->∀k,k<s.2.1.length->i<k->Qd Tryz.prog lg [PV.poly (Qai (s.2.1.getD k []) (Qfj (Qa1 g) n))] (· = .bool (Qa2 (Qai (s.2.1.getD k []) (Qfj (Qa1 g) n))))
theorem mvS{fr:Fr}{hp:HP}(β δ:Nat){hb:HB}(_:hp β=some hb)(hδ:hp δ=none)(h2:2000000<=δ)(hY:isY β=false)(hne:β≠δ):Wk fr hp (mvF β δ fr) (mvH β δ hp):=Qan9 β δ hδ h2 hY hne
abbrev Q4a(n:Nat)(r:List Tm):PV:=.rag [.mso 2000002 0 n,.mso 2000003 0 n,PV.poly r]
def c8:SFn:=⟨104,[.cell 4 3 true,.t 5],.seq (.rg (.o none (.alloc 4 3 29 (.agg [.nilS,.nilS,.nilS]))<|
 .o none (.mv 5 (.c (.int .i64 0))) .nil))<| .seq (.seq (.rg (.o none (.mv 14 (.t 0))<|
 .o none (.call (some 15) false (.c (.fn 34 [] [])) [(.t 14)])<|
 .o none (.un 16 .not (.t 15)) .nil))<| .cond (.t 16) (.seq (.rg (.o none (.bld 17 [.nilS,.nilS,.nilS] [])<|
 .o none (.st 3 (.t 4) (.t 17))<|
 .o none (.mv 5 (.c (.int .i64 1))) .nil))<| .ret) (.skip))<| .seq (.seq (.rg (.o none (.mv 18 (.t 1))<|
 .o none (.call (some 19) false (.c (.fn 20 [] [])) [(.t 18)])<|
 .o none (.un 20 .not (.t 19)) .nil))<| .cond (.t 20) (.seq (.rg (.o none (.bld 21 [.nilS,.nilS,.nilS] [])<|
 .o none (.st 3 (.t 4) (.t 21))<|
 .o none (.mv 5 (.c (.int .i64 15))) .nil))<| .ret) (.skip))<| .seq (.rg (.o none (.mv 22 (.t 1))<|
 .o none (.len 23 (.t 22))<|
 .o none (.mv 25 (.t 1))<|
 .o none (.len 26 (.t 25))<|
 .o none (.mv 28 (.t 0))<|
 .br (.o none (.mk 24 1 8 3 (.int .i64 0) (.t 23) (.t 23))<| .wk<|
 .br (.o none (.mk 27 1 24 23 .nilS (.t 26) (.t 26))<| .wk<| .wk<|
 .o none (.bld 29 [.nilS,.nilS,.nilS] [(0,1,(.t 24)),(1,1,(.t 27)),(2,1,(.t 28))])<|
 .o none (.alloc 6 3 29 (.agg [.nilS,.nilS,.nilS]))<| .wk<| .wk<|
 .o none (.st 3 (.t 6) (.t 29)) .nil) (.o none (.alloc 6 3 29 (.agg [.nilS,.nilS,.nilS]))<| .wk<| .wk<|
 .o none (.mk 27 1 24 23 .nilS (.t 26) (.t 26))<| .wk<| .wk<|
 .o none (.bld 29 [.nilS,.nilS,.nilS] [(0,1,(.t 24)),(1,1,(.t 27)),(2,1,(.t 28))])<|
 .o none (.st 3 (.t 6) (.t 29)) .nil)) (.br (.o none (.mk 27 1 24 23 .nilS (.t 26) (.t 26))<| .wk<| .wk<|
 .br (.o none (.mk 24 1 8 3 (.int .i64 0) (.t 23) (.t 23))<| .wk<|
 .o none (.bld 29 [.nilS,.nilS,.nilS] [(0,1,(.t 24)),(1,1,(.t 27)),(2,1,(.t 28))])<|
 .o none (.alloc 6 3 29 (.agg [.nilS,.nilS,.nilS]))<| .wk<| .wk<|
 .o none (.st 3 (.t 6) (.t 29)) .nil) (.o none (.alloc 6 3 29 (.agg [.nilS,.nilS,.nilS]))<| .wk<| .wk<|
 .o none (.mk 24 1 8 3 (.int .i64 0) (.t 23) (.t 23))<| .wk<|
 .o none (.bld 29 [.nilS,.nilS,.nilS] [(0,1,(.t 24)),(1,1,(.t 27)),(2,1,(.t 28))])<|
 .o none (.st 3 (.t 6) (.t 29)) .nil)) (.o none (.alloc 6 3 29 (.agg [.nilS,.nilS,.nilS]))<| .wk<| .wk<|
 .br (.o none (.mk 24 1 8 3 (.int .i64 0) (.t 23) (.t 23))<| .wk<|
 .o none (.mk 27 1 24 23 .nilS (.t 26) (.t 26))<| .wk<| .wk<|
 .o none (.bld 29 [.nilS,.nilS,.nilS] [(0,1,(.t 24)),(1,1,(.t 27)),(2,1,(.t 28))])<|
 .o none (.st 3 (.t 6) (.t 29)) .nil) (.o none (.mk 27 1 24 23 .nilS (.t 26) (.t 26))<| .wk<| .wk<|
 .o none (.mk 24 1 8 3 (.int .i64 0) (.t 23) (.t 23))<| .wk<|
 .o none (.bld 29 [.nilS,.nilS,.nilS] [(0,1,(.t 24)),(1,1,(.t 27)),(2,1,(.t 28))])<|
 .o none (.st 3 (.t 6) (.t 29)) .nil)))))<| .seq (.seq (.rg (.o none (.mv 30 (.t 1))<|
 .o none (.len 31 (.t 30))<|
 .o none (.bin 32 .sub false (.t 31) (.c (.int .i64 1)))<|
 .o none (.mv 7 (.t 32)) .nil))<| .block 0 (.loop (.seq (.seq (.rg (.o none (.mv 33 (.t 7))<|
 .o none (.bin 34 .geq false (.t 33) (.c (.int .i64 0))) .nil))<| .cond (.t 34) (.skip) (.exit 0))<| .seq (.block 1 (.seq (.rg (.o none (.fld 38 2 (.t 6))<|
 .o none (.ld 39 1 false (.t 38))<|
 .o none (.mv 40 (.t 1))<|
 .o none (.mv 41 (.t 7))<|
 .o none (.idx 42 1 (.t 40) (.t 41))<|
 .o none (.ld 43 1 false (.t 42))<|
 .o none (.mv 44 (.t 1))<|
 .o none (.mv 45 (.t 7))<|
 .o none (.idx 46 1 (.t 44) (.t 45))<|
 .o none (.ld 47 1 false (.t 46))<|
 .o none (.call (some 48) true (.c (.fn 16 [] [])) [(.t 47)])<|
 .o none (.call (some 49) true (.c (.fn 35 [] [])) [(.t 39),(.t 43),(.t 48)])<|
 .o none (.mv 37 (.t 49))<|
 .o none (.ext 50 (.t 37) 0)<|
 .o none (.ext 51 (.t 37) 1)<|
 .o none (.ext 52 (.t 37) 2)<|
 .o none (.ext 53 (.t 37) 3)<|
 .o none (.mv 8 (.t 50))<|
 .o none (.mv 9 (.t 51))<|
 .o none (.mv 10 (.t 52))<|
 .o none (.mv 11 (.t 53)) .nil))<| .seq (.seq (.rg (.o none (.mv 54 (.t 11))<|
 .o none (.bin 55 .neq false (.t 54) (.c (.int .i64 0))) .nil))<| .cond (.t 55) (.seq (.rg (.o none (.bld 56 [.nilS,.nilS,.nilS] [])<|
 .o none (.mv 57 (.t 11))<|
 .o none (.st 3 (.t 4) (.t 56))<|
 .o none (.mv 5 (.t 57)) .nil))<| .ret) (.skip))<| .seq (.rg (.o none (.mv 58 (.t 1))<|
 .o none (.mv 59 (.t 7))<|
 .o none (.idx 60 1 (.t 58) (.t 59))<|
 .o none (.ld 61 1 false (.t 60))<|
 .o none (.call (some 62) false (.c (.fn 37 [] [])) [(.t 61)])<|
 .o none (.mv 63 (.t 10))<|
 .o none (.call (some 64) false (.c (.fn 36 [] [])) [(.t 62),(.t 63)])<|
 .o none (.mv 12 (.t 64)) .nil))<| .seq (.seq (.rg (.o none (.mv 65 (.t 7))<|
 .o none (.bin 66 .add false (.t 65) (.c (.int .i64 1)))<|
 .o none (.mv 13 (.t 66)) .nil))<| .block 2 (.loop (.seq (.seq (.rg (.o none (.mv 67 (.t 13))<|
 .o none (.mv 68 (.t 1))<|
 .o none (.len 69 (.t 68))<|
 .o none (.bin 70 .lss false (.t 67) (.t 69)) .nil))<| .cond (.t 70) (.skip) (.exit 2))<| .seq (.block 3 (.seq (.rg (.o none (.fld 73 1 (.t 6))<|
 .o none (.ld 74 1 false (.t 73))<|
 .o none (.mv 75 (.t 13))<|
 .o none (.fld 76 1 (.t 6))<|
 .o none (.ld 77 1 false (.t 76))<|
 .o none (.mv 78 (.t 13))<|
 .o none (.idx 79 1 (.t 77) (.t 78))<|
 .o none (.ld 80 1 false (.t 79))<|
 .o none (.mv 81 (.t 12))<|
 .o none (.call (some 82) true (.c (.fn 12 [] [])) [(.t 80),(.t 81)])<|
 .o none (.idx 83 1 (.t 74) (.t 75))<|
 .o none (.st 1 (.t 83) (.t 82)) .nil))<| .seq (.rg (.o none (.fld 84 1 (.t 6))<|
 .o none (.ld 85 1 false (.t 84))<|
 .o none (.mv 86 (.t 13))<|
 .o none (.idx 87 1 (.t 85) (.t 86))<|
 .o none (.ld 88 1 false (.t 87))<|
 .o none (.call (some 89) false (.c (.fn 38 [] [])) [(.t 88)]) .nil))<| .cond (.t 89) (.seq (.rg (.o none (.bld 90 [.nilS,.nilS,.nilS] [])<|
 .o none (.st 3 (.t 4) (.t 90))<|
 .o none (.mv 5 (.c (.int .i64 4))) .nil))<| .ret) (.skip)))<| .rg (.o none (.mv 71 (.t 13))<|
 .o none (.bin 72 .add false (.t 71) (.c (.int .i64 1)))<|
 .o none (.mv 13 (.t 72)) .nil))))<| .rg (.o none (.fld 91 1 (.t 6))<|
 .o none (.ld 92 1 false (.t 91))<|
 .o none (.mv 93 (.t 7))<|
 .o none (.fld 94 0 (.t 6))<|
 .o none (.mv 96 (.t 7))<|
 .o none (.mv 97 (.t 8))<|
 .o none (.mv 98 (.t 10))<|
 .o none (.mv 99 (.t 9))<|
 .o none (.idx 100 1 (.t 92) (.t 93))<|
 .br (.o none (.ld 95 1 false (.t 94))<|
 .o none (.st 1 (.t 100) (.t 97))<|
 .o none (.idx 101 1 (.t 95) (.t 96))<|
 .o none (.st 1 (.t 101) (.t 98))<|
 .o none (.fld 102 2 (.t 6))<|
 .o none (.st 1 (.t 102) (.t 99)) .nil) (.o none (.st 1 (.t 100) (.t 97))<|
 .o none (.ld 95 1 false (.t 94))<|
 .o none (.idx 101 1 (.t 95) (.t 96))<|
 .o none (.st 1 (.t 101) (.t 98))<|
 .o none (.fld 102 2 (.t 6))<|
 .o none (.st 1 (.t 102) (.t 99)) .nil))))<| .rg (.o none (.mv 35 (.t 7))<|
 .o none (.bin 36 .sub false (.t 35) (.c (.int .i64 1)))<|
 .o none (.mv 7 (.t 36)) .nil))))<| .seq (.rg (.o none (.ld 103 3 true (.t 6))<| .wk<|
 .o none (.st 3 (.t 4) (.t 103))<|
 .o none (.mv 5 (.c (.int .i64 0))) .nil))<| .ret⟩
theorem Qao3:Qe Tryz.prog Tryz.f8=some c8.strip:=by kernel_rfl
theorem Qadn{p:List Tm}{gs:List (List Tm)}{D:List Tm->List Tm->Option (List Tm×List Tm×Nat)}{G:Nat->RSt->Prop}(hl:gs.length<=100)
  (hr:Qd Tryz.prog 34 [PV.poly p] (· = .bool true)) (hrc:Qd Tryz.prog 20 [PV.polys gs] (· = .bool true))
  (h0:G gs.length (List.replicate gs.length 0,List.replicate gs.length [],p))
  (hG:∀i (h:i<gs.length) s,G (i+1) s->Q7z 12 38 36 37 35 16 gs[i] i (D s.2.2 gs[i]) s/\∀s',Qut gs[i] i (D s.2.2 gs[i]) s=some s'->G i s'):
  Qd Tryz.prog 8 [PV.poly p,PV.polys gs] (· =PV.redO (Qlr gs D gs.length (List.replicate gs.length 0,List.replicate gs.length [],p))):=by
 refine Qvy Qi Tryz.func8 rfl Qao3 (by simp[c8]) fun C hP=>?_;simp only[c8];refine Sz0 ?_;refine Qa hP hr rfl rfl rfl ?_;refine Sz0 ?_;refine Qa hP hrc rfl rfl rfl ?_;refine Sz0 ?_;have hmA:rnP (mvN 27 2000003) (.nst 2000001 3 29 [.agg [.nilS,.nilS,.nilS]])=(.nst 2000001 3 29 [.agg [.nilS,.nilS,.nilS]]):=rfl;have hmB:rnP (mvN 24 2000002) (.nst 2000001 3 29 [.agg [.nilS,.nilS,.nilS]])=(.nst 2000001 3 29 [.agg [.nilS,.nilS,.nilS]]):=rfl;have hkA:Qal 27 (.nst 2000001 3 29 [.agg [.nilS,.nilS,.nilS]])=(.nst 2000001 3 29 [.agg [.nilS,.nilS,.nilS]]):=rfl;have hkB:Qal 24 (.nst 2000001 3 29 [.agg [.nilS,.nilS,.nilS]])=(.nst 2000001 3 29 [.agg [.nilS,.nilS,.nilS]]):=rfl;refine Qadf (by repeat (first|exact Qv|exact Qp|exact Qq|exact Qr|exact Qs|apply Qo|apply Qu|apply Qx|apply Q2|apply Q3|apply Qk|apply Qz)) [(6,6),(24,29),(2000001,2000001)] [6,24,27] (fun J hp=>J 6= .np 2000001 0 0/\J 2000001= .nst 2000001 3 29 [Q4a gs.length p]/\hp 4=some ⟨3,29,[.agg [.nilS,.nilS,.nilS]],false⟩/\hp 2000001=some ⟨3,29,[],false⟩/\
  hp 2000002=some ⟨1,3,Qfc (List.replicate gs.length 0),false⟩/\hp 2000003=some ⟨1,23,(List.replicate gs.length ([]:List Tm)).map PV.poly,false⟩) ?_ ?_
 ·repeat' first
   |refine Qf6 ?_ ?_
   |refine Qnl (mvS 24 2000002 rfl rfl (by omega) rfl (by omega)) ?_
   |refine Qnl (mvS 27 2000003 rfl rfl (by omega) rfl (by omega)) ?_
   |refine Qnl (Q1m gs.length 2000003 23 _ _ rfl) ?_
   |refine Qnl (mvS 6 2000001 rfl rfl (by omega) rfl (by omega)) ?_
   |refine Qnl (Qaka (γ:=2000001) (e:=3) (ty:=29) (xs:=[.agg [.nilS,.nilS,.nilS]]) (fz:=false) rfl (by simp) (by omega) (fun x hx=>by rw[List.mem_singleton.1 hx];rfl)) ?_
   |rw[Qaid rfl (by omega)]
   |simp+decide (disch:=first|omega|rfl|(simp+decide only[go_sem,↓reduceIte,hmA,hmB,hkA,hkB]<;>rfl)|fail) only[go_sem,↓reduceIte,hmA,hmB,hkA,hkB]
  all_goals
   refine Qpv ?_;refine Sz0 ?_;trivial
 rintro J0 h0' ⟨j6,jn,b4,b1,b2,b3⟩;refine Sz1 j6 ?_;obtain⟨Z,hZ⟩:∃Z,Qlr gs D gs.length (List.replicate gs.length 0,List.replicate gs.length [],p)=Z:=⟨_,rfl⟩
 rw[hZ];refine Qx7 (by repeat (first|exact Qv|exact Qp|exact Qq|exact Qr|exact Qs|apply Qo|apply Qu|apply Qx|apply Q2|apply Q3|apply Qk|apply Qz)) [(5,13),(33,102),(2000001,2000001)] [] (fun q J hp=>∃(i:Nat)(s:RSt),q=i/\i<=gs.length/\G i s/\Qlr gs D i s=Z/\s.1.length=gs.length/\s.2.1.length=gs.length/\J 6= .np 2000001 0 0/\J 7= .int .i64 ((i:Int)-1)/\J 2000001= .nst 2000001 3 29 [Q4a gs.length s.2.2]/\hp 4=some ⟨3,29,[.agg [.nilS,.nilS,.nilS]],false⟩/\hp 2000001=some ⟨3,29,[],false⟩/\
  hp 2000002=some ⟨1,3,Qfc s.1,false⟩/\hp 2000003=some ⟨1,23,s.2.1.map PV.poly,false⟩) gs.length ?_ ?_
 ·refine⟨gs.length,_,rfl,Nat.le_refl _,h0,hZ,by simp,by simp,?_⟩;refine Sz6 j6 jn b4 b1 b2 b3 ?_;trivial
 rintro q J h ⟨i,⟨pw,qs,rest⟩,hq,hi,hGi,hgo,hl1,hl2,i6,i7,inn,c4,c1,c2,c3⟩;obtain rfl:i=q:=hq.symm;clear hq;simp only at hl1 hl2 inn c2 c3;cases i with
 | zero=>
  refine Sz6 i6 i7 inn c1 c2 c3 ?_;refine Qaht 103 2 [2000002,2000003] (p:=Q4a gs.length rest) Tz0 (D:=PV.redn (pw,qs,rest)) ?_ ?_ rfl ?_
  ·intro c hc;simp only[List.mem_cons,List.not_mem_nil,or_false]at hc;rcases hc with rfl|rfl|rfl
   ·simp only[okD,isY];simp
   ·simp only[okD,isY];simp
   ·trivial
  ·show PV.agg [dsn _ h 2 (.mso 2000002 0 _),dsn _ h 2 (.mso 2000003 0 _),_]=_;simp only[dsn,c2,c3,List.drop_zero];rw[List.take_of_length_le (by simp;omega),List.take_of_length_le (by simp;omega)]
  refine Vz1 c4 ?_;refine Qae1 (Wk.refl _ _) ?_;refine Qiu ?_;refine Sz0 ?_;exact Qgn (by rw[<-hgo];rfl) rfl rfl (Q4 _) (Q4 _)
 | succ i=>
  obtain⟨hS,hN⟩:=hG i (by omega) _ hGi;have hig:i<gs.length:=by omega
  have e7:((i+1:Nat):Int)-1=(i:Int):=by omega
  rw[e7]at i7;have hgd:gs.getD i []=gs[i]:=by simp[hig]
  rw[Qlr,hgd]at hgo;simp only at hS hN hgo;generalize hg:gs[i]=g at *
  generalize hD:D rest g=d at *
  have k1:=hS.mn;have k2:=hS.dv;have d0:decide ((0:Int)<=(i:Int))=true:=decide_eq_true (by omega);refine Sz6 i6 i7 inn c1 hg d0 ?_;refine Qa hP k1 rfl rfl rfl ?_;refine Sz6 i6 i7 inn c1 hg d0 ?_;refine Qa hP k2 rfl rfl rfl ?_;cases d with
  |none=>rw[Qaif];refine Sz4 i6 i7 inn c4 ?_;rw[Qcr rfl];refine Sz4 i6 i7 inn c4 ?_;refine Qow ?_;refine Qiu ?_;refine Sz0 ?_;exact Qgn (by rw[<-hgo];rfl) rfl rfl Q1t (Q4 _)
  | some d=>
   obtain⟨q,r,n⟩:=d;have k3:=hS.ini;have k4:=hS.pw q r n rfl;rw[Qaig];refine Sz5 i6 i7 inn c1 hg ?_;rw[Qcr rfl];refine Sz5 i6 i7 inn c1 hg ?_;refine Qa hP k3 rfl rfl rfl ?_;refine Sz5 i6 i7 inn c1 hg ?_;refine Qa hP k4 rfl rfl rfl ?_;refine Sz5 i6 i7 inn c1 hg ?_;have hN:=hN;have k5:=hS.mul q r n rfl;have k6:=hS.lg q r n rfl;simp only at k5 k6;generalize hc:Qfj (Qa1 g) n=c at *
   have hst:Qut g i (some (q,r,n)) (pw,qs,rest)=if(∃k,k<qs.length/\i<k/\Qa2 (Qai (qs.getD k []) c)=true)then none else some (pw.set i n,(Qeq i qs.length c qs).set i q,r):=by rw[<-hc];rfl
   rw[hst]at hN hgo;clear hst;refine Qx7 (by repeat (first|exact Qv|exact Qp|exact Qq|exact Qr|exact Qs|apply Qo|apply Qu|apply Qx|apply Q2|apply Q3|apply Qk|apply Qz)) [(5,6),(13,13),(67,90),(2000001,2000001)] [] (fun q' J hp=>∃k,q'=gs.length-k/\i<k/\k<=gs.length/\(∀j,j<qs.length->i<j->j<k->Qa2 (Qai (qs.getD j []) c)=false)/\J 6= .np 2000001 0 0/\J 13= .int .i64 (k:Nat)/\J 2000001= .nst 2000001 3 29 [Q4a gs.length rest]/\hp 4=some ⟨3,29,[.agg [.nilS,.nilS,.nilS]],false⟩/\hp 2000001=some ⟨3,29,[],false⟩/\
    hp 2000002=some ⟨1,3,Qfc pw,false⟩/\hp 2000003=some ⟨1,23,(Qeq i k c qs).map PV.poly,false⟩) (gs.length-(i+1)) ?_ ?_
   ·refine⟨i+1,rfl,by omega,by omega,fun j _ h1 h2=>by omega,?_⟩;refine Sz8 i6 i7 inn c4 c1 c2 c3 @Q0c ?_;trivial
   rintro _ J1 h1 ⟨k,rfl,hik,hkl,hbad,m6,m13,mn,b4,b1,b2,b3⟩;by_cases hkg:k<gs.length
   ·have d1:decide ((k:Int)<(gs.length:Int))=true:=decide_eq_true (by omega);have hkq:k<qs.length:=by omega
    have k5:=k5 k hkq hik;have k6:=k6 k hkq hik;have hkM:k<(Qeq i k c qs).length:=by rw[Qjf];exact hkq
    have hMk:(Qeq i k c qs)[k]=qs.getD k []:=by rw[Qjg,if_neg (by omega)]
    have hM2:=Q39 (c:=c) (qs:=qs) hik;have hbn:Qa2 (Qai (qs.getD k []) c)=false->∀j,j<qs.length->i<j->j<k+1->Qa2 (Qai (qs.getD j []) c)=false:=fun h j h1 h2 h3=>by
     by_cases e:j=k
     ·subst e;exact h
     ·exact hbad j h1 h2 (by omega)
    have hby:Qa2 (Qai (qs.getD k []) c)=true->∃k,k<qs.length/\i<k/\Qa2 (Qai (qs.getD k []) c)=true:=fun h=>⟨k,hkq,hik,h⟩
    generalize qs.getD k []=x at *
    generalize Qeq i k c qs=M at *
    have hkM2:k<(M.set k (Qai x c)).length:=by rw[List.length_set];exact hkM
    have hMs:(M.set k (Qai x c))[k]=Qai x c:=by simp
    refine Sz6 m6 m13 mn b1 b3 d1 ?_;rw[Q1r hkM,hMk];refine Sz5 m6 m13 mn b1 b3 ?_;refine Qa hP k5 rfl rfl rfl ?_;refine Sz5 m6 m13 mn b1 b3 ?_;rw[Q1s hkM];refine Sz4 m6 m13 mn b1 ?_;rw[Q1r hkM2,hMs];refine Sz4 m6 m13 mn b1 ?_;refine Qa hP k6 rfl rfl rfl ?_;cases hlg:Qa2 (Qai x c)
    ·refine Sz1 m13 ?_;refine Qvk (gs.length-(k+1)) (by omega) ⟨k+1,rfl,by omega,by omega,hbn hlg,?_⟩;rw[hM2];refine Sz5 m6 mn b4 b1 b2 ?_;trivial
    ·rw[if_pos (hby hlg)]at hgo;refine Sz2 m13 b4 ?_;refine Qow ?_;refine Qiu ?_;refine Sz0 ?_;exact Qgn (by rw[<-hgo];rfl) rfl rfl Q1t (Q4 _)
   ·obtain rfl:k=gs.length:=by omega
    have d1:decide ((gs.length:Int)<(gs.length:Int))=false:=decide_eq_false (by omega);have hnb:¬∃k,k<qs.length/\i<k/\Qa2 (Qai (qs.getD k []) c)=true:=fun⟨j,h1,h2,h3⟩=>by rw[hbad j h1 h2 (by omega)]at h3;cases h3
    rw[if_neg hnb]at hN hgo;rw[hl2]at hN hgo;have hiM:i<(Qeq i gs.length c qs).length:=by rw[Qjf];omega
    have hip:i<pw.length:=by omega
    have hML:=Qjf i gs.length c qs;have hG':=hN _ rfl;have hgo':Qlr gs D i (pw.set i n,(Qeq i gs.length c qs).set i q,r)=Z:=hgo;clear hN hgo;generalize Qeq i gs.length c qs=M at *
    refine Sz8 i7 m6 m13 mn b1 b2 b3 d1 ?_;simp (disch:=decide) only[Qtg,Q0a,Qif,Q3y];refine Qf6 ?_ ?_
    all_goals
     repeat' first
      |rw[Q1s hiM]
      |rw[Q5j hip]
      |simp+decide (disch:=first|omega|rfl|(simp+decide only[go_sem,↓reduceIte,i7,m6,mn,b1,b2,b3]<;>rfl)|fail) only[go_sem,↓reduceIte,i7,m6,mn,b1,b2,b3]
     refine Qvk i (by omega) ⟨i,_,rfl,by omega,hG',hgo',by simp[hl1],by simp[hML,hl2],?_⟩;refine Sz3 m6 b4 b1 ?_;trivial
def chB:Int->List (List RTm)->Bool
 |_,[]=>true
 |last,l::ls=>Qbv l&&decide (last<Qaz (l.map RTm.tm))&&chB (Qaz (l.map RTm.tm)) ls
def Qfl(ls:List (List RTm))(i:Nat):Int:=if i=0 then -1 else Qaz ((ls.getD (i-1) default).map RTm.tm)
theorem Qy6{ls:List (List RTm)}{i:Nat}(h:i<ls.length):chB (Qfl ls i) (ls.drop i)=(Qbv ls[i]&&decide (Qfl ls i<Qaz (ls[i].map RTm.tm))&&chB (Qfl ls (i+1)) (ls.drop (i+1))):=by
 rw[List.drop_eq_getElem_cons h,chB];have:Qfl ls (i+1)=Qaz (ls[i].map RTm.tm):=by simp[Qfl,h]
 rw[this]
def RwP(ls:List (List RTm)):Prop:=ls.length<=100/\∀l∈ls,(∀t∈l,RB 1048576 t)/\l.length<=1048576/\(Qbv l=true->PB 1048577 1048576 (l.map RTm.tm)/\Nrm (l.map RTm.tm))
theorem Q1u{ls:List (List RTm)}(hb:RwP ls):Qd Tryz.prog 20 [.sl 1 (ls.map PV.rpoly)] (· = .bool (chB (-1) ls)):=by
 obtain⟨hl,hb⟩:=hb;refine Qf Qi Tryz.func20 rfl Qam1 (by simp[c20]) fun C hP=>?_;simp only[c20];refine Sz0 ?_;refine Qw (by repeat (first|exact Qv|exact Qp|exact Qq|exact Qr|exact Qs|apply Qo|apply Qu|apply Qx|apply Q2|apply Q3|apply Qk|apply Qz)) [(2,3),(5,5),(8,23)] [] (fun m J hp=>∃i,m=ls.length-i/\i<=ls.length/\chB (Qfl ls i) (ls.drop i)=chB (-1) ls/\J 3= .int .i64 (Qfl ls i)/\J 8= .int .i64 (i:Nat)) ls.length ?_ ?_
 ·refine⟨0,rfl,by omega,rfl,?_⟩;refine Sz0 ?_
  try (first|rfl|exact⟨rfl,rfl⟩)
 rintro _ J h ⟨i,rfl,hi,hch,j3,j8⟩;by_cases c1:i<ls.length
 ·have d1:decide ((i:Int)<(ls.length:Int))=true:=decide_eq_true (by omega);obtain⟨b1,b2,b3⟩:=hb _ (List.getElem_mem c1);have hr:=Qqu b1 (by omega) (by omega) (by omega:_<2^40);have hok:=fun h=>Qlj b1 h;have hcd:=Qy6 c1;have hla:Qfl ls (i+1)=Qaz (ls[i].map RTm.tm):=by simp[Qfl,c1]
  rw[hch]at hcd;generalize hx:ls[i]=x at *
  generalize Qfl ls i=la at *
  cases ho:Qbv x
  ·rw[ho]at hr hcd;refine Sz4 j3 j8 d1 hx ?_;refine Qa hP hr rfl rfl rfl ?_;refine Sz4 j3 j8 d1 hx ?_;exact Qc (by rw[hcd];rfl) rfl
  ·rw[ho]at hr hcd;obtain⟨e1,_⟩:=hok ho;obtain⟨b4,b5⟩:=b3 ho;have hm:=Qe2 b4 (by rw[List.length_map];omega:_<=2^36);rw[<-e1]at hm;generalize Qaz (x.map RTm.tm)=mv at *
   refine Sz4 j3 j8 d1 hx ?_;refine Qa hP hr rfl rfl rfl ?_;refine Sz4 j3 j8 d1 hx ?_;refine Qa hP hm rfl rfl rfl ?_;by_cases c2:la<mv
   ·have q2:decide (mv<=la)=false:=decide_eq_false (by omega);rw[decide_eq_true c2]at hcd;simp only[Bool.true_and]at hcd;refine Sz5 j3 j8 d1 hx q2 ?_;refine Qa hP hm rfl rfl rfl ?_;refine Sz5 j3 j8 d1 hx q2 ?_;refine Qh (ls.length-(i+1)) (by omega) ⟨i+1,rfl,by omega,hcd.symm,?_⟩;rw[hla];refine Sz0 ?_
    try (first|rfl|trivial|exact⟨rfl,rfl⟩)
   ·have q2:decide (mv<=la)=true:=decide_eq_true (by omega);rw[decide_eq_false c2]at hcd;refine Sz5 j3 j8 d1 hx q2 ?_;exact Qc (by rw[hcd];rfl) rfl
 ·obtain rfl:i=ls.length:=by omega
  have d1:decide ((ls.length:Int)<(ls.length:Int))=false:=decide_eq_false (by omega);rw[List.drop_eq_nil_of_le (Nat.le_refl _),chB]at hch;refine Sz3 j3 j8 d1 ?_;exact Qc (by rw[<-hch]) rfl
theorem Q70{ls:List (List RTm)}(hb:RwP ls):Qd Tryz.prog 11 [.sl 1 (ls.map PV.rpoly)] (· = .bool (chB (-1) ls)):=by
 obtain⟨hl,hb⟩:=hb;refine Qf Qi Tryz.func11 rfl Qam9 (by simp[c11]) fun C hP=>?_;simp only[c11];refine Sz0 ?_;refine Qw (by repeat (first|exact Qv|exact Qp|exact Qq|exact Qr|exact Qs|apply Qo|apply Qu|apply Qx|apply Q2|apply Q3|apply Qk|apply Qz)) [(2,30)] [] (fun m J hp=>∃i,m=ls.length-i/\i<=ls.length/\chB (Qfl ls i) (ls.drop i)=chB (-1) ls/\J 3= .int .i64 (Qfl ls i)/\J 4= .int .i64 (i:Nat)) ls.length ?_ ?_
 ·refine⟨0,rfl,by omega,rfl,?_⟩;refine Sz0 ?_
  try (first|rfl|exact⟨rfl,rfl⟩)
 rintro _ J h ⟨i,rfl,hi,hch,j3,j8⟩;by_cases c1:i<ls.length
 ·have d1:decide ((i:Int)<(ls.length:Int))=true:=decide_eq_true (by omega);obtain⟨b1,b2,b3⟩:=hb _ (List.getElem_mem c1);have hr:=Qpc b1 (by omega) (by omega) (by omega:_<2^40);have hok:=fun h=>Qlj b1 h;have hcd:=Qy6 c1;have hla:Qfl ls (i+1)=Qaz (ls[i].map RTm.tm):=by simp[Qfl,c1]
  rw[hch]at hcd;generalize hx:ls[i]=x at *
  generalize Qfl ls i=la at *
  cases ho:Qbv x
  ·rw[ho]at hr hcd;refine Sz4 j3 j8 d1 hx ?_;refine Qa hP hr rfl rfl rfl ?_;refine Sz4 j3 j8 d1 hx ?_;exact Qc (by rw[hcd];rfl) rfl
  ·rw[ho]at hr hcd;obtain⟨e1,_⟩:=hok ho;obtain⟨b4,b5⟩:=b3 ho;have hm:=Qpf b4 b5 (by rw[List.length_map];omega:_<=2^36);rw[<-e1]at hm;generalize Qaz (x.map RTm.tm)=mv at *
   refine Sz4 j3 j8 d1 hx ?_;refine Qa hP hr rfl rfl rfl ?_;refine Sz4 j3 j8 d1 hx ?_;refine Qa hP hm rfl rfl rfl ?_;by_cases c2:la<mv
   ·have q2:decide (mv<=la)=false:=decide_eq_false (by omega);rw[decide_eq_true c2]at hcd;simp only[Bool.true_and]at hcd;refine Sz5 j3 j8 d1 hx q2 ?_;refine Qa hP hm rfl rfl rfl ?_;refine Sz5 j3 j8 d1 hx q2 ?_;refine Qh (ls.length-(i+1)) (by omega) ⟨i+1,rfl,by omega,hcd.symm,?_⟩;rw[hla];refine Sz0 ?_
    try (first|rfl|trivial|exact⟨rfl,rfl⟩)
   ·have q2:decide (mv<=la)=true:=decide_eq_true (by omega);rw[decide_eq_false c2]at hcd;refine Sz5 j3 j8 d1 hx q2 ?_;exact Qc (by rw[hcd];rfl) rfl
 ·obtain rfl:i=ls.length:=by omega
  have d1:decide ((ls.length:Int)<(ls.length:Int))=false:=decide_eq_false (by omega);rw[List.drop_eq_nil_of_le (Nat.le_refl _),chB]at hch;refine Sz3 j3 j8 d1 ?_;exact Qc (by rw[<-hch]) rfl
def chV:Int->List (List Tm)->Bool
 |_,[]=>true
 |last,p::ps=>decide (last<Qaz p)&&chV (Qaz p) ps
theorem Qts(p:List Tm):(p.map toR).map RTm.tm=p:=by rw[List.map_map];exact(List.map_congr_left fun t _=>Qalz t).trans (List.map_id p)
theorem Q1v:∀(gs:List (List Tm))(last:Int),(∀p∈gs,PVd p)->chB last (gs.map (List.map toR))=chV last gs
 | [],_,_=>rfl
 |p::gs,last,h=>by rw[List.map_cons,chB,chV,Qts,Qrj (h p (by simp)),Bool.true_and,Q1v gs _ fun q hq=>h q (by simp[hq])]
structure PVB(K E:Nat)(p:List Tm):Prop where
 b:PB K E p
 v:PVd p
 l:p.length<=1048576
theorem Qaih{gs:List (List Tm)}{K E:Nat}(hl:gs.length<=100)(h:∀p∈gs,PVB K E p)(hK:K<=1048576)(hE:E<=1048576):RwP (gs.map (List.map toR)):=by
 refine⟨by simpa using hl,fun l hl=>?_⟩;obtain⟨p,hp,rfl⟩:=List.mem_map.1 hl;obtain⟨b,v,len⟩:=h p hp;refine⟨fun t ht=>?_,by rw[List.length_map];exact len,fun _=>?_⟩
 ·obtain⟨s,hs,rfl⟩:=List.mem_map.1 ht;have:=(b s hs).c;exact Q67 (by omega) (by have:=(b s hs).m.len;omega)
 ·rw[Qts];exact⟨b.mono (by omega) (by omega),v.nrm⟩
theorem Q4b(gs:List (List Tm)):(gs.map (List.map toR)).map PV.rpoly=gs.map PV.poly:=by rw[List.map_map];exact List.map_congr_left fun p _=>Qyp p
theorem Qado{gs:List (List Tm)}{K E:Nat}(hl:gs.length<=100)(h:∀p∈gs,PVB K E p)(hK:K<=1048576)(hE:E<=1048576):Qd Tryz.prog 20 [PV.polys gs] (· = .bool (chV (-1) gs)):=by
 have:=Q1u (Qaih hl h hK hE)
 rwa[Q4b,Q1v _ _ fun p hp=>(h p hp).v]at this
theorem Qadp{p:List Tm}{K E:Nat}(h:PVB K E p)(hK:K<=1048576):Qd Tryz.prog 34 [PV.poly p] (· = .bool true):=by
 have h':=Qqu (l:=p.map toR) (k:=max K 1) (fun t ht=>by obtain⟨s,hs,rfl⟩:=List.mem_map.1 ht;have:=(h.b s hs).c;exact Q67 (by omega) (by have:=(h.b s hs).m.len;omega)) (by omega) (by omega) (by rw[List.length_map];have:=h.l;omega)
 rwa[Qyp,Qrj h.v]at h'
theorem Qaii{l:List (List Tm×List (List Tm))}{v K E:Nat}(hv:v<64)(hp:∀x∈l,PB K E x.1/\x.1.length<=2^30)(hK:K<=2^33)(hE:E<=2^38)(hl:l.length<=100):
  Qd Tryz.prog 60 [.sl 2 (l.map PV.el),.int .i64 v] (· = .tup [.int .i64 (Qph l v).1,.int .i64 (Qph l v).2]):=by
 refine Qf Qi Tryz.func60 rfl Qam7 (by simp[c60]) fun C hP=>?_;simp only[c60];refine Sz0 ?_;refine Qw (by repeat (first|exact Qv|exact Qp|exact Qq|exact Qr|exact Qs|apply Qo|apply Qu|apply Qx|apply Q2|apply Q3|apply Qk|apply Qz)) [(6,11),(14,60)] [9] (fun m J hp=>∃i,m=l.length-i/\i<=l.length/\J 6= .int .i64 (Qk3 l v i).1/\J 7= .int .i64 (Qk3 l v i).2/\J 14= .int .i64 (i:Nat)) l.length ?_ ?_
 ·refine⟨0,rfl,by omega,?_⟩;refine Sz0 ?_
  try (first|rfl|exact⟨rfl,rfl⟩|exact⟨rfl,rfl,rfl⟩)
 rintro _ J h ⟨i,rfl,hi,j6,j7,j14⟩;obtain⟨s1,s2,s3⟩:=Q1l l v i;have hsc:=Qv2 l v i;generalize hst:Qk3 l v i=st at *
 obtain⟨at_,n⟩:=st;simp only at s1 s2 s3 j6 j7;by_cases c1:i<l.length
 ·have d1:decide ((i:Int)<(l.length:Int))=true:=decide_eq_true (by omega);obtain⟨b1,b2⟩:=hp _ (List.getElem_mem c1);have hm:=Qe2 b1 (by omega:_<=2^36);have hgd:l.getD i default=l[i]:=by simp[c1]
  unfold Qtq at hsc;rw[hgd]at hsc;generalize hx:l[i]=x at *
  refine Sz3 j14 d1 hx ?_;refine Qa hP hm rfl rfl rfl ?_;by_cases e1:Qaz x.1=v
  ·have q1:decide (¬Qaz x.1=(v:Int))=false:=decide_eq_false fun h=>h e1;have q1':(!decide (Qaz x.1=(v:Int)))=false:=by simp[e1]
   rw[if_neg (by simpa using e1)]at hsc;by_cases e2:at_<0
   ·have q2:decide (at_<0)=true:=decide_eq_true e2;simp only[e2,if_true]at hsc;refine Sz8 j6 j7 j14 d1 hx q1 q1' q2 ?_;refine Qh (l.length-(i+1)) (by omega) ⟨i+1,rfl,by omega,?_⟩;rw[hsc];refine Sz2 j6 j7 ?_
    try (first|rfl|trivial|exact⟨rfl,rfl⟩|exact⟨rfl,rfl,rfl⟩)
   ·have q2:decide (at_<0)=false:=decide_eq_false e2;simp only[e2,if_false]at hsc;obtain⟨a,rfl⟩:∃a:Nat,at_=a:=⟨at_.toNat,by omega⟩
    have ha:a<l.length:=by omega
    obtain⟨b3,b4⟩:=hp _ (List.getElem_mem ha);have hga:l.getD ((a:Int)).toNat default=l[a]:=by simp[ha]
    rw[hga]at hsc;generalize hy:l[a]=y at *
    have hd1:=Qcw (v:=(v:Int)) b1 (by omega:_<=2^36);have hd2:=Qcw (v:=(v:Int)) b3 (by omega:_<=2^36);rw[Qhf]at hd1 hd2;have hc:=Q3e b1 b3 hK hE (by omega) (by omega);unfold betT at hsc;generalize Qat x.1 v=dx at *
    generalize Qat y.1 v=dy at *
    generalize Qeb x.1 y.1=cv at *
    refine Sz9 j6 j7 j14 d1 hx hy q1 q1' q2 ?_;refine Qa hP hd1 rfl rfl rfl ?_;refine Sz0 ?_;refine Qa hP hd2 rfl rfl rfl ?_;by_cases e3:dx<dy
    ·have q3:decide (dx<dy)=true:=decide_eq_true e3;rw[q3]at hsc;simp only[Bool.true_or,if_true]at hsc;refine Sz7 j6 j7 j14 d1 hx hy q3 ?_;refine Qh (l.length-(i+1)) (by omega) ⟨i+1,rfl,by omega,?_⟩;rw[hsc];refine Sz2 j6 j7 ?_
     try (first|rfl|trivial|exact⟨rfl,rfl⟩|exact⟨rfl,rfl,rfl⟩)
    have q3:decide (dx<dy)=false:=decide_eq_false e3;rw[q3]at hsc;simp only[Bool.false_or]at hsc;by_cases e4:dx=dy
    ·have q4:decide (dx=dy)=true:=decide_eq_true e4;rw[q4]at hsc;simp only[Bool.true_and]at hsc;refine Sz8 j6 j7 j14 d1 hx hy q3 q4 ?_;refine Qa hP hc rfl rfl rfl ?_;by_cases e5:cv<0
     ·have q5:decide (cv<0)=true:=decide_eq_true e5;simp only[q5,if_true]at hsc;refine Sz9 j6 j7 j14 d1 hx hy q3 q4 q5 ?_;refine Qh (l.length-(i+1)) (by omega) ⟨i+1,rfl,by omega,?_⟩;rw[hsc];refine Sz2 j6 j7 ?_
      try (first|rfl|trivial|exact⟨rfl,rfl⟩|exact⟨rfl,rfl,rfl⟩)
     ·have q5:decide (cv<0)=false:=decide_eq_false e5;simp only[q5,Bool.false_eq_true,if_false]at hsc;refine Sz9 j6 j7 j14 d1 hx hy q3 q4 q5 ?_;refine Qh (l.length-(i+1)) (by omega) ⟨i+1,rfl,by omega,?_⟩;rw[hsc];refine Sz2 j6 j7 ?_
      try (first|rfl|trivial|exact⟨rfl,rfl⟩|exact⟨rfl,rfl,rfl⟩)
    ·have q4:decide (dx=dy)=false:=decide_eq_false e4;simp only[q4,Bool.false_and,Bool.false_eq_true,if_false]at hsc;refine Sz8 j6 j7 j14 d1 hx hy q3 q4 ?_;refine Qh (l.length-(i+1)) (by omega) ⟨i+1,rfl,by omega,?_⟩;rw[hsc];refine Sz2 j6 j7 ?_
     try (first|rfl|trivial|exact⟨rfl,rfl⟩|exact⟨rfl,rfl,rfl⟩)
  ·have q1:decide (¬Qaz x.1=(v:Int))=true:=decide_eq_true e1;have q1':(!decide (Qaz x.1=(v:Int)))=true:=by simp[e1]
   rw[if_pos (by simpa using e1)]at hsc;refine Sz7 j6 j7 j14 d1 hx q1 q1' ?_;refine Qh (l.length-(i+1)) (by omega) ⟨i+1,rfl,by omega,?_⟩;rw[hsc];refine Sz2 j6 j7 ?_
   try (first|rfl|trivial|exact⟨rfl,rfl⟩|exact⟨rfl,rfl,rfl⟩)
 ·obtain rfl:i=l.length:=by omega
  have d1:decide ((l.length:Int)<(l.length:Int))=false:=decide_eq_false (by omega);refine Sz4 j6 j7 j14 d1 ?_;exact Qgn (by unfold Qph;rw[hst]) rfl rfl (Q4 _) (Q4 _)
def Qdl(p:List Tm)(cs:List (List Tm)):List Tm×List (List Tm):=(Qcg p (Qjs p),cs.map (fun c=>Qcg c (Qjs p)))
def Q71(p:List Tm)(cs:List (List Tm)):Bool:=pbB 100 10 p&&(Q32 p&&(decide (0<p.length)&&(decide (p.length<=10)&&(decide (cs.length<=10)&&(cs.all (fun c=>pbB 100 10 c&&decide (c.length<=10))&&(decide (rs (Qjs p)+1<=100)&&(pbB 100 10 (Qdl p cs).1&&(decide (Qa2 (Qdl p cs).1=false)&&(decide (0<(Qdl p cs).1.length)&&(decide ((Qdl p cs).1.length<=10)&&(decide (0<=Qaz (Qdl p cs).1)&&((Qdl p cs).2.all (fun c=>pbB 100 10 c&&(decide (c.length<=10)&&decide (Qa2 c=false)))))))))))))))
theorem Quu{p:List Tm}{cs:List (List Tm)}(h:Q71 p cs=true):Qd Tryz.prog 103 [PV.poly p,PV.polys cs] (· = .tup [PV.el (Qdl p cs),.int .i64 0]):=by
 simp only[Q71,Bool.and_eq_true,decide_eq_true_eq,List.all_eq_true]at h;obtain⟨h1,h2,h3,h4,h5,h6,h7,h8,h9,h10,h11,h12,h13⟩:=h;have hlen:(Qdl p cs).2.length=cs.length:=by simp[Qdl]
 refine Qzl (p:=p) (q:=(Qdl p cs).1) (cs:=cs) (ds:=(Qdl p cs).2) (a:=Qjs p) hlen (by omega) ?_ (fun i hi=>?_) ?_ h10 ?_ ?_
 ·exact Qp2 (K:=100) (E:=10) (Qba h1) (Qje h2) (List.length_pos_iff.1 h3) (by omega) (by omega) (by omega)
 ·have hc:=h6 _ (List.getElem_mem hi);have e:(Qdl p cs).2.getD i []=Qcg cs[i] (Qjs p):=by simp[Qdl,hi]
  rw[e];exact Qk0 (K:=100) (E:=10) (Qba hc.1) h7 (by omega) (by omega) (by omega)
 ·have:=Q1j (p:=(Qdl p cs).1) (E:=10) (fun t ht=>((Qba h8) t ht).m) (by omega)
  rwa[h9]at this
 ·have:=Qpg (p:=(Qdl p cs).2) (f:=38) (g:=Qa2) (fun t ht=>by have hc:=h13 t ht;exact Q1j (E:=10) (fun s hs=>((Qba hc.1) s hs).m) (by omega)) (by omega)
  rwa[show(Qdl p cs).2.any Qa2=false from by rw[List.any_eq_false];intro t ht;have hc:=h13 t ht;simp[hc.2.2]]at this
 ·have:=Q37 (p:=(Qdl p cs).1) (K:=100) (E:=10) (Qba h8) (by omega)
  rwa[show decide (Qaz (Qdl p cs).1<0)=false from decide_eq_false (by omega)]at this
abbrev Qcs:List Tm:=[(1,[])]
abbrev vxP:List Tm:=[(1,[1])]
abbrev p0P:List Tm:=[(1,[0,1]),(-1,[1])]
abbrev p1P:List Tm:=[(1,[0,1]),(1,[1])]
abbrev gP:List Tm:=[(1,[1,1]),(-1,[])]
abbrev yyP:List Tm:=[(1,[0,2])]
abbrev E0:List Tm×List (List Tm):=(p0P,[Qcs,[]])
abbrev E1:List Tm×List (List Tm):=(p1P,[[],Qcs])
abbrev E2:List Tm×List (List Tm):=(vxP,[[(mkRat (-1) 2,[])],[(mkRat 1 2,[])]])
theorem Qao4:Qdl p0P (Qp0 2 0)=E0:=by decide+kernel
theorem Qao5:Qdl p1P (Qp0 2 1)=E1:=by decide+kernel
theorem Qao6:Qdl [(2,[1])] (Qgq Qcs Qcs E1.2 E0.2)=E2:=by decide+kernel
theorem Qadq:Qd Tryz.prog 59 [PV.polys [p0P,p1P]] (· = .tup [PV.ems [E0,E1],.int .i64 0]):=by
 have h:=Qaia (ps:=[p0P,p1P]) (R:=fun i=>if i=0 then E0 else E1) (by simp) (fun i hi=>by
  have:i=0∨i=1:=by simp at hi;omega
  rcases this with rfl|rfl
  ·have:=Quu (p:=p0P) (cs:=Qp0 2 0) (by decide+kernel)
   rwa[Qao4]at this
  ·have:=Quu (p:=p1P) (cs:=Qp0 2 1) (by decide+kernel)
   rwa[Qao5]at this) (fun i hi=>by split<;>simp)
 exact h
theorem Qaij:dvO p0P 1 1 2 [] p1P 0=some (Qcs,[(2,[1])],1):=by decide+kernel
theorem Qanl:Qd Tryz.prog 35 [PV.poly p1P,PV.poly p0P,.int .i64 (1:Nat)] (· = .tup [PV.poly Qcs,PV.poly [(2,[1])],.int .i64 (1:Nat),.int .i64 0]):=by
 have h:=Qmn (f:=p1P) (g:=p0P) (v:=1) (d:=1) (N:=2) (K:=100) (E:=10) (M:=10) (Qje (by decide+kernel)) (Qje (by decide+kernel)) (Qba (by decide+kernel)) (by omega) (by simp) (by decide+kernel) (by decide+kernel) (by decide+kernel) (fun k hk=>by
  have:k=0∨k=1:=by omega
  rcases this with rfl|rfl<;>exact⟨Qba (by decide+kernel),Qba (by decide+kernel)⟩) (by simp) (by omega) (by omega) (by omega) (by omega) (by omega) (by omega) (by omega)
 rwa[Qus,Qaij]at h
theorem Qaik:Qa1 p0P=Qcs:=by decide+kernel
theorem Qanm:Qfj Qcs 1=Qcs:=by decide+kernel
theorem Q4c:Qd Tryz.prog 104 [PV.el E1,PV.el E0,.int .i64 (1:Nat)] (· = .tup [PV.el E2,.int .i64 0]):=by
 refine Q7w (f:=E1) (g:=E0) (v:=1) (q:=Qcs) (r:=[(2,[1])]) (c:=Qcs) (n:=1) (x:=E2) (e:=0) (by simp) rfl Qanl ?_ ?_ ?_ ?_ ?_ ?_
 ·exact Qh6 (K:=100) (E:=10) (Qba (by decide+kernel)) (by simp)
 ·have h:=Q1k (p:=Qcs) (n:=1) (K:=100) (E:=10) (L:=10) (by omega) (Qba (by decide+kernel)) (fun i hi=>by
   have:i=0∨i=1:=by omega
   rcases this with rfl|rfl<;>exact⟨Qba (by decide+kernel),by decide+kernel⟩) (by simp) (by omega) (by omega) (by omega) (by omega)
  rw[Qanm]at h;show Qd Tryz.prog _ [PV.poly (Qa1 p0P),_] _;rw[Qaik];exact h
 ·intro y hy;have:y=[]∨y=Qcs:=by simpa using hy
  rcases this with rfl|rfl<;>exact Qfi (K:=100) (E:=10) (Qba (by decide+kernel)) (Qba (by decide+kernel)) (by omega) (by simp) (by simp) (by simp) (by simp) (by omega)
 ·intro y hy;have:y=Qcs∨y=[]:=by simpa using hy
  rcases this with rfl|rfl<;>exact Qfi (K:=100) (E:=10) (Qba (by decide+kernel)) (Qba (by decide+kernel)) (by omega) (by simp) (by simp) (by simp) (by simp) (by omega)
 ·intro y hy z hz;have h1:y=[]∨y=Qcs:=by simpa using hy
  have h2:z=Qcs∨z=[]:=by simpa using hz
  rcases h1 with rfl|rfl<;>rcases h2 with rfl|rfl<;>exact Qs0 (K:=100) (E:=10) (Qba (by decide+kernel)) (Qba (by decide+kernel)) (by omega) (by omega) (by omega) (Nat.le_trans (by decide+kernel:_<=10) (by omega)) (Nat.le_trans (by decide+kernel:_<=10) (by omega))
 ·have h:=Quu (p:=[(2,[1])]) (cs:=Qgq Qcs Qcs E1.2 E0.2) (by decide+kernel)
  rwa[Qao6]at h
theorem Q72:∀x∈[E0,E1,E2],PB 100 10 x.1/\x.1.length<=2^30:=by
 intro x hx;have:x=E0∨x=E1∨x=E2:=by simpa using hx
 rcases this with rfl|rfl|rfl<;>exact⟨Qba (by decide+kernel),by simp⟩
theorem Qadr:Qd Tryz.prog 61 [PV.ems [E0,E1],.int .i64 (0:Nat),.int .i64 (1:Nat)] (· = .tup [PV.ems [E0,E2],.int .i64 0]):=by
 have h:=Qah9 (l:=[E0,E1]) (at_:=0) (v:=1) (K:=100) (E:=10) (R:=fun _=>E2) (by simp) (by simp) (fun x hx=>Q72 x (by simp at hx ⊢;rcases hx with h|h<;>simp[h])) (fun i hi h0 hm=>by
  have:i=1:=by simp at hi;omega
  subst this;exact Q4c) (fun _ _ _=>by simp)
 have e:Qk4 [E0,E1] 0 1 (fun _=>E2) 2=[E0,E2]:=by decide+kernel
 have h2:([E0,E1]:List (List Tm×List (List Tm))).length=2:=rfl;rw[h2,e]at h;exact h
theorem Qnz{l:List (List Tm×List (List Tm))}{v:Nat}{a:Int}{n:Nat}(hl:∀x∈l,x∈[E0,E1,E2])(hl2:l.length<=100)(hv:v<64)(h:Qph l v=(a,n)):Qd Tryz.prog 60 [PV.ems l,.int .i64 v] (· = .tup [.int .i64 a,.int .i64 n]):=by
 have:=Qaii (l:=l) (v:=v) (K:=100) (E:=10) hv (fun x hx=>Q72 x (hl x hx)) (by omega) (by omega) hl2
 rwa[h]at this
theorem Qann:∀v,v<64->2<=v->Qph [E0,E1] v=(-1,0):=by decide+kernel
def alK(v:Nat):Option (List Tm×List (List Tm)):=if v=0 then some E2 else if v=1 then some E0 else none
theorem Qail:Qd Tryz.prog 27 [PV.polys [p0P,p1P]] (· = .tup [PV.ems [E2,E0],.int .i64 0]):=by
 have h:=Qajs (list:=[p0P,p1P]) (Ls:=fun v=>if 2<=v then [E0,E1]else [E0,E2]) (K:=alK) Qadq (fun v hv=>?_) (fun v e h=>?_)
 ·have e:(List.range 64).filterMap alK=[E2,E0]:=by decide+kernel
  rw[e]at h;exact h
 ·by_cases h2:2<=v
  ·refine⟨0,?_⟩;have e1:alK v=none:=by unfold alK;rw[if_neg (by omega),if_neg (by omega)]
   rw[e1];simp only[h2,if_true,show 2<=v+1 by omega];exact Qh1.none _ (-1) (Qnz (by simp) (by simp) hv (Qann v hv h2))
  ·have:v=0∨v=1:=by omega
   rcases this with rfl|rfl
   ·refine⟨0,?_⟩;exact Qh1.one [E0,E2] 1 (by simp) (Qnz (by simp) (by simp) hv (by decide+kernel))
   ·refine⟨1,?_⟩;exact Qh1.more [E0,E1] [E0,E2] [E0,E2] (0:Nat) (2:Nat) (some E0) 0 (Qnz (by simp) (by simp) hv (by decide+kernel)) (by simp) Qadr (Qh1.one [E0,E2] 0 (by simp) (Qnz (by simp) (by simp) hv (by decide+kernel)))
 ·unfold alK at h;split at h
  ·cases h;simp
  ·split at h
   ·cases h;simp
   ·cases h
abbrev vyP:List Tm:=[(1,[0,1])]
abbrev alD(f _:List Tm):Option (List Tm×List Tm×Nat):=dvO gP 1 1 3 [] f 0
theorem Qads:dvO gP 1 1 3 [] yyP 0=some ([(1,[1,1]),(1,[])],Qcs,2):=by decide+kernel
instance decRSt : DecidableEq RSt := instDecidableEqProd
theorem Qadt:Qlr [gP] alD 1 ([0],[[]],yyP)=some ([2],[[(1,[1,1]),(1,[])]],Qcs):=by decide+kernel
theorem Q4d:PVB 100 10 gP:=⟨Qba (by decide+kernel),(Qje (by decide+kernel)).pvd (Qba (K:=100) (E:=10) (by decide+kernel)) (by omega),by simp⟩
theorem Qao7:PVB 100 10 yyP:=⟨Qba (by decide+kernel),(Qje (by decide+kernel)).pvd (Qba (K:=100) (E:=10) (by decide+kernel)) (by omega),by simp⟩
theorem Qaim:Q7z 12 38 36 37 35 16 gP 0 (alD yyP gP) ([0],[[]],yyP):=by
 have hm:Qaz gP=1:=by decide+kernel
 have hi:Qa1 gP=vxP:=by decide+kernel
 have hd:alD yyP gP=some ([(1,[1,1]),(1,[])],Qcs,2):=Qads;refine⟨?_,?_,?_,fun q r n h=>?_,fun q r n h k hk hk2=>?_,fun q r n h k hk hk2=>?_⟩
 ·exact Qe2 (K:=100) (E:=10) Q4d.b (by simp)
 ·rw[hm];have h:=Qmn (f:=yyP) (g:=gP) (v:=1) (d:=1) (N:=3) (K:=100) (E:=10) (M:=10) (Qje (by decide+kernel)) (Qje (by decide+kernel)) (Qba (by decide+kernel)) (by omega) (by simp) (by decide+kernel) (by decide+kernel) (by decide+kernel) (fun k hk=>by
   have:k=0∨k=1∨k=2:=by omega
   rcases this with rfl|rfl|rfl<;>exact⟨Qba (by decide+kernel),Qba (by decide+kernel)⟩) (by simp) (by omega) (by omega) (by omega) (by omega) (by omega) (by omega) (by omega)
  rwa[Qus]at h
 ·exact Qh6 (K:=100) (E:=10) Q4d.b (by simp)
 ·rw[hd]at h;obtain⟨rfl,rfl,rfl⟩:[(1,[1,1]),(1,[])]=q/\Qcs=r/\2=n:=by simpa using h
  rw[hi];exact Q1k (p:=vxP) (n:=2) (K:=100) (E:=10) (L:=10) (by omega) (Qba (by decide+kernel)) (fun i hi=>by
   have:i=0∨i=1∨i=2:=by omega
   rcases this with rfl|rfl|rfl<;>exact⟨Qba (by decide+kernel),by decide+kernel⟩) (by simp) (by omega) (by omega) (by omega) (by omega)
 ·simp at hk;omega
 ·simp at hk;omega
theorem Q73:Qd Tryz.prog 8 [PV.poly yyP,PV.polys [gP]] (· = .tup [PV.redn ([2],[[(1,[1,1]),(1,[])]],Qcs),.int .i64 0]):=by
 have hc:chV (-1) [gP]=true:=by decide+kernel
 have hR:=Qado (gs:=[gP]) (by simp) (fun p hp=>by rw[List.mem_singleton.1 hp];exact Q4d) (by omega) (by omega);rw[hc]at hR;have h:=Qadn (p:=yyP) (gs:=[gP]) (D:=alD) (G:=fun i s=>i=0∨s=([0],[[]],yyP)) (by simp) (Qadp Qao7 (by omega)) hR (.inr rfl) (fun i hi s hs=>by
  have:i=0:=by simp at hi;omega
  subst this;have:s=([0],[[]],yyP):=hs.resolve_left (by omega);subst this;exact⟨Qaim,fun s' _=>.inl rfl⟩)
 have e:Qlr [gP] alD [gP].length (List.replicate [gP].length 0,List.replicate [gP].length [],yyP)=some ([2],[[(1,[1,1]),(1,[])]],Qcs):=Qadt;rw[e]at h;exact h
theorem al_x:Qrb 0=vxP:=by decide+kernel
theorem al_y:Qrb 1=vyP:=by decide+kernel
theorem Qano:Qhz vyP vxP=p0P:=by decide+kernel
theorem Qanp:Q7 vyP vxP=p1P:=by decide+kernel
theorem Qao8:Qgx vyP vyP=yyP:=by decide+kernel
theorem Qao9:Qgx vxP vyP=[(1,[1,1])]:=by decide+kernel
theorem Qanq:Qch ((1:Int):Rat)=Qcs:=by decide+kernel
theorem al_g:Qhz [(1,[1,1])] Qcs=gP:=by decide+kernel
theorem Qp1{p:List Tm}(h:Q32 p=true):NZ p:=(Qje h).z
theorem Qain:Qd Tryz.prog 7 [] (· = .bool true):=by
 have hx:Qd Tryz.prog 26 [.int .i64 (0:Nat)] (· =PV.poly vxP):=by have:=Qqv (v:=0) (by omega);rwa[show Qrb ((0:Nat):Int)=vxP from al_x]at this
 have hy:Qd Tryz.prog 26 [.int .i64 (1:Nat)] (· =PV.poly vyP):=by have:=Qqv (v:=1) (by omega);rwa[show Qrb ((1:Nat):Int)=vyP from al_y]at this
 have h1:=Qqt (p:=vyP) (q:=vxP) (K:=100) (E:=10) (Qba (by decide+kernel)) (Qba (by decide+kernel)) (Qp1 (by decide+kernel)) (by omega) (by omega) (by omega) (by simp) (by simp);rw[Qano]at h1;have h2:=Ql2 (p:=vyP) (q:=vxP) (K:=100) (E:=10) (Qba (by decide+kernel)) (Qba (by decide+kernel)) (by omega) (by omega) (by simp) (by simp);rw[Qanp]at h2;have h3:=Qqs (p:=vyP) (q:=vyP) (K:=100) (E:=10) (Qba (by decide+kernel)) (Qba (by decide+kernel)) (Qp1 (by decide+kernel)) (Qp1 (by decide+kernel)) (by omega) (by simp) (by simp) (by simp) (by simp);rw[Qao8]at h3;have h4:=Qqs (p:=vxP) (q:=vyP) (K:=100) (E:=10) (Qba (by decide+kernel)) (Qba (by decide+kernel)) (Qp1 (by decide+kernel)) (Qp1 (by decide+kernel)) (by omega) (by simp) (by simp) (by simp) (by simp);rw[Qao9]at h4;have h5:=Q3z (a:=((1:Int):Rat)) (k:=1) (by have:((1:Int):Rat)=1:=rfl;rw[this];exact Qrc) (by omega);rw[Qanq]at h5;have hof:=Qhd (x:=1) (by omega) (by omega);have h6:=Qqt (p:=[(1,[1,1])]) (q:=Qcs) (K:=100) (E:=10) (Qba (by decide+kernel)) (Qba (by decide+kernel)) (Qp1 (by decide+kernel)) (by omega) (by omega) (by omega) (by simp) (by simp);rw[al_g]at h6;have h7:=Qjr (p:=vxP) (q:=vxP) (K:=100) (E:=10) (Qba (by decide+kernel)) (Qba (by decide+kernel)) (by omega) (by omega) (by simp) (by simp);rw[decide_eq_true (p:=vxP=vxP) rfl]at h7;have h8:=Qjr (p:=Qcs) (q:=Qcs) (K:=100) (E:=10) (Qba (by decide+kernel)) (Qba (by decide+kernel)) (by omega) (by omega) (by simp) (by simp);rw[decide_eq_true (p:=Qcs=Qcs) rfl]at h8;have hM:=Qail;obtain⟨c2,hc2⟩:∃c2,E2=(vxP,c2):=⟨_,rfl⟩
 obtain⟨c0,hc0⟩:∃c0,E0=(p0P,c0):=⟨_,rfl⟩
 rw[hc2,hc0]at hM;have hR:=Q73;generalize([[(1,[1,1]),(1,[])]]:List (List Tm))=qq at hR;generalize hmm:([(1,[1,1])]:List Tm)=mm at *
 clear hc2 hc0 hmm;have n1:vxP.length=1:=rfl;generalize vxP=vx at *
 generalize vyP=vy at *
 generalize p0P=p0 at *
 generalize p1P=p1 at *
 generalize yyP=yy at *
 generalize gP=gg at *
 generalize Qcs=on at *
 generalize((1:Int):Rat)=r1 at *
 refine Qf Qi Tryz.func7 rfl Qao1 (by simp[c7]) fun C hP=>?_;simp only[c7];refine Sz0 ?_;refine Qa hP hx rfl rfl rfl ?_;refine Sz0 ?_;refine Qa hP hy rfl rfl rfl ?_;refine Sz0 ?_;refine Qa hP h1 rfl rfl rfl ?_;refine Sz0 ?_;refine Qa hP h2 rfl rfl rfl ?_;refine Sz0 ?_;refine Qci hP hM Q94 rfl ?_;refine Vz0 ?_;refine Qa hP h3 rfl rfl rfl ?_;refine Vz0 ?_;refine Qa hP h4 rfl rfl rfl ?_;refine Vz0 ?_;refine Qa hP hof rfl rfl rfl ?_;refine Vz0 ?_;refine Qa hP h5 rfl rfl rfl ?_;refine Vz0 ?_;refine Qa hP h6 rfl rfl rfl ?_;refine Vz0 ?_;refine Qci hP hR Q94 rfl ?_;refine Vz0 ?_;refine Qa hP h7 rfl rfl rfl ?_;refine Vz0 ?_;refine Qa hP hof rfl rfl rfl ?_;refine Vz0 ?_;refine Qa hP h5 rfl rfl rfl ?_;refine Vz0 ?_;refine Qa hP h8 rfl rfl rfl ?_;refine Vz0 ?_;exact Qc rfl rfl
theorem Q4e{ps:List (List Tm)}{K E:Nat}(hl:ps.length<=100)(hp:∀p∈ps,PB K E p/\Nrm p/\p.length<=2^30)(hE:E<=1048576)(hK:K<=2^32):Qd Tryz.prog 22 [PV.polys ps] (· =PV.polys (ps.map Qa1)):=by
 refine Qf Qi Tryz.func22 rfl Qam2 (by simp[c22]) fun C hP=>?_;simp only[c22];refine Sz0 ?_;refine Qdf 3 900 1 23 (by omega) Tz0 ?_;refine Qw (by repeat (first|exact Qv|exact Qp|exact Qq|exact Qr|exact Qs|apply Qo|apply Qu|apply Qx|apply Q2|apply Q3|apply Qk|apply Qz)) [(3,3),(5,5),(8,17)] [15,16,900] (fun m J hp=>∃i,m=ps.length-i/\i<=ps.length/\J 3= .ms 900 ((ps.map Qa1).take i).length/\J 8= .int .i64 (i:Nat)/\hp 900=some ⟨1,23,((ps.map Qa1).take i).map PV.poly,false⟩) ps.length ?_ ?_
 ·refine⟨0,rfl,by omega,?_⟩;refine Sz0 ?_
  first|rfl|exact⟨rfl,rfl⟩|exact⟨rfl,rfl,rfl⟩
 rintro _ J h ⟨i,rfl,hi,j3,j8,hh⟩;refine Sz2 j3 j8 ?_;refine Qb (fun hg=>?_) (fun hg=>?_)
 ·have hi':i<ps.length:=by omega
  obtain⟨b1,b2,b3⟩:=hp _ (List.getElem_mem hi');have hin:Qd Tryz.prog 37 [PV.poly ps[i]] (· =PV.poly (Qa1 ps[i])):=Qh6 b1 (by omega);have ht:(ps.map Qa1).take (i+1)=(ps.map Qa1).take i++[Qa1 ps[i]]:=by rw[List.take_succ_eq_append_getElem (by simpa using hi')];simp
  have hlt:((ps.map Qa1).take i).length<=100:=by rw[List.length_take,List.length_map];omega
  generalize(ps.map Qa1).take i=A at *
  generalize hx:ps[i]=x at *
  refine Sz3 j3 j8 hx ?_;refine Qa hP hin rfl rfl rfl ?_;refine Sz3 j3 j8 hx ?_;rw[Q9 (f:=PV.poly) (y:=Qa1 x) (xs:=A) (ty':=23) (fz:=false) (Tz1 hh) Qb8 (by omega) rfl (by omega) (by omega)];refine Sz3 j3 j8 hx ?_;refine Qh (ps.length-(i+1)) (by omega) ⟨i+1,rfl,by omega,?_⟩;rw[ht];simp+decide (disch:=first|omega|rfl|(simp+decide only[go_sem,↓reduceIte,List.length_append]<;>rfl)|fail) only[go_sem,↓reduceIte,List.length_append]
  try trivial
 ·obtain rfl:i=ps.length:=by omega
  rw[List.take_of_length_le (by simp)]at j3 hh;refine Vz2 j3 hh ?_;exact Qc (by rw[List.take_of_length_le (by simp)]) rfl
theorem Qy7{ps:List (List Tm)}{K E:Nat}(hl:ps.length<=100)(hp:∀p∈ps,PB K E p/\Nrm p/\p.length<=2^30)(hE:E<=1048576)(hK:K<=2^32):Qd Tryz.prog 23 [PV.polys ps] (· =PV.polys (ps.map Qa1)):=by
 refine Qf Qi Tryz.func23 rfl Qana (by simp[c23]) fun C hP=>?_;simp only[c23];refine Sz0 ?_;refine Qdf 3 900 1 23 (by omega) Tz0 ?_;refine Qw (by repeat (first|exact Qv|exact Qp|exact Qq|exact Qr|exact Qs|apply Qo|apply Qu|apply Qx|apply Q2|apply Q3|apply Qk|apply Qz)) [(3,18)] [17,18,900] (fun m J hp=>∃i,m=ps.length-i/\i<=ps.length/\J 3= .ms 900 ((ps.map Qa1).take i).length/\J 4= .int .i64 (i:Nat)/\hp 900=some ⟨1,23,((ps.map Qa1).take i).map PV.poly,false⟩) ps.length ?_ ?_
 ·refine⟨0,rfl,by omega,?_⟩;refine Sz0 ?_
  first|rfl|exact⟨rfl,rfl⟩|exact⟨rfl,rfl,rfl⟩
 rintro _ J h ⟨i,rfl,hi,j3,j8,hh⟩;refine Sz2 j3 j8 ?_;refine Qb (fun hg=>?_) (fun hg=>?_)
 ·have hi':i<ps.length:=by omega
  obtain⟨b1,b2,b3⟩:=hp _ (List.getElem_mem hi');have hin:Qd Tryz.prog 14 [PV.poly ps[i]] (· =PV.poly (Qa1 ps[i])):=Qtn b1 b2 (by omega) hE hK;have ht:(ps.map Qa1).take (i+1)=(ps.map Qa1).take i++[Qa1 ps[i]]:=by rw[List.take_succ_eq_append_getElem (by simpa using hi')];simp
  have hlt:((ps.map Qa1).take i).length<=100:=by rw[List.length_take,List.length_map];omega
  generalize(ps.map Qa1).take i=A at *
  generalize hx:ps[i]=x at *
  refine Sz3 j3 j8 hx ?_;refine Qa hP hin rfl rfl rfl ?_;refine Sz3 j3 j8 hx ?_;rw[Q9 (f:=PV.poly) (y:=Qa1 x) (xs:=A) (ty':=23) (fz:=false) (Tz1 hh) Qb8 (by omega) rfl (by omega) (by omega)];refine Sz3 j3 j8 hx ?_;refine Qh (ps.length-(i+1)) (by omega) ⟨i+1,rfl,by omega,?_⟩;rw[ht];simp+decide (disch:=first|omega|rfl|(simp+decide only[go_sem,↓reduceIte,List.length_append]<;>rfl)|fail) only[go_sem,↓reduceIte,List.length_append]
  try trivial
 ·obtain rfl:i=ps.length:=by omega
  rw[List.take_of_length_le (by simp)]at j3 hh;refine Vz2 j3 hh ?_;exact Qc (by rw[List.take_of_length_le (by simp)]) rfl
abbrev tmL(ls:List (List RTm)):List (List Tm):=ls.map (List.map RTm.tm)
theorem Q74{ls:List (List RTm)}{k:Nat}(hb:∀l∈ls,∀t∈l,RB k t)(hok:ls.all Qbv=true):PV.sl 1 (ls.map PV.rpoly)=PV.polys (tmL ls):=by show PV.sl 1 _=PV.sl 1 _;congr 1;rw[List.map_map];exact List.map_congr_left fun l hl=>(Qlj (hb l hl) (List.all_eq_true.1 hok l hl)).1
theorem Q75{l:List RTm}{k:Nat}(hk:1<=k)(hb:∀t∈l,RB k t)(hok:Qbv l=true):PB (k+1) 1048576 (l.map RTm.tm)/\Nrm (l.map RTm.tm):=by obtain⟨e1,e2⟩:=Qlj hb hok;refine⟨fun t ht=>?_,e2.nrm⟩;have hv:=e2.t _ ht;obtain⟨x,hx,rfl⟩:=List.mem_map.1 ht;have hr:=(show Raw k x.n x.a x.d from⟨(hb x hx).r.1,(hb x hx).r.2.1,(hb x hx).r.2.2.1,(hb x hx).r.2.2.2,hk⟩).rs;refine⟨?_,MB.ofOk hv.m,Qqg hv.m⟩;show rs (rv x.n x.a x.d)+1<=k+1;omega
theorem Qadu{p:List Tm}{K E:Nat}(h:PB K E p):PB K E (Qa1 p):=by
 unfold Qa1;split
 ·exact h
 ·exact Qil h _ _
theorem Q76(p:List Tm):(Qa1 p).length<=p.length:=by
 unfold Qa1;split
 ·exact Nat.le_refl _
 ·exact Qdp _ _ _
theorem Q0d{ls:List (List RTm)}(hl:ls.length<=1048576)(hp:∀l∈ls,l.length<=1048576/\∀t∈l,RB 1048576 t):Qd Tryz.prog 5 [.sl 1 (ls.map PV.rpoly)] (· = .bool true):=by
 have hal:=Qain;have hw:ls.length<=6->RwP ls:=fun h=>⟨by omega,fun l hl=>⟨(hp l hl).2,(hp l hl).1,fun hok=>Q75 (by omega) (hp l hl).2 hok⟩⟩
 refine Qf Qi Tryz.func5 rfl Qao2 (by simp[c5]) fun C hP=>?_;simp only[c5];refine Sz0 ?_;refine Qb (fun h6=>?_) (fun h6=>?_)
 ·refine Sz0 ?_;refine Qa hP hal rfl rfl rfl ?_;refine Sz0 ?_;exact Qc rfl rfl
 have hw:=hw (by omega);have hRt:=Q1u hw;have hRr:=Q70 hw;refine Sz0 ?_;refine Qw (by repeat (first|exact Qv|exact Qp|exact Qq|exact Qr|exact Qs|apply Qo|apply Qu|apply Qx|apply Q2|apply Q3|apply Qk|apply Qz)) [(2,4),(9,29)] [] (fun m J hp=>∃i,m=ls.length-i/\i<=ls.length/\(∀j (h:j<ls.length),j<i->ls[j].length<=8)/\J 3= .bool ((ls.take i).all Qbv)/\J 4= .int .i64 (i:Nat)) ls.length ?_ ?_
 ·refine⟨0,rfl,by omega,by omega,?_⟩;refine Sz0 ?_
  try (first|rfl|exact⟨rfl,rfl⟩)
 rintro _ J h ⟨i,rfl,hi,h8,j3,j4⟩;by_cases c1:i<ls.length
 ·have d1:decide ((i:Int)<(ls.length:Int))=true:=decide_eq_true (by omega);obtain⟨b1,b2⟩:=hp _ (List.getElem_mem c1);have hr:=Qpc b2 (by omega) (by omega) (by omega:_<2^40);have htk:(ls.take (i+1)).all Qbv=((ls.take i).all Qbv&&Qbv ls[i]):=by rw[List.take_succ_eq_append_getElem c1,List.all_append];simp
  have hadd:ls[i].length<=8->∀j (h:j<ls.length),j<i+1->ls[j].length<=8:=fun h j hj hji=>by
   by_cases e:j=i
   ·subst e;exact h
   ·exact h8 j hj (by omega)
  generalize hx:ls[i]=x at *
  refine Sz4 j3 j4 d1 hx ?_;refine Qb (fun hg=>?_) (fun hg=>?_)
  ·refine Sz0 ?_;refine Qa hP hal rfl rfl rfl ?_;refine Sz0 ?_;exact Qc rfl rfl
  ·generalize(ls.take i).all Qbv=vb at *
   cases vb
   ·refine Sz4 j3 j4 d1 hx ?_;refine Qh (ls.length-(i+1)) (by omega) ⟨i+1,rfl,by omega,hadd (by omega),?_⟩;refine Sz2 j3 htk ?_
    try (first|rfl|trivial|exact⟨rfl,rfl⟩)
   ·refine Sz4 j3 j4 d1 hx ?_;refine Qa hP hr rfl rfl rfl ?_;refine Sz4 j3 j4 d1 hx ?_;refine Qh (ls.length-(i+1)) (by omega) ⟨i+1,rfl,by omega,hadd (by omega),?_⟩;refine Sz2 j3 htk ?_
    try (first|rfl|trivial|exact⟨rfl,rfl⟩)
 ·obtain rfl:i=ls.length:=by omega
  have d1:decide ((ls.length:Int)<(ls.length:Int))=false:=decide_eq_false (by omega);rw[List.take_length]at j3;have hcc:(chB (-1) ls==chB (-1) ls)=true:=by simp
  cases hok:ls.all Qbv
  ·rw[hok]at j3;generalize chB (-1) ls=cb at *
   refine Sz3 j3 j4 d1 ?_;refine Qa hP hRt rfl rfl rfl ?_;refine Sz2 j3 j4 ?_;refine Qa hP hRr rfl rfl rfl ?_;refine Sz3 j3 j4 hcc ?_;refine Qa hP hal rfl rfl rfl ?_;refine Sz0 ?_;exact Qc rfl rfl
  ·rw[hok]at j3;have hb:∀l∈ls,∀t∈l,RB 1048576 t:=fun l hl=>(hp l hl).2;have hmm:∀p∈tmL ls,PB 1048577 1048576 p/\Nrm p/\p.length<=2^30:=fun p hp'=>by obtain⟨l,hl,rfl⟩:=List.mem_map.1 hp';obtain⟨e1,e2⟩:=Q75 (by omega) (hb l hl) (List.all_eq_true.1 hok l hl);exact⟨e1,e2,by rw[List.length_map];have:=(hp l hl).1;omega⟩
   have hI:=Q4e (ps:=tmL ls) (by simp;omega) hmm (by omega) (by omega);have hJ:=Qy7 (ps:=tmL ls) (by simp;omega) hmm (by omega) (by omega);have hS:=Qto (l:=(tmL ls).map Qa1) (K:=1048577) (E:=1048576) (fun c hc=>by obtain⟨p,hp',rfl⟩:=List.mem_map.1 hc;obtain⟨e1,e2,e3⟩:=hmm p hp';exact⟨Qadu e1,Nat.le_trans (Q76 p) (by omega)⟩) (by omega) (by omega) (by simp;omega);rw[<-Q74 hb hok]at hI hJ;generalize(tmL ls).map Qa1=is at *
   generalize chB (-1) ls=cb at *
   refine Sz3 j3 j4 d1 ?_;refine Qa hP hRt rfl rfl rfl ?_;refine Sz2 j3 j4 ?_;refine Qa hP hRr rfl rfl rfl ?_;refine Sz3 j3 j4 hcc ?_;refine Qa hP hI rfl rfl rfl ?_;refine Sz0 ?_;refine Qa hP hJ rfl rfl rfl ?_;refine Sz0 ?_;refine Qa hP hS rfl rfl rfl ?_;refine Sz0 ?_;refine Qa hP hal rfl rfl rfl ?_;refine Sz0 ?_;exact Qc rfl rfl
open Go Go.FW Go.ChangeShapes Go.WideShapes Go.ChangeAt Go.RowKit
theorem Qj8(H:Type)(enc:TypeId×Value->H)(W:World)(base:Nat)(args:Array Value)(ds gs:List (DataW H))(before:List MemPlace)
  (Qd2:∀(j:Nat) t v,Tryz.f5.params[j]? =some t->args[j]? =some v->Value.okWide Tryz.prog W .any base t v)
  (hW:DataW.Whole enc Tryz.prog Tryz.f5.params.toList Rows.triangularChainsSpec.vars false W args.toList ds gs before) (hk:Rows.uptoSmall H (ds++gs)=true):
  Calls Tryz.prog 5 args W fun e W'=>∃v,e= .returned v/\Rows.triangularChainsSpec.post enc Tryz.prog Tryz.f5 false true false false W args v W':=by
 have hW':=hW;obtain⟨p,q,hA0,hV,rfl,hfz,hnd⟩:=hW;have hA:DataW.TrodAll enc Tryz.prog W 0 (fun _=>true) true Tryz.f5.params.toList args.toList ds p:=hA0;rw[Tryz.params5]at hA Qd2;obtain⟨v0,vs0,e0,ds0,p0,q0,hargs,rfl,rfl,h0,r0⟩:=trodAll_cons hA;obtain⟨rfl,rfl,rfl⟩:=trodAll_nil r0;obtain rfl:args= #[v0]:=by cases args;simp_all
 obtain⟨rfl,rfl⟩:=trodVars_none hV;have hb:=Qac4 hk;simp only[List.append_nil,Rows.uptoBulkAll]at hb;obtain⟨a0,g0,b0⟩:=Q7r (Qd2 0 _ v0 rfl rfl) h0 (by omega);exact Q7s hW' rfl (by kernel_rfl) (by kernel_rfl) rfl (Q0d b0.1 fun l hl=>⟨(b0.2 l hl).1,fun t ht=>((b0.2 l hl).2 t ht).1⟩) rfl
  (Qac6 (vs:=[v0]) (by
   intro i x hx v hv
   match i,hx,hv with
   |0,hx,hv=>simp at hx hv;subst hx hv;exact g0
   |i+1,hx,hv=>simp at hx) rfl)
theorem Qk5(os:Os)(started:os.Started)(H:Type)(enc:TypeId×Value->H)(F:Stop.Interp):
  ReturnsInHanded {} Tryz.checked os 5 .any ((Rows.OpenSpec.upto Rows.triangularChainsSpec).pre6 enc Tryz.prog Tryz.f5 Rows.triangularChainsUptoRow.domain false) (((Rows.OpenSpec.upto Rows.triangularChainsSpec).at F).post enc Tryz.prog Tryz.f5 false true false false):=by
 refine returnsInHanded_of_cond (C:=Tryz.checked) (s:=Rows.OpenSpec.upto Rows.triangularChainsSpec) (k:=Rows.uptoSmall) rfl own started (by kernel_rfl) Tryz.func5
  (OpenSpec.witness (enc:=enc) (C:=Tryz.checked) (s:=Rows.OpenSpec.upto Rows.triangularChainsSpec) (k:=Rows.uptoSmall) rfl false ⟨#[],#[.slice none 0 0],[]⟩ 8 (by kernel_rfl) (by kernel_rfl) (by kernel_rfl)
   (x:=([.nil],[],[])) (by kernel_rfl) rfl (by kernel_rfl)) ?_
 intro W base args ds gs before Qd2 hW _ hk _;exact Qj8 H enc W base args ds gs before Qd2 hW hk
theorem triangularChains_proved:Rows.TriangularChainsUptoSaid:=
 OpenClaim.holds_of_cond 5 Tryz.f5 rfl rfl rfl rfl rfl rfl rfl ⟨rfl,rfl,rfl,rfl,rfl⟩ rfl rfl rfl rfl rfl (by kernel_rfl) Tryz.func5 (by kernel_rfl)
  (of_decide_eq_true (by kernel_rfl)) (by unfold Func.isWrapper;first|(rw[if_pos (by decide+kernel)];kernel_rfl)|(rw[if_neg (by decide+kernel)];exact⟨rfl,rfl⟩))
  (fun os started H enc _ F=>Qk5 os started H enc F)
end Go.Proofs.YtdaldpkjhcfblaaGreat
