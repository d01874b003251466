/- Part 14 of the proof of TriangularEquation: W11, W15, TR0, TR1, TR2, TR6, TR7, FwXB. Own lemmas; no conditions. -/
import Derived.Test.YtdaldpkjhcfblaaGreatTriangularEquationPart13
set_option maxHeartbeats 1000000
set_option linter.unusedSimpArgs false
set_option linter.unusedVariables false
set_option linter.unnecessarySimpa false
set_option maxRecDepth 100000
namespace Go.Proofs.YtdaldpkjhcfblaaGreat
open Go Go.FW
theorem Qaan{f g:List Tm}{v d:Nat}(nf:Nrm f)(ng:Nrm g):∀k,Qx (Qax (Qae g v d) k) f=Q4 (Qx (dvS g v d f k).1 g) (dvS g v d f k).2
 |0=>by show Qx (Qbe ((1:Int):Rat)) f=Q4 (Qx [] g) f;rw[Q6k,Qez];exact Qtq nf
 | k+1=>by
  have ih:=Qaan (v:=v) (d:=d) nf ng k;obtain⟨n1,n2⟩:=Qjq (v:=v) (d:=d) nf ng k;have hst:dvS g v d f (k+1)=(dvQ (dvS g v d f k).1 (dvS g v d f k).2 g v (Q8 (dvS g v d f k).2 v).toNat d,dvR (dvS g v d f k).2 g v (Q8 (dvS g v d f k).2 v).toNat d):=rfl;rw[hst];have nc:=Qb2 ng v d;have npw:=Qeh nc k;show Qx (Qx (Qax (Qae g v d) k) (Qae g v d)) f=Q4 (Qx (dvQ (dvS g v d f k).1 (dvS g v d f k).2 g v (Q8 (dvS g v d f k).2 v).toNat d) g) (dvR (dvS g v d f k).2 g v (Q8 (dvS g v d f k).2 v).toNat d);generalize(Q8 (dvS g v d f k).2 v).toNat=n;generalize(dvS g v d f k).1=q at *
  generalize(dvS g v d f k).2=r at *
  have nb:Nrm (dvB r v n d):=Qfi (Qb2 n2 v n) v (n-d);unfold dvQ dvR;rw[Qd9 npw nc,Qhp nc npw nf,ih];generalize dvB r v n d=b at *
  generalize Qae g v d=c at *
  have nqg:=Qam n1.s ng.s;have ncq:=Qam nc.s n1.s;have nbg:=Qam nb.s ng.s;have ncr:=Qam nc.s n2.s;have ncqg:=Qam ncq.s ng.s;rw[Qqz ncq nb ng];have e1:Qx c (Q4 (Qx q g) r)=Q4 (Qx c (Qx q g)) (Qx c r):=by have nq2:=Qbt nqg n2;rw[Qd9 nc nq2,Qqz nqg n2 nc,Qd9 nqg nc,Qd9 n2 nc]
  rw[e1,<-Qhp nc n1 ng];generalize Qx (Qx c q) g=A at *
  generalize Qx b g=Y at *
  generalize Qx c r=X at *
  refine Qfd (Qbt ncqg ncr) (Qbt (Qbt ncqg nbg) (Qpg ncr nbg)) fun φ=>?_;rw[Qcz ncqg.c ncr.c,Qcz (Qbt ncqg nbg).c (Qpg ncr nbg).c,Qcz ncqg.c nbg.c,Q1g φ ncr.c nbg];grind
theorem Qys{f g:List Tm}{v d:Nat}(nf:Nrm f)(ng:Nrm g)(hd:Q8 g v=d)(hb:∀k,∃K E,PB K E (dvS g v d f k).2):∀(fuel k:Nat),((dvS g v d f k).2=[]∨Q8 (dvS g v d f k).2 v<fuel)->
  Qe8 g v d fuel (dvS g v d f k).1 (dvS g v d f k).2 k= .tup [PV.poly [],PV.poly [],.int .i64 0,.int .i64 4]∨
  ∃j,k<=j/\j<=k+fuel/\((dvS g v d f j).2=[]∨Q8 (dvS g v d f j).2 v<d)/\
   Qe8 g v d fuel (dvS g v d f k).1 (dvS g v d f k).2 k= .tup [PV.poly (dvS g v d f j).1,PV.poly (dvS g v d f j).2,.int .i64 j,.int .i64 0]
 | 0,k,h0=>by
  refine .inr ⟨k,Nat.le_refl _,by omega,?_,rfl⟩;rcases h0 with h|h
  ·exact .inl h
  ·left;apply Classical.byContradiction;intro hne;obtain⟨K,E,hp⟩:=hb k;have:=(Qe1 hp hne v).1;omega
 | fuel+1,k,h0=>by
  by_cases h:(dvS g v d f k).2=[]∨Q8 (dvS g v d f k).2 v<d
  ·exact .inr ⟨k,Nat.le_refl _,by omega,h,Qi5 h _⟩
  ·by_cases h2:Qaf (dvQ (dvS g v d f k).1 (dvS g v d f k).2 g v (Q8 (dvS g v d f k).2 v).toNat d)=true∨Qaf (dvR (dvS g v d f k).2 g v (Q8 (dvS g v d f k).2 v).toNat d)=true
   ·exact .inl (Qnh h h2)
   ·rw[Qpk h h2];obtain⟨K,E,hp⟩:=hb k;have hne:(dvS g v d f k).2≠[]:=fun e=>h (.inl e);have hdeg:=Q1p (Qjq (v:=v) (d:=d) nf ng k).2 ng hp hne hd (Int.not_lt.1 fun e=>h (.inr e));have hlt:Q8 (dvS g v d f (k+1)).2 v<fuel:=by
     have e:(dvS g v d f (k+1)).2=dvR (dvS g v d f k).2 g v (Q8 (dvS g v d f k).2 v).toNat d:=rfl;rw[e];rcases h0 with h0|h0
     ·exact absurd h0 hne
     ·omega
    rcases Qys nf ng hd hb fuel (k+1) (.inr hlt)with e|⟨j,j1,j2,j3,e⟩
    ·exact .inl e
    ·exact .inr ⟨j,by omega,by omega,j3,e⟩
def c143:SFn:=⟨9,[.t 4],.seq (.rg (.o none (.mv 4 (.c (.bool false))) .nil))<| .seq (.rg (.o none (.mv 5 (.t 0))<|
 .o none (.mv 6 (.t 1))<|
 .o none (.call (some 7) false (.c (.fn 161 [] [])) [(.t 5),(.t 6)])<|
 .o none (.bin 8 .geq false (.t 7) (.c (.int .i64 0)))<|
 .o none (.mv 4 (.t 8)) .nil))<| .ret⟩
theorem Qaky:Qe Tryz.prog Tryz.f143=some c143:=by kernel_rfl
def c161:SFn:=⟨19,[.t 4],.seq (.rg (.o none (.mv 4 (.c (.int .i64 0))) .nil))<| .seq (.seq (.rg (.o none (.mv 6 (.t 0))<|
 .o none (.len 7 (.t 6))<|
 .o none (.mv 8 (.c (.int .i64 0))) .nil))<| .block 0 (.loop (.seq (.rg (.o none (.bin 9 .lss false (.t 8) (.t 7)) .nil))<| .seq (.cond (.t 9) (.skip) (.exit 0))<| .seq (.block 1 (.seq (.rg (.o none (.mv 10 (.t 8))<|
 .o none (.mv 5 (.t 10)) .nil))<| .seq (.rg (.o none (.mv 11 (.t 1))<|
 .o none (.mv 12 (.t 0))<|
 .o none (.mv 13 (.t 5))<|
 .o none (.idx 14 1 (.t 12) (.t 13))<|
 .o none (.ld 15 1 false (.t 14))<|
 .o none (.call (some 16) false (.t 11) [(.t 15)]) .nil))<| .cond (.t 16) (.seq (.rg (.o none (.mv 17 (.t 5))<|
 .o none (.mv 4 (.t 17)) .nil))<| .ret) (.skip)))<| .rg (.o none (.bin 18 .add false (.t 8) (.c (.int .i64 1)))<|
 .o none (.mv 8 (.t 18)) .nil))))<| .seq (.rg (.o none (.mv 4 (.c (.int .i64 (-1)))) .nil))<| .ret⟩
theorem Qakz:Qe Tryz.prog Tryz.f161=some c161:=by kernel_rfl
def c20:SFn:=⟨24,[.t 2],.seq (.rg (.o none (.mv 2 (.c (.bool false))) .nil))<| .seq (.rg (.o none (.mv 3 (.c (.int .i64 (-1)))) .nil))<| .seq (.seq (.rg (.o none (.mv 6 (.t 0))<|
 .o none (.len 7 (.t 6))<|
 .o none (.mv 8 (.c (.int .i64 0))) .nil))<| .block 0 (.loop (.seq (.rg (.o none (.bin 9 .lss false (.t 8) (.t 7)) .nil))<| .seq (.cond (.t 9) (.skip) (.exit 0))<| .seq (.block 1 (.seq (.rg (.o none (.idx 10 1 (.t 6) (.t 8))<|
 .o none (.ld 11 1 false (.t 10))<|
 .o none (.mv 5 (.t 11)) .nil))<| .seq (.seq (.rg (.o none (.mv 12 (.t 5))<|
 .o none (.call (some 13) false (.c (.fn 34 [] [])) [(.t 12)])<|
 .o none (.un 14 .not (.t 13))<|
 .o none (.mv 15 (.t 14))<|
 .o (some (15,false)) (.mv 16 (.t 5))<|
 .o (some (15,false)) (.call (some 17) false (.c (.fn 16 [] [])) [(.t 16)])<|
 .o (some (15,false)) (.mv 18 (.t 3))<|
 .o (some (15,false)) (.bin 19 .leq false (.t 17) (.t 18))<|
 .o none (.pick 20 (.t 15) (.c (.bool true)) (.t 19)) .nil))<| .cond (.t 20) (.seq (.rg (.o none (.mv 2 (.c (.bool false))) .nil))<| .ret) (.skip))<| .rg (.o none (.mv 21 (.t 5))<|
 .o none (.call (some 22) false (.c (.fn 16 [] [])) [(.t 21)])<|
 .o none (.mv 3 (.t 22)) .nil)))<| .rg (.o none (.bin 23 .add false (.t 8) (.c (.int .i64 1)))<|
 .o none (.mv 8 (.t 23)) .nil))))<| .seq (.rg (.o none (.mv 2 (.c (.bool true))) .nil))<| .ret⟩
theorem Qapy:Qe Tryz.prog Tryz.f20=some c20:=by kernel_rfl
def c36:SFn:=⟨16,[.t 4],.seq (.rg (.o none (.mv 4 (.c .nilS)) .nil))<| .seq (.rg (.o none (.call (some 6) false (.c (.fn 32 [] [])) [(.c (.int .i64 1))])<|
 .o none (.call (some 7) false (.c (.fn 75 [] [])) [(.t 6)])<|
 .o none (.mv 5 (.t 7)) .nil))<| .seq (.seq (.rg (.o none (.mv 8 (.t 1))<|
 .o none (.mv 9 (.c (.int .i64 0))) .nil))<| .block 0 (.loop (.seq (.rg (.o none (.bin 10 .lss false (.t 9) (.t 8)) .nil))<| .seq (.cond (.t 10) (.skip) (.exit 0))<| .seq (.block 1 (.rg (.o none (.mv 11 (.t 5))<|
 .o none (.mv 12 (.t 0))<|
 .o none (.call (some 13) false (.c (.fn 12 [] [])) [(.t 11),(.t 12)])<|
 .o none (.mv 5 (.t 13)) .nil)))<| .rg (.o none (.bin 14 .add false (.t 9) (.c (.int .i64 1)))<|
 .o none (.mv 9 (.t 14)) .nil))))<| .seq (.rg (.o none (.mv 15 (.t 5))<|
 .o none (.mv 4 (.t 15)) .nil))<| .ret⟩
theorem Qapz:Qe Tryz.prog Tryz.f36=some c36:=by kernel_rfl
def c38:SFn:=⟨10,[.t 2],.seq (.rg (.o none (.mv 2 (.c (.bool false))) .nil))<| .seq (.rg (.o none (.mv 3 (.t 0))<|
 .o none (.len 4 (.t 3))<|
 .o none (.bin 5 .gtr false (.t 4) (.c (.int .i64 4000)))<|
 .o none (.mv 6 (.t 5))<|
 .o (some (6,false)) (.mv 7 (.t 0))<|
 .o (some (6,false)) (.call (some 8) false (.c (.fn 76 [] [])) [(.t 7),(.c (.fn 77 [] []))])<|
 .o none (.pick 9 (.t 6) (.c (.bool true)) (.t 8))<|
 .o none (.mv 2 (.t 9)) .nil))<| .ret⟩
theorem Qap0:Qe Tryz.prog Tryz.f38=some c38:=by kernel_rfl
def c77:SFn:=⟨6,[.t 2],.seq (.rg (.o none (.box 1 4 54 (.t 0))<|
 .o none (.mv 2 (.c (.bool false))) .nil))<| .seq (.rg (.o none (.fld 3 3 (.t 1))<|
 .o none (.ld 4 1 false (.t 3))<|
 .o none (.call (some 5) false (.c (.fn 78 [] [])) [(.t 4),(.c (.fn 79 [] []))])<|
 .o none (.mv 2 (.t 5)) .nil))<| .ret⟩
theorem Qap1:Qe Tryz.prog Tryz.f77=some c77:=by kernel_rfl
def c79:SFn:=⟨5,[.t 2],.seq (.rg (.o none (.mv 2 (.c (.bool false))) .nil))<| .seq (.rg (.o none (.mv 3 (.t 0))<|
 .o none (.bin 4 .gtr false (.t 3) (.c (.int .i64 1048576)))<|
 .o none (.mv 2 (.t 4)) .nil))<| .ret⟩
theorem Qap2:Qe Tryz.prog Tryz.f79=some c79:=by kernel_rfl
def c144:SFn:=⟨6,[.t 2],.seq (.rg (.o none (.mv 2 (.c (.bool false))) .nil))<| .seq (.rg (.o none (.mv 3 (.t 0))<|
 .o none (.call (some 4) false (.c (.fn 16 [] [])) [(.t 3)])<|
 .o none (.bin 5 .lss false (.t 4) (.c (.int .i64 0)))<|
 .o none (.mv 2 (.t 5)) .nil))<| .ret⟩
theorem Qak0:Qe Tryz.prog Tryz.f144=some c144:=by kernel_rfl
def c60:SFn:=⟨63,[.t 4,.t 5],.seq (.rg (.o none (.mv 4 (.c (.int .i64 0)))<|
 .o none (.mv 5 (.c (.int .i64 0))) .nil))<| .seq (.rg (.o none (.mv 6 (.c (.int .i64 (-1))))<|
 .o none (.mv 7 (.c (.int .i64 0))) .nil))<| .seq (.seq (.rg (.o none (.mv 12 (.t 0))<|
 .o none (.len 13 (.t 12))<|
 .o none (.mv 14 (.c (.int .i64 0))) .nil))<| .block 0 (.loop (.seq (.rg (.o none (.bin 15 .lss false (.t 14) (.t 13)) .nil))<| .seq (.cond (.t 15) (.skip) (.exit 0))<| .seq (.block 1 (.seq (.rg (.o none (.mv 16 (.t 14))<|
 .o none (.idx 17 2 (.t 12) (.t 14))<|
 .o none (.ld 18 2 true (.t 17))<|
 .o none (.alloc 9 2 62 (.agg [.nilS,.nilS]))<|
 .o none (.mv 8 (.t 16))<|
 .o none (.st 2 (.t 9) (.t 18)) .nil))<| .seq (.seq (.rg (.o none (.fld 19 0 (.t 9))<|
 .o none (.ld 20 1 false (.t 19))<|
 .o none (.call (some 21) false (.c (.fn 16 [] [])) [(.t 20)])<|
 .o none (.mv 22 (.t 1))<|
 .o none (.bin 23 .neq false (.t 21) (.t 22)) .nil))<| .cond (.t 23) (.exit 1) (.skip))<| .seq (.rg (.o none (.mv 24 (.t 7))<|
 .o none (.bin 25 .add false (.t 24) (.c (.int .i64 1)))<|
 .o none (.mv 7 (.t 25)) .nil))<| .seq (.seq (.rg (.o none (.mv 26 (.t 6))<|
 .o none (.bin 27 .lss false (.t 26) (.c (.int .i64 0))) .nil))<| .cond (.t 27) (.seq (.rg (.o none (.mv 28 (.t 8))<|
 .o none (.mv 6 (.t 28)) .nil))<| .exit 1) (.skip))<| .seq (.rg (.o none (.fld 29 0 (.t 9))<|
 .o none (.ld 30 1 false (.t 29))<|
 .o none (.mv 31 (.t 1))<|
 .o none (.mv 33 (.t 0))<|
 .o none (.mv 34 (.t 6))<|
 .o none (.idx 35 2 (.t 33) (.t 34))<|
 .o none (.fld 36 0 (.t 35))<|
 .o none (.ld 37 1 false (.t 36))<|
 .o none (.mv 38 (.t 1))<|
 .o none (.call (some 32) true (.c (.fn 17 [] [])) [(.t 30),(.t 31)])<|
 .o none (.call (some 39) true (.c (.fn 17 [] [])) [(.t 37),(.t 38)])<|
 .o none (.mv 10 (.t 32))<|
 .o none (.mv 11 (.t 39)) .nil))<| .seq (.rg (.o none (.mv 40 (.t 10))<|
 .o none (.mv 41 (.t 11))<|
 .o none (.bin 42 .lss false (.t 40) (.t 41))<|
 .o none (.mv 43 (.t 42))<|
 .o (some (43,false)) (.mv 44 (.t 10))<|
 .o (some (43,false)) (.mv 45 (.t 11))<|
 .o (some (43,false)) (.bin 46 .eql false (.t 44) (.t 45))<|
 .o (some (43,false)) (.mv 47 (.t 46))<|
 .o (some (47,true)) (.fld 48 0 (.t 9))<|
 .o (some (47,true)) (.ld 49 1 false (.t 48))<|
 .o (some (47,true)) (.mv 50 (.t 0))<|
 .o (some (47,true)) (.mv 51 (.t 6))<|
 .o (some (47,true)) (.idx 52 2 (.t 50) (.t 51))<|
 .o (some (47,true)) (.fld 53 0 (.t 52))<|
 .o (some (47,true)) (.ld 54 1 false (.t 53))<|
 .o (some (47,true)) (.call (some 55) false (.c (.fn 52 [] [])) [(.t 49),(.t 54)])<|
 .o (some (47,true)) (.bin 56 .lss false (.t 55) (.c (.int .i64 0)))<|
 .o (some (43,false)) (.pick 57 (.t 47) (.t 56) (.c (.bool false)))<|
 .o none (.pick 58 (.t 43) (.c (.bool true)) (.t 57)) .nil))<| .cond (.t 58) (.rg (.o none (.mv 59 (.t 8))<|
 .o none (.mv 6 (.t 59)) .nil)) (.skip)))<| .rg (.o none (.bin 60 .add false (.t 14) (.c (.int .i64 1)))<|
 .o none (.mv 14 (.t 60)) .nil))))<| .seq (.rg (.o none (.mv 61 (.t 6))<|
 .o none (.mv 62 (.t 7))<|
 .o none (.mv 4 (.t 61))<|
 .o none (.mv 5 (.t 62)) .nil))<| .ret⟩
theorem Qap3:Qe Tryz.prog Tryz.f60=some c60:=by kernel_rfl
def c61:SFn:=⟨57,[.t 6,.t 7],.seq (.rg (.o none (.mv 6 (.c .nilS))<|
 .o none (.mv 7 (.c (.int .i64 0))) .nil))<| .seq (.rg (.o none (.mv 8 (.c .nilS)) .nil))<| .seq (.seq (.rg (.o none (.mv 13 (.t 0))<|
 .o none (.len 14 (.t 13))<|
 .o none (.mv 15 (.c (.int .i64 0))) .nil))<| .block 0 (.loop (.seq (.rg (.o none (.bin 16 .lss false (.t 15) (.t 14)) .nil))<| .seq (.cond (.t 16) (.skip) (.exit 0))<| .seq (.block 1 (.seq (.rg (.o none (.mv 17 (.t 15))<|
 .o none (.idx 18 2 (.t 13) (.t 15))<|
 .o none (.ld 19 2 true (.t 18))<|
 .o none (.alloc 10 2 62 (.agg [.nilS,.nilS]))<|
 .o none (.mv 9 (.t 17))<|
 .o none (.st 2 (.t 10) (.t 19)) .nil))<| .seq (.seq (.rg (.o none (.mv 20 (.t 9))<|
 .o none (.mv 21 (.t 1))<|
 .o none (.bin 22 .eql false (.t 20) (.t 21))<|
 .o none (.mv 23 (.t 22))<|
 .o (some (23,false)) (.fld 24 0 (.t 10))<|
 .o (some (23,false)) (.ld 25 1 false (.t 24))<|
 .o (some (23,false)) (.call (some 26) false (.c (.fn 16 [] [])) [(.t 25)])<|
 .o (some (23,false)) (.mv 27 (.t 2))<|
 .o (some (23,false)) (.bin 28 .neq false (.t 26) (.t 27))<|
 .o none (.pick 29 (.t 23) (.c (.bool true)) (.t 28)) .nil))<| .cond (.t 29) (.seq (.rg (.o none (.mv 30 (.t 8))<|
 .o none (.ld 31 2 true (.t 10))<|
 .o none (.bs 32 2 62 [(.t 31)])<|
 .o none (.app 33 2 48 62 (.t 30) (.t 32))<|
 .o none (.mv 8 (.t 33)) .nil))<| .exit 1) (.skip))<| .seq (.rg (.o none (.ld 35 2 true (.t 10))<|
 .o none (.mv 36 (.t 0))<|
 .o none (.mv 37 (.t 1))<|
 .o none (.idx 38 2 (.t 36) (.t 37))<|
 .o none (.ld 39 2 true (.t 38))<|
 .o none (.mv 40 (.t 2))<|
 .br (.o none (.call (some 41) true (.c (.fn 104 [] [])) [(.t 35),(.t 39),(.t 40)])<|
 .o none (.mv 34 (.t 41))<|
 .o none (.ext 42 (.t 34) 0)<|
 .o none (.ext 43 (.t 34) 1)<|
 .o none (.alloc 11 2 62 (.agg [.nilS,.nilS]))<|
 .o none (.st 2 (.t 11) (.t 42))<|
 .o none (.mv 12 (.t 43)) .nil) (.o none (.alloc 11 2 62 (.agg [.nilS,.nilS]))<|
 .o none (.call (some 41) true (.c (.fn 104 [] [])) [(.t 35),(.t 39),(.t 40)])<|
 .o none (.mv 34 (.t 41))<|
 .o none (.ext 42 (.t 34) 0)<|
 .o none (.ext 43 (.t 34) 1)<|
 .o none (.st 2 (.t 11) (.t 42))<|
 .o none (.mv 12 (.t 43)) .nil)))<| .seq (.seq (.rg (.o none (.mv 44 (.t 12))<|
 .o none (.bin 45 .neq false (.t 44) (.c (.int .i64 0))) .nil))<| .cond (.t 45) (.seq (.rg (.o none (.mv 46 (.t 12))<|
 .o none (.mv 6 (.c .nilS))<|
 .o none (.mv 7 (.t 46)) .nil))<| .ret) (.skip))<| .seq (.rg (.o none (.fld 47 0 (.t 11))<|
 .o none (.ld 48 1 false (.t 47))<|
 .o none (.len 49 (.t 48))<|
 .o none (.bin 50 .gtr false (.t 49) (.c (.int .i64 0))) .nil))<| .cond (.t 50) (.rg (.o none (.mv 51 (.t 8))<|
 .o none (.ld 52 2 true (.t 11))<|
 .o none (.bs 53 2 62 [(.t 52)])<|
 .o none (.app 54 2 48 62 (.t 51) (.t 53))<|
 .o none (.mv 8 (.t 54)) .nil)) (.skip)))<| .rg (.o none (.bin 55 .add false (.t 15) (.c (.int .i64 1)))<|
 .o none (.mv 15 (.t 55)) .nil))))<| .seq (.rg (.o none (.mv 56 (.t 8))<|
 .o none (.mv 6 (.t 56))<|
 .o none (.mv 7 (.c (.int .i64 0))) .nil))<| .ret⟩
theorem Qap4:Qe Tryz.prog Tryz.f61=some c61:=by kernel_rfl
def c104:SFn:=⟨65,[.cell 6 2 true,.t 7],.seq (.rg (.o none (.box 3 2 62 (.t 0))<|
 .o none (.box 4 2 62 (.t 1))<|
 .o none (.alloc 6 2 62 (.agg [.nilS,.nilS]))<|
 .o none (.mv 7 (.c (.int .i64 0))) .nil))<| .seq (.rg (.o none (.fld 16 0 (.t 3))<|
 .o none (.ld 17 1 false (.t 16))<|
 .o none (.fld 18 0 (.t 4))<|
 .o none (.ld 19 1 false (.t 18))<|
 .o none (.mv 20 (.t 2))<|
 .o none (.call (some 21) false (.c (.fn 35 [] [])) [(.t 17),(.t 19),(.t 20)])<|
 .o none (.mv 15 (.t 21))<|
 .o none (.ext 22 (.t 15) 0)<|
 .o none (.ext 23 (.t 15) 1)<|
 .o none (.ext 24 (.t 15) 2)<|
 .o none (.ext 25 (.t 15) 3)<|
 .o none (.mv 8 (.t 22))<|
 .o none (.mv 9 (.t 23))<|
 .o none (.mv 10 (.t 24))<|
 .o none (.mv 11 (.t 25)) .nil))<| .seq (.seq (.rg (.o none (.mv 26 (.t 11))<|
 .o none (.bin 27 .neq false (.t 26) (.c (.int .i64 0))) .nil))<| .cond (.t 27) (.seq (.rg (.o none (.bld 28 [.nilS,.nilS] [])<|
 .o none (.mv 29 (.t 11))<|
 .o none (.st 2 (.t 6) (.t 28))<|
 .o none (.mv 7 (.t 29)) .nil))<| .ret) (.skip))<| .seq (.rg (.o none (.fld 30 0 (.t 4))<|
 .o none (.ld 31 1 false (.t 30))<|
 .o none (.call (some 32) false (.c (.fn 37 [] [])) [(.t 31)])<|
 .o none (.mv 33 (.t 10))<|
 .o none (.call (some 34) false (.c (.fn 36 [] [])) [(.t 32),(.t 33)])<|
 .o none (.mv 12 (.t 34)) .nil))<| .seq (.rg (.o none (.mv 13 (.c .nilS)) .nil))<| .seq (.seq (.rg (.o none (.fld 35 1 (.t 3))<|
 .o none (.ld 36 1 false (.t 35))<|
 .o none (.len 37 (.t 36))<|
 .o none (.mv 38 (.c (.int .i64 0))) .nil))<| .block 0 (.loop (.seq (.rg (.o none (.bin 39 .lss false (.t 38) (.t 37)) .nil))<| .seq (.cond (.t 39) (.skip) (.exit 0))<| .seq (.block 1 (.seq (.rg (.o none (.mv 40 (.t 38))<|
 .o none (.mv 14 (.t 40)) .nil))<| .rg (.o none (.mv 41 (.t 13))<|
 .o none (.mv 42 (.t 12))<|
 .o none (.fld 43 1 (.t 3))<|
 .o none (.ld 44 1 false (.t 43))<|
 .o none (.mv 45 (.t 14))<|
 .o none (.idx 46 1 (.t 44) (.t 45))<|
 .o none (.ld 47 1 false (.t 46))<|
 .o none (.mv 49 (.t 8))<|
 .o none (.fld 50 1 (.t 4))<|
 .o none (.ld 51 1 false (.t 50))<|
 .o none (.mv 52 (.t 14))<|
 .o none (.idx 53 1 (.t 51) (.t 52))<|
 .o none (.ld 54 1 false (.t 53))<|
 .o none (.call (some 48) true (.c (.fn 12 [] [])) [(.t 42),(.t 47)])<|
 .o none (.call (some 55) true (.c (.fn 12 [] [])) [(.t 49),(.t 54)])<|
 .o none (.call (some 56) true (.c (.fn 74 [] [])) [(.t 48),(.t 55)])<|
 .o none (.bs 57 1 23 [(.t 56)])<|
 .o none (.app 58 1 24 23 (.t 41) (.t 57))<|
 .o none (.mv 13 (.t 58)) .nil)))<| .rg (.o none (.bin 59 .add false (.t 38) (.c (.int .i64 1)))<|
 .o none (.mv 38 (.t 59)) .nil))))<| .seq (.rg (.o none (.mv 60 (.t 9))<|
 .o none (.mv 61 (.t 13))<|
 .o none (.call (some 62) false (.c (.fn 103 [] [])) [(.t 60),(.t 61)])<|
 .o none (.ext 63 (.t 62) 0)<|
 .o none (.ext 64 (.t 62) 1)<|
 .o none (.st 2 (.t 6) (.t 63))<|
 .o none (.mv 7 (.t 64)) .nil))<| .ret⟩
theorem Qak1:Qe Tryz.prog Tryz.f104=some c104:=by kernel_rfl
def c11:SFn:=⟨31,[.t 2],.seq (.rg (.o none (.mv 2 (.c (.bool false))) .nil))<| .seq (.rg (.o none (.mv 3 (.c (.int .i64 (-1)))) .nil))<| .seq (.seq (.rg (.o none (.mv 4 (.c (.int .i64 0))) .nil))<| .block 0 (.loop (.seq (.seq (.rg (.o none (.mv 5 (.t 4))<|
 .o none (.mv 6 (.t 0))<|
 .o none (.len 7 (.t 6))<|
 .o none (.bin 8 .lss false (.t 5) (.t 7)) .nil))<| .cond (.t 8) (.skip) (.exit 0))<| .seq (.block 1 (.seq (.seq (.rg (.o none (.mv 11 (.t 0))<|
 .o none (.mv 12 (.t 4))<|
 .o none (.idx 13 1 (.t 11) (.t 12))<|
 .o none (.ld 14 1 false (.t 13))<|
 .o none (.call (some 15) false (.c (.fn 19 [] [])) [(.t 14)])<|
 .o none (.un 16 .not (.t 15))<|
 .o none (.mv 17 (.t 16))<|
 .o (some (17,false)) (.mv 18 (.t 0))<|
 .o (some (17,false)) (.mv 19 (.t 4))<|
 .o (some (17,false)) (.idx 20 1 (.t 18) (.t 19))<|
 .o (some (17,false)) (.ld 21 1 false (.t 20))<|
 .o (some (17,false)) (.call (some 22) false (.c (.fn 40 [] [])) [(.t 21)])<|
 .o (some (17,false)) (.mv 23 (.t 3))<|
 .o (some (17,false)) (.bin 24 .leq false (.t 22) (.t 23))<|
 .o none (.pick 25 (.t 17) (.c (.bool true)) (.t 24)) .nil))<| .cond (.t 25) (.seq (.rg (.o none (.mv 2 (.c (.bool false))) .nil))<| .ret) (.skip))<| .rg (.o none (.mv 26 (.t 0))<|
 .o none (.mv 27 (.t 4))<|
 .o none (.idx 28 1 (.t 26) (.t 27))<|
 .o none (.ld 29 1 false (.t 28))<|
 .o none (.call (some 30) false (.c (.fn 40 [] [])) [(.t 29)])<|
 .o none (.mv 3 (.t 30)) .nil)))<| .rg (.o none (.mv 9 (.t 4))<|
 .o none (.bin 10 .add false (.t 9) (.c (.int .i64 1)))<|
 .o none (.mv 4 (.t 10)) .nil))))<| .seq (.rg (.o none (.mv 2 (.c (.bool true))) .nil))<| .ret⟩
theorem Qap5:Qe Tryz.prog Tryz.f11=some c11:=by kernel_rfl
def c13:SFn:=⟨18,[.t 4],.seq (.rg (.o none (.mv 4 (.c .nilS)) .nil))<| .seq (.rg (.o none (.call (some 7) false (.c (.fn 44 [] [])) [(.c (.int .i64 1))])<|
 .o none (.call (some 8) false (.c (.fn 31 [] [])) [(.t 7)])<|
 .o none (.mv 5 (.t 8)) .nil))<| .seq (.seq (.rg (.o none (.mv 6 (.c (.int .i64 0))) .nil))<| .block 0 (.loop (.seq (.seq (.rg (.o none (.mv 9 (.t 6))<|
 .o none (.mv 10 (.t 1))<|
 .o none (.bin 11 .lss false (.t 9) (.t 10)) .nil))<| .cond (.t 11) (.skip) (.exit 0))<| .seq (.block 1 (.rg (.o none (.mv 14 (.t 5))<|
 .o none (.mv 15 (.t 0))<|
 .o none (.call (some 16) false (.c (.fn 30 [] [])) [(.t 14),(.t 15)])<|
 .o none (.mv 5 (.t 16)) .nil)))<| .rg (.o none (.mv 12 (.t 6))<|
 .o none (.bin 13 .add false (.t 12) (.c (.int .i64 1)))<|
 .o none (.mv 6 (.t 13)) .nil))))<| .seq (.rg (.o none (.mv 17 (.t 5))<|
 .o none (.mv 4 (.t 17)) .nil))<| .ret⟩
theorem Qap6:Qe Tryz.prog Tryz.f13=some c13:=by kernel_rfl
def c6:SFn:=⟨68,[.t 6],.seq (.rg (.o none (.mv 6 (.c (.bool false))) .nil))<| .seq (.seq (.rg (.o none (.mv 9 (.t 0))<|
 .o none (.len 10 (.t 9))<|
 .o none (.mv 11 (.t 1))<|
 .o none (.bin 12 .gtr false (.t 10) (.t 11)) .nil))<| .cond (.t 12) (.seq (.rg (.o none (.mv 6 (.c (.bool false))) .nil))<| .ret) (.skip))<| .seq (.seq (.rg (.o none (.mv 7 (.c (.int .i64 0))) .nil))<| .block 0 (.loop (.seq (.seq (.rg (.o none (.mv 13 (.t 7))<|
 .o none (.mv 14 (.t 0))<|
 .o none (.len 15 (.t 14))<|
 .o none (.bin 16 .lss false (.t 13) (.t 15)) .nil))<| .cond (.t 16) (.skip) (.exit 0))<| .seq (.block 1 (.seq (.seq (.rg (.o none (.mv 19 (.t 0))<|
 .o none (.mv 20 (.t 7))<|
 .o none (.idx 21 1 (.t 19) (.t 20))<|
 .o none (.ld 22 1 false (.t 21))<|
 .o none (.call (some 23) false (.c (.fn 24 [] [])) [(.t 22),(.c (.int .i64 4)),(.c (.int .i64 3)),(.c (.int .i64 3))])<|
 .o none (.un 24 .not (.t 23))<|
 .o none (.mv 25 (.t 24))<|
 .o (some (25,false)) (.mv 26 (.t 0))<|
 .o (some (25,false)) (.mv 27 (.t 7))<|
 .o (some (25,false)) (.idx 28 1 (.t 26) (.t 27))<|
 .o (some (25,false)) (.ld 29 1 false (.t 28))<|
 .o (some (25,false)) (.call (some 30) false (.c (.fn 25 [] [])) [(.t 29)])<|
 .o (some (25,false)) (.mv 31 (.t 2))<|
 .o (some (25,false)) (.bin 32 .gtr false (.t 30) (.t 31))<|
 .o none (.pick 33 (.t 25) (.c (.bool true)) (.t 32)) .nil))<| .cond (.t 33) (.seq (.rg (.o none (.mv 6 (.c (.bool false))) .nil))<| .ret) (.skip))<| .seq (.rg (.o none (.mv 8 (.c (.int .i64 0))) .nil))<| .block 2 (.loop (.seq (.seq (.rg (.o none (.mv 34 (.t 8))<|
 .o none (.mv 35 (.t 0))<|
 .o none (.mv 36 (.t 7))<|
 .o none (.idx 37 1 (.t 35) (.t 36))<|
 .o none (.ld 38 1 false (.t 37))<|
 .o none (.len 39 (.t 38))<|
 .o none (.bin 40 .lss false (.t 34) (.t 39)) .nil))<| .cond (.t 40) (.skip) (.exit 2))<| .seq (.block 3 (.seq (.rg (.o none (.mv 43 (.t 0))<|
 .o none (.mv 44 (.t 7))<|
 .o none (.idx 45 1 (.t 43) (.t 44))<|
 .o none (.ld 46 1 false (.t 45))<|
 .o none (.mv 47 (.t 8))<|
 .o none (.idx 48 4 (.t 46) (.t 47))<|
 .o none (.fld 49 0 (.t 48))<|
 .o none (.fld 50 0 (.t 49))<|
 .o none (.fld 51 1 (.t 50))<|
 .o none (.ld 52 1 false (.t 51))<|
 .o none (.len 53 (.t 52))<|
 .o none (.bin 54 .gtr false (.t 53) (.c (.int .i64 1)))<|
 .o none (.mv 55 (.t 54))<|
 .o (some (55,false)) (.mv 56 (.t 0))<|
 .o (some (55,false)) (.mv 57 (.t 7))<|
 .o (some (55,false)) (.idx 58 1 (.t 56) (.t 57))<|
 .o (some (55,false)) (.ld 59 1 false (.t 58))<|
 .o (some (55,false)) (.mv 60 (.t 8))<|
 .o (some (55,false)) (.idx 61 4 (.t 59) (.t 60))<|
 .o (some (55,false)) (.fld 62 0 (.t 61))<|
 .o (some (55,false)) (.fld 63 2 (.t 62))<|
 .o (some (55,false)) (.ld 64 1 false (.t 63))<|
 .o (some (55,false)) (.len 65 (.t 64))<|
 .o (some (55,false)) (.bin 66 .gtr false (.t 65) (.c (.int .i64 1)))<|
 .o none (.pick 67 (.t 55) (.c (.bool true)) (.t 66)) .nil))<| .cond (.t 67) (.seq (.rg (.o none (.mv 6 (.c (.bool false))) .nil))<| .ret) (.skip)))<| .rg (.o none (.mv 41 (.t 8))<|
 .o none (.bin 42 .add false (.t 41) (.c (.int .i64 1)))<|
 .o none (.mv 8 (.t 42)) .nil)))))<| .rg (.o none (.mv 17 (.t 7))<|
 .o none (.bin 18 .add false (.t 17) (.c (.int .i64 1)))<|
 .o none (.mv 7 (.t 18)) .nil))))<| .seq (.rg (.o none (.mv 6 (.c (.bool true))) .nil))<| .ret⟩
theorem Qar0:Qe Tryz.prog Tryz.f6=some c6:=by kernel_rfl
def c7:SFn:=⟨73,[.t 0],.seq (.rg (.o none (.mv 0 (.c (.bool false))) .nil))<| .seq (.rg (.o none (.call (some 7) false (.c (.fn 26 [] [])) [(.c (.int .i64 0))])<|
 .o none (.call (some 8) false (.c (.fn 26 [] [])) [(.c (.int .i64 1))])<|
 .o none (.mv 1 (.t 7))<|
 .o none (.mv 2 (.t 8)) .nil))<| .seq (.rg (.o none (.mv 10 (.t 2))<|
 .o none (.mv 11 (.t 1))<|
 .o none (.call (some 12) false (.c (.fn 28 [] [])) [(.t 10),(.t 11)])<|
 .o none (.mv 13 (.t 2))<|
 .o none (.mv 14 (.t 1))<|
 .o none (.call (some 15) false (.c (.fn 29 [] [])) [(.t 13),(.t 14)])<|
 .o none (.bs 16 1 23 [(.t 12),(.t 15)])<|
 .o none (.call (some 17) false (.c (.fn 27 [] [])) [(.t 16)])<|
 .o none (.mv 9 (.t 17))<|
 .o none (.ext 18 (.t 9) 0)<|
 .o none (.ext 19 (.t 9) 1)<|
 .o none (.mv 3 (.t 18))<|
 .o none (.mv 4 (.t 19)) .nil))<| .seq (.rg (.o none (.mv 21 (.t 2))<|
 .o none (.mv 22 (.t 2))<|
 .o none (.call (some 23) false (.c (.fn 30 [] [])) [(.t 21),(.t 22)])<|
 .o none (.mv 24 (.t 1))<|
 .o none (.mv 25 (.t 2))<|
 .o none (.call (some 26) false (.c (.fn 30 [] [])) [(.t 24),(.t 25)])<|
 .o none (.call (some 27) false (.c (.fn 32 [] [])) [(.c (.int .i64 1))])<|
 .o none (.call (some 28) false (.c (.fn 31 [] [])) [(.t 27)])<|
 .o none (.call (some 29) false (.c (.fn 28 [] [])) [(.t 26),(.t 28)])<|
 .o none (.bs 30 1 23 [(.t 29)])<|
 .o none (.call (some 31) false (.c (.fn 8 [] [])) [(.t 23),(.t 30)])<|
 .o none (.mv 20 (.t 31))<|
 .o none (.ext 32 (.t 20) 0)<|
 .o none (.ext 33 (.t 20) 1)<|
 .o none (.alloc 5 3 29 (.agg [.nilS,.nilS,.nilS]))<|
 .o none (.st 3 (.t 5) (.t 32))<|
 .o none (.mv 6 (.t 33)) .nil))<| .seq (.rg (.o none (.mv 34 (.t 4))<|
 .o none (.bin 35 .eql false (.t 34) (.c (.int .i64 0)))<|
 .o none (.mv 36 (.t 35))<|
 .o (some (36,true)) (.mv 37 (.t 6))<|
 .o (some (36,true)) (.bin 38 .eql false (.t 37) (.c (.int .i64 0)))<|
 .o none (.pick 39 (.t 36) (.t 38) (.c (.bool false)))<|
 .o none (.mv 40 (.t 39))<|
 .o (some (40,true)) (.mv 41 (.t 3))<|
 .o (some (40,true)) (.len 42 (.t 41))<|
 .o (some (40,true)) (.bin 43 .eql false (.t 42) (.c (.int .i64 2)))<|
 .o none (.pick 44 (.t 40) (.t 43) (.c (.bool false)))<|
 .o none (.mv 45 (.t 44))<|
 .o (some (45,true)) (.mv 46 (.t 3))<|
 .o (some (45,true)) (.idx 47 2 (.t 46) (.c (.int .i64 0)))<|
 .o (some (45,true)) (.fld 48 0 (.t 47))<|
 .o (some (45,true)) (.ld 49 1 false (.t 48))<|
 .o (some (45,true)) (.mv 50 (.t 1))<|
 .o (some (45,true)) (.call (some 51) true (.c (.fn 33 [] [])) [(.t 49),(.t 50)])<|
 .o none (.pick 52 (.t 45) (.t 51) (.c (.bool false)))<|
 .o none (.mv 53 (.t 52))<|
 .o (some (53,true)) (.fld 54 0 (.t 5))<|
 .o (some (53,true)) (.ld 55 1 false (.t 54))<|
 .o (some (53,true)) (.len 56 (.t 55))<|
 .o (some (53,true)) (.bin 57 .eql false (.t 56) (.c (.int .i64 1)))<|
 .o none (.pick 58 (.t 53) (.t 57) (.c (.bool false)))<|
 .o none (.mv 59 (.t 58))<|
 .o (some (59,true)) (.fld 60 0 (.t 5))<|
 .o (some (59,true)) (.ld 61 1 false (.t 60))<|
 .o (some (59,true)) (.idx 62 1 (.t 61) (.c (.int .i64 0)))<|
 .o (some (59,true)) (.ld 63 1 false (.t 62))<|
 .o (some (59,true)) (.bin 64 .eql false (.t 63) (.c (.int .i64 2)))<|
 .o none (.pick 65 (.t 59) (.t 64) (.c (.bool false)))<|
 .o none (.mv 66 (.t 65))<|
 .o (some (66,true)) (.fld 67 2 (.t 5))<|
 .o (some (66,true)) (.ld 68 1 false (.t 67))<|
 .o (some (66,true)) (.call (some 69) true (.c (.fn 32 [] [])) [(.c (.int .i64 1))])<|
 .o (some (66,true)) (.call (some 70) true (.c (.fn 31 [] [])) [(.t 69)])<|
 .o (some (66,true)) (.call (some 71) true (.c (.fn 33 [] [])) [(.t 68),(.t 70)])<|
 .o none (.pick 72 (.t 66) (.t 71) (.c (.bool false)))<|
 .o none (.mv 0 (.t 72)) .nil))<| .ret⟩
theorem Qar1:Qe Tryz.prog Tryz.f7=some c7:=by kernel_rfl
def c5:SFn:=⟨49,[.t 2],.seq (.rg (.o none (.mv 2 (.c (.bool false))) .nil))<| .seq (.seq (.rg (.o none (.mv 5 (.t 0))<|
 .o none (.len 6 (.t 5))<|
 .o none (.bin 7 .gtr false (.t 6) (.c (.int .i64 6))) .nil))<| .cond (.t 7) (.seq (.rg (.o none (.call (some 8) false (.c (.fn 7 [] [])) [])<|
 .o none (.mv 2 (.t 8)) .nil))<| .ret) (.skip))<| .seq (.rg (.o none (.mv 3 (.c (.bool true))) .nil))<| .seq (.seq (.rg (.o none (.mv 4 (.c (.int .i64 0))) .nil))<| .block 0 (.loop (.seq (.seq (.rg (.o none (.mv 9 (.t 4))<|
 .o none (.mv 10 (.t 0))<|
 .o none (.len 11 (.t 10))<|
 .o none (.bin 12 .lss false (.t 9) (.t 11)) .nil))<| .cond (.t 12) (.skip) (.exit 0))<| .seq (.block 1 (.seq (.seq (.rg (.o none (.mv 15 (.t 0))<|
 .o none (.mv 16 (.t 4))<|
 .o none (.idx 17 1 (.t 15) (.t 16))<|
 .o none (.ld 18 1 false (.t 17))<|
 .o none (.len 19 (.t 18))<|
 .o none (.bin 20 .gtr false (.t 19) (.c (.int .i64 8))) .nil))<| .cond (.t 20) (.seq (.rg (.o none (.call (some 21) false (.c (.fn 7 [] [])) [])<|
 .o none (.mv 2 (.t 21)) .nil))<| .ret) (.skip))<| .rg (.o none (.mv 22 (.t 3))<|
 .o none (.mv 23 (.t 22))<|
 .o (some (23,true)) (.mv 24 (.t 0))<|
 .o (some (23,true)) (.mv 25 (.t 4))<|
 .o (some (23,true)) (.idx 26 1 (.t 24) (.t 25))<|
 .o (some (23,true)) (.ld 27 1 false (.t 26))<|
 .o (some (23,true)) (.call (some 28) false (.c (.fn 19 [] [])) [(.t 27)])<|
 .o none (.pick 29 (.t 23) (.t 28) (.c (.bool false)))<|
 .o none (.mv 3 (.t 29)) .nil)))<| .rg (.o none (.mv 13 (.t 4))<|
 .o none (.bin 14 .add false (.t 13) (.c (.int .i64 1)))<|
 .o none (.mv 4 (.t 14)) .nil))))<| .seq (.rg (.o none (.mv 30 (.t 0))<|
 .o none (.call (some 31) false (.c (.fn 20 [] [])) [(.t 30)])<|
 .o none (.mv 32 (.t 0))<|
 .o none (.call (some 33) false (.c (.fn 11 [] [])) [(.t 32)])<|
 .o none (.bin 34 .eql true (.t 31) (.t 33))<|
 .o none (.mv 35 (.t 34))<|
 .o (some (35,true)) (.mv 36 (.t 3))<|
 .o (some (35,true)) (.un 37 .not (.t 36))<|
 .o (some (35,true)) (.mv 38 (.t 37))<|
 .o (some (38,false)) (.mv 39 (.t 0))<|
 .o (some (38,false)) (.call (some 40) false (.c (.fn 22 [] [])) [(.t 39)])<|
 .o (some (38,false)) (.mv 41 (.t 0))<|
 .o (some (38,false)) (.call (some 42) false (.c (.fn 23 [] [])) [(.t 41)])<|
 .o (some (38,false)) (.call (some 43) false (.c (.fn 21 [] [])) [(.t 40),(.t 42)])<|
 .o (some (35,true)) (.pick 44 (.t 38) (.c (.bool true)) (.t 43))<|
 .o none (.pick 45 (.t 35) (.t 44) (.c (.bool false)))<|
 .o none (.mv 46 (.t 45))<|
 .o (some (46,true)) (.call (some 47) false (.c (.fn 7 [] [])) [])<|
 .o none (.pick 48 (.t 46) (.t 47) (.c (.bool false)))<|
 .o none (.mv 2 (.t 48)) .nil))<| .ret⟩
def c3:SFn:=⟨42,[.t 4],.seq (.rg (.o none (.mv 4 (.c (.bool false))) .nil))<| .seq (.seq (.rg (.o none (.mv 9 (.t 0))<|
 .o none (.bs 10 1 23 [(.t 9)])<|
 .o none (.call (some 11) false (.c (.fn 6 [] [])) [(.t 10),(.c (.int .i64 1)),(.c (.int .i64 3))])<|
 .o none (.un 12 .not (.t 11))<|
 .o none (.mv 13 (.t 12))<|
 .o (some (13,false)) (.mv 14 (.t 1))<|
 .o (some (13,false)) (.call (some 15) false (.c (.fn 6 [] [])) [(.t 14),(.c (.int .i64 3)),(.c (.int .i64 2))])<|
 .o (some (13,false)) (.un 16 .not (.t 15))<|
 .o none (.pick 17 (.t 13) (.c (.bool true)) (.t 16)) .nil))<| .cond (.t 17) (.seq (.rg (.o none (.call (some 18) false (.c (.fn 7 [] [])) [])<|
 .o none (.mv 4 (.t 18)) .nil))<| .ret) (.skip))<| .seq (.rg (.o none (.mv 20 (.t 0))<|
 .o none (.mv 21 (.t 1))<|
 .o none (.call (some 22) false (.c (.fn 8 [] [])) [(.t 20),(.t 21)])<|
 .o none (.mv 19 (.t 22))<|
 .o none (.ext 23 (.t 19) 0)<|
 .o none (.ext 24 (.t 19) 1)<|
 .o none (.alloc 5 3 29 (.agg [.nilS,.nilS,.nilS]))<|
 .o none (.st 3 (.t 5) (.t 23))<|
 .o none (.mv 6 (.t 24)) .nil))<| .seq (.rg (.o none (.mv 26 (.t 0))<|
 .o none (.mv 27 (.t 1))<|
 .o none (.call (some 28) false (.c (.fn 9 [] [])) [(.t 26),(.t 27)])<|
 .o none (.mv 25 (.t 28))<|
 .o none (.ext 29 (.t 25) 0)<|
 .o none (.ext 30 (.t 25) 1)<|
 .o none (.alloc 7 3 29 (.agg [.nilS,.nilS,.nilS]))<|
 .o none (.st 3 (.t 7) (.t 29))<|
 .o none (.mv 8 (.t 30)) .nil))<| .seq (.rg (.o none (.ld 31 3 true (.t 5))<|
 .o none (.ld 32 3 true (.t 7))<|
 .o none (.call (some 33) false (.c (.fn 10 [] [])) [(.t 31),(.t 32)])<|
 .o none (.mv 34 (.t 33))<|
 .o (some (34,true)) (.mv 35 (.t 6))<|
 .o (some (34,true)) (.mv 36 (.t 8))<|
 .o (some (34,true)) (.bin 37 .eql false (.t 35) (.t 36))<|
 .o none (.pick 38 (.t 34) (.t 37) (.c (.bool false)))<|
 .o none (.mv 39 (.t 38))<|
 .o (some (39,true)) (.call (some 40) false (.c (.fn 7 [] [])) [])<|
 .o none (.pick 41 (.t 39) (.t 40) (.c (.bool false)))<|
 .o none (.mv 4 (.t 41)) .nil))<| .ret⟩
def c4:SFn:=⟨123,[.t 4],.seq (.rg (.o none (.mv 4 (.c (.bool false))) .nil))<| .seq (.seq (.rg (.o none (.mv 11 (.t 0))<|
 .o none (.bs 12 1 23 [(.t 11)])<|
 .o none (.call (some 13) false (.c (.fn 6 [] [])) [(.t 12),(.c (.int .i64 1)),(.c (.int .i64 3))])<|
 .o none (.un 14 .not (.t 13))<|
 .o none (.mv 15 (.t 14))<|
 .o (some (15,false)) (.mv 16 (.t 1))<|
 .o (some (15,false)) (.call (some 17) false (.c (.fn 6 [] [])) [(.t 16),(.c (.int .i64 3)),(.c (.int .i64 2))])<|
 .o (some (15,false)) (.un 18 .not (.t 17))<|
 .o none (.pick 19 (.t 15) (.c (.bool true)) (.t 18))<|
 .o none (.mv 20 (.t 19))<|
 .o (some (20,false)) (.mv 21 (.t 1))<|
 .o (some (20,false)) (.call (some 22) false (.c (.fn 11 [] [])) [(.t 21)])<|
 .o (some (20,false)) (.un 23 .not (.t 22))<|
 .o none (.pick 24 (.t 20) (.c (.bool true)) (.t 23)) .nil))<| .cond (.t 24) (.seq (.rg (.o none (.call (some 25) false (.c (.fn 7 [] [])) [])<|
 .o none (.mv 4 (.t 25)) .nil))<| .ret) (.skip))<| .seq (.rg (.o none (.mv 27 (.t 0))<|
 .o none (.mv 28 (.t 1))<|
 .o none (.call (some 29) false (.c (.fn 8 [] [])) [(.t 27),(.t 28)])<|
 .o none (.mv 26 (.t 29))<|
 .o none (.ext 30 (.t 26) 0)<|
 .o none (.ext 31 (.t 26) 1)<|
 .o none (.alloc 5 3 29 (.agg [.nilS,.nilS,.nilS]))<|
 .o none (.st 3 (.t 5) (.t 30))<|
 .o none (.mv 6 (.t 31)) .nil))<| .seq (.seq (.rg (.o none (.mv 32 (.t 6))<|
 .o none (.bin 33 .neq false (.t 32) (.c (.int .i64 0))) .nil))<| .cond (.t 33) (.seq (.rg (.o none (.mv 34 (.t 6))<|
 .o none (.bin 35 .eql false (.t 34) (.c (.int .i64 4)))<|
 .o none (.mv 36 (.t 35))<|
 .o (some (36,true)) (.call (some 37) false (.c (.fn 7 [] [])) [])<|
 .o none (.pick 38 (.t 36) (.t 37) (.c (.bool false)))<|
 .o none (.mv 4 (.t 38)) .nil))<| .ret) (.skip))<| .seq (.seq (.rg (.o none (.fld 39 0 (.t 5))<|
 .o none (.ld 40 1 false (.t 39))<|
 .o none (.len 41 (.t 40))<|
 .o none (.mv 42 (.t 1))<|
 .o none (.len 43 (.t 42))<|
 .o none (.bin 44 .neq false (.t 41) (.t 43))<|
 .o none (.mv 45 (.t 44))<|
 .o (some (45,false)) (.fld 46 1 (.t 5))<|
 .o (some (45,false)) (.ld 47 1 false (.t 46))<|
 .o (some (45,false)) (.len 48 (.t 47))<|
 .o (some (45,false)) (.mv 49 (.t 1))<|
 .o (some (45,false)) (.len 50 (.t 49))<|
 .o (some (45,false)) (.bin 51 .neq false (.t 48) (.t 50))<|
 .o none (.pick 52 (.t 45) (.c (.bool true)) (.t 51)) .nil))<| .cond (.t 52) (.seq (.rg (.o none (.mv 4 (.c (.bool false))) .nil))<| .ret) (.skip))<| .seq (.rg (.o none (.mv 53 (.t 0))<|
 .o none (.fld 54 2 (.t 5))<|
 .o none (.ld 55 1 false (.t 54))<|
 .o none (.mv 7 (.t 53))<|
 .o none (.mv 8 (.t 55)) .nil))<| .seq (.seq (.rg (.o none (.mv 9 (.c (.int .i64 0))) .nil))<| .block 0 (.loop (.seq (.seq (.rg (.o none (.mv 56 (.t 9))<|
 .o none (.mv 57 (.t 1))<|
 .o none (.len 58 (.t 57))<|
 .o none (.bin 59 .lss false (.t 56) (.t 58)) .nil))<| .cond (.t 59) (.skip) (.exit 0))<| .seq (.block 1 (.seq (.seq (.rg (.o none (.fld 62 0 (.t 5))<|
 .o none (.ld 63 1 false (.t 62))<|
 .o none (.mv 64 (.t 9))<|
 .o none (.idx 65 1 (.t 63) (.t 64))<|
 .o none (.ld 66 1 false (.t 65))<|
 .o none (.bin 67 .lss false (.t 66) (.c (.int .i64 0)))<|
 .o none (.mv 68 (.t 67))<|
 .o (some (68,false)) (.fld 69 0 (.t 5))<|
 .o (some (68,false)) (.ld 70 1 false (.t 69))<|
 .o (some (68,false)) (.mv 71 (.t 9))<|
 .o (some (68,false)) (.idx 72 1 (.t 70) (.t 71))<|
 .o (some (68,false)) (.ld 73 1 false (.t 72))<|
 .o (some (68,false)) (.bin 74 .gtr false (.t 73) (.c (.int .i64 1000)))<|
 .o none (.pick 75 (.t 68) (.c (.bool true)) (.t 74)) .nil))<| .cond (.t 75) (.seq (.rg (.o none (.mv 4 (.c (.bool false))) .nil))<| .ret) (.skip))<| .seq (.rg (.o none (.mv 76 (.t 7))<|
 .o none (.mv 77 (.t 1))<|
 .o none (.mv 78 (.t 9))<|
 .o none (.idx 79 1 (.t 77) (.t 78))<|
 .o none (.ld 80 1 false (.t 79))<|
 .o none (.fld 82 0 (.t 5))<|
 .o none (.ld 83 1 false (.t 82))<|
 .o none (.mv 84 (.t 9))<|
 .o none (.idx 85 1 (.t 83) (.t 84))<|
 .o none (.ld 86 1 false (.t 85))<|
 .o none (.call (some 81) true (.c (.fn 14 [] [])) [(.t 80)])<|
 .o none (.call (some 87) true (.c (.fn 13 [] [])) [(.t 81),(.t 86)])<|
 .o none (.call (some 88) true (.c (.fn 12 [] [])) [(.t 76),(.t 87)])<|
 .o none (.mv 7 (.t 88)) .nil))<| .seq (.rg (.o none (.mv 89 (.t 8))<|
 .o none (.fld 90 1 (.t 5))<|
 .o none (.ld 91 1 false (.t 90))<|
 .o none (.mv 92 (.t 9))<|
 .o none (.idx 93 1 (.t 91) (.t 92))<|
 .o none (.ld 94 1 false (.t 93))<|
 .o none (.mv 95 (.t 1))<|
 .o none (.mv 96 (.t 9))<|
 .o none (.idx 97 1 (.t 95) (.t 96))<|
 .o none (.ld 98 1 false (.t 97))<|
 .o none (.call (some 99) false (.c (.fn 12 [] [])) [(.t 94),(.t 98)])<|
 .o none (.call (some 100) false (.c (.fn 15 [] [])) [(.t 89),(.t 99)])<|
 .o none (.mv 8 (.t 100)) .nil))<| .seq (.rg (.o none (.mv 101 (.t 1))<|
 .o none (.mv 102 (.t 9))<|
 .o none (.idx 103 1 (.t 101) (.t 102))<|
 .o none (.ld 104 1 false (.t 103))<|
 .o none (.call (some 105) false (.c (.fn 16 [] [])) [(.t 104)])<|
 .o none (.mv 10 (.t 105)) .nil))<| .seq (.rg (.o none (.fld 106 2 (.t 5))<|
 .o none (.ld 107 1 false (.t 106))<|
 .o none (.mv 108 (.t 10))<|
 .o none (.mv 110 (.t 1))<|
 .o none (.mv 111 (.t 9))<|
 .o none (.idx 112 1 (.t 110) (.t 111))<|
 .o none (.ld 113 1 false (.t 112))<|
 .o none (.mv 114 (.t 10))<|
 .o none (.call (some 109) true (.c (.fn 17 [] [])) [(.t 107),(.t 108)])<|
 .o none (.call (some 115) true (.c (.fn 17 [] [])) [(.t 113),(.t 114)])<|
 .o none (.bin 116 .geq false (.t 109) (.t 115)) .nil))<| .cond (.t 116) (.seq (.rg (.o none (.mv 4 (.c (.bool false))) .nil))<| .ret) (.skip)))<| .rg (.o none (.mv 60 (.t 9))<|
 .o none (.bin 61 .add false (.t 60) (.c (.int .i64 1)))<|
 .o none (.mv 9 (.t 61)) .nil))))<| .seq (.rg (.o none (.mv 117 (.t 7))<|
 .o none (.mv 118 (.t 8))<|
 .o none (.call (some 119) false (.c (.fn 18 [] [])) [(.t 117),(.t 118)])<|
 .o none (.mv 120 (.t 119))<|
 .o (some (120,true)) (.call (some 121) false (.c (.fn 7 [] [])) [])<|
 .o none (.pick 122 (.t 120) (.t 121) (.c (.bool false)))<|
 .o none (.mv 4 (.t 122)) .nil))<| .ret⟩
theorem Qar2:Qe Tryz.prog Tryz.f4=some c4:=by kernel_rfl
theorem Qaao(x:Int):Qd Tryz.prog 79 [.int .i64 x] (· = .bool (decide (1048576<x))):=by refine Qf Qj Tryz.func79 rfl Qap2 (by simp[c79]) fun C hP=>?_;simp only[c79];refine Sz0 ?_;exact Qc rfl rfl
theorem Qaf4{t:Tm}(h:t.2.length<=2^36):Qd Tryz.prog 77 [PV.term t] (· = .bool (t.2.any fun x=>decide (1048576<x))):=by refine Qf Qj Tryz.func77 rfl Qap1 (by simp[c77]) fun C hP=>?_;simp only[c77];refine Sz0 ?_;refine Qa hP (Qq2 (fun x _=>Qaao x) h) rfl rfl rfl ?_;refine Sz0 ?_;exact Qc rfl rfl
theorem Qxd{p:List Tm}{E:Nat}(hp:∀t∈p,MB E t.2)(hlp:p.length<=2^36):Qd Tryz.prog 38 [PV.poly p] (· = .bool (Qaf p)):=by
 refine Qf Qj Tryz.func38 rfl Qap0 (by simp[c38]) fun C hP=>?_;simp only[c38];refine Sz0 ?_;refine Qab (fun h=>?_) (fun h=>?_)
 ·refine Sz0 ?_;exact Qc (congrArg PV.bool (by rw[Qaf,decide_eq_true (by omega),Bool.true_or])) rfl
 ·refine Sz0 ?_;refine Qa hP (Qq1 (fun t ht=>Qaf4 (by have:=(hp t ht).len;omega)) hlp) rfl rfl rfl ?_;refine Sz0 ?_;exact Qc (congrArg PV.bool (by rw[Qaf,decide_eq_false (by omega),Bool.false_or])) rfl
theorem Qv0{p:List (List Tm)}{f:Nat}{g:List Tm->Bool}(hf:∀t∈p,Qd Tryz.prog f [PV.poly t] (· = .bool (g t)))(hlp:p.length<=2^36):
  Qd Tryz.prog 161 [PV.polys p,.fn f [] []] (· = .int .i64 (Qlg g p)):=by
 refine Qf Qj Tryz.func161 rfl Qakz (by simp[c161]) fun C hP=>?_;simp only[c161];refine Sz0 ?_;refine Qy (by repeat (first|exact Qu|exact Qn|exact Qo|exact Qk|exact Qp|apply Qm|apply Qt|apply Qw|apply Q5|apply Q6|apply Qi)) [(4,5),(8,18)] [] (fun n J hp=>∃i,n=p.length-i/\i<=p.length/\(∀j (h:j<p.length),j<i->g p[j]=false)/\J 8= .int .i64 (i:Nat)) p.length ?_ ?_
 ·refine⟨0,rfl,by omega,by omega,?_⟩;refine Sz0 ?_;rfl
 rintro _ J h ⟨i,rfl,hi,h1,h8⟩;refine Sz1 h8 ?_;refine Qb (fun hg=>?_) (fun hg=>?_)
 ·have hi':i<p.length:=by omega
  have hfi:=hf _ (List.getElem_mem hi');have hat:=fun h=>Qtr (g:=g) hi' h h1;have hadd:g p[i]=false->∀j (h:j<p.length),j<i+1->g p[j]=false:=fun h j hj hji=>by
   by_cases e:j=i
   ·subst e;exact h
   ·exact h1 j hj (by omega)
  generalize hx:p[i]=x at *
  refine Sz2 h8 hx ?_;refine Qa hP hfi rfl rfl rfl ?_;refine Sz2 h8 hx ?_;cases hgx:g x
  ·refine Sz1 h8 ?_;refine Qh (p.length-(i+1)) (by omega) ⟨i+1,rfl,by omega,hadd hgx,?_⟩;exact Tz0
  ·refine Sz1 h8 ?_;exact Qc (by rw[hat hgx]) rfl
 ·obtain rfl:i=p.length:=by omega
  refine Sz0 ?_;exact Qc (by rw[Qph (fun j hj=>h1 j hj hj)]) rfl
theorem Qrf{p:List (List Tm)}{f:Nat}{g:List Tm->Bool}(hf:∀t∈p,Qd Tryz.prog f [PV.poly t] (· = .bool (g t)))(hlp:p.length<=2^36):
  Qd Tryz.prog 143 [PV.polys p,.fn f [] []] (· = .bool (p.any g)):=by
 refine Qf Qj Tryz.func143 rfl Qaky (by simp[c143]) fun C hP=>?_;simp only[c143];refine Sz0 ?_;refine Qa hP (Qv0 hf hlp) rfl rfl rfl ?_;refine Sz0 ?_;exact Qc (congrArg PV.bool (Qq0 g p)) rfl
abbrev PV.el(x:List Tm×List (List Tm)):PV:=.agg [PV.poly x.1,PV.polys x.2]
theorem Q6z{p:List Tm}{K E:Nat}(hp:PB K E p)(hlp:p.length<=2^36):Qd Tryz.prog 144 [PV.poly p] (· = .bool (decide (Q3 p<0))):=by refine Qf Qj Tryz.func144 rfl Qak0 (by simp[c144]) fun C hP=>?_;simp only[c144];refine Sz0 ?_;refine Qa hP (Qea hp hlp) rfl rfl rfl ?_;refine Sz0 ?_;exact Qc rfl rfl
theorem Qxe{p:List Tm}{n K E L:Nat}(hn:n<=4000)(hp:PB K E p)(hb:∀i,i<=n->PB K E (Qax p i)/\(Qax p i).length<=L)(hlp:p.length<=L)(hL:L<=2^17)(hE:E<=2^37)(hK:L*(K+K)<=2^33)(hK2:K<=2^33):
  Qd Tryz.prog 36 [PV.poly p,.int .i64 n] (· =PV.poly (Qax p n)):=by
 have h1:=Qnc;refine Qf Qj Tryz.func36 rfl Qapz (by simp[c36]) fun C hP=>?_;simp only[c36];refine Sz0 ?_;refine Qa hP (Qij (x:=1) (by omega) (by omega)) rfl rfl rfl ?_;refine Sz0 ?_;refine Qa hP (Qyn (a:=((1:Int):Rat)) (k:=1) (by have:((1:Int):Rat)=1:=rfl;rw[this];exact h1) (by omega)) rfl rfl rfl ?_;rw[show Qbe ((1:Int):Rat)=Qax p 0 from rfl];refine Sz0 ?_;refine Qy (by repeat (first|exact Qu|exact Qn|exact Qo|exact Qk|exact Qp|apply Qm|apply Qt|apply Qw|apply Q5|apply Q6|apply Qi|apply Qz)) [(5,5),(9,14)] [] (fun m J hp=>∃i,m=n-i/\i<=n/\J 5=PV.poly (Qax p i)/\J 9= .int .i64 (i:Nat)) n ?_ ?_
 ·refine⟨0,rfl,by omega,?_⟩;refine Sz0 ?_
  try (first|rfl|trivial|exact⟨rfl,rfl⟩)
 rintro _ J h ⟨i,rfl,hi,h5,h9⟩;refine Sz2 h5 h9 ?_;refine Qb (fun hg=>?_) (fun hg=>?_)
 ·have hi':i<n:=by omega
  obtain⟨b1,b2⟩:=hb i (by omega);have hm1:(Qax p i).length*p.length<=2^17*2^17:=Nat.mul_le_mul (by omega) (by omega);have hm2:min (Qax p i).length p.length*(K+K)<=L*(K+K):=Nat.mul_le_mul_right _ (by omega);refine Sz2 h5 h9 ?_;refine Qa hP (Qd2 b1 hp hE (by omega) (by omega) (by omega) (by omega) hK2) rfl rfl rfl ?_;rw[show Qx (Qax p i) p=Qax p (i+1)from rfl];refine Sz2 h5 h9 ?_;refine Qh (n-(i+1)) (by omega) ⟨i+1,rfl,by omega,?_⟩;refine Sz0 ?_
  try trivial
 ·obtain rfl:i=n:=by omega
  refine Sz1 h5 ?_;exact Qc rfl rfl
def betT(v:Nat)(x y:List Tm):Bool:=decide (Q8 x v<Q8 y v)||decide (Q8 x v=Q8 y v)&&decide (Qe0 x y<0)
def Qv1(l:List (List Tm×List (List Tm)))(v:Nat)(s:Int×Nat)(i:Nat):Int×Nat:=
 if Q3 (l.getD i default).1≠v then s else if s.1<0 then((i:Int),s.2+1)else if betT v (l.getD i default).1 (l.getD s.1.toNat default).1 then((i:Int),s.2+1)else(s.1,s.2+1)
def Qmj(l:List (List Tm×List (List Tm)))(v i:Nat):Int×Nat:=(List.range i).foldl (Qv1 l v) (-1,0)
def Qrg(l:List (List Tm×List (List Tm)))(v:Nat):Int×Nat:=Qmj l v l.length
theorem Qyt(l:List (List Tm×List (List Tm)))(v i:Nat):Qmj l v (i+1)=Qv1 l v (Qmj l v i) i:=by unfold Qmj;rw[List.range_succ,List.foldl_append];rfl
theorem Q4l(l:List (List Tm×List (List Tm)))(v:Nat):∀i,-1<=(Qmj l v i).1/\(Qmj l v i).1<i/\(Qmj l v i).2<=i
 |0=>by simp[Qmj]
 | i+1=>by
  have ih:=Q4l l v i;rw[Qyt];unfold Qv1;split
  ·omega
  ·split
   ·simp;omega
   ·split<;>(simp;omega)
def Qht(c q:List Tm)(a b:List (List Tm)):List (List Tm):=List.zipWith (fun x y=>Qgc (Qx c x) (Qx q y)) a b
theorem Qaap{f g:List Tm×List (List Tm)}{v:Int}{q r c:List Tm}{n:Nat}{x:List Tm×List (List Tm)}{e:Int}(hl:f.2.length<=100)(hlen:g.2.length=f.2.length)
  (hd:Qd Tryz.prog 35 [PV.poly f.1,PV.poly g.1,.int .i64 v] (· = .tup [PV.poly q,PV.poly r,.int .i64 n,.int .i64 0]))
  (hi:Qd Tryz.prog 37 [PV.poly g.1] (· =PV.poly (Qao g.1))) (hpw:Qd Tryz.prog 36 [PV.poly (Qao g.1),.int .i64 n] (· =PV.poly c))
  (hm1:∀y∈f.2,Qd Tryz.prog 12 [PV.poly c,PV.poly y] (· =PV.poly (Qx c y))) (hm2:∀y∈g.2,Qd Tryz.prog 12 [PV.poly q,PV.poly y] (· =PV.poly (Qx q y)))
  (hsb:∀y∈f.2,∀z∈g.2,Qd Tryz.prog 74 [PV.poly (Qx c y),PV.poly (Qx q z)] (· =PV.poly (Qgc (Qx c y) (Qx q z))))
  (hpr:Qd Tryz.prog 103 [PV.poly r,PV.polys (Qht c q f.2 g.2)] (· = .tup [PV.el x,.int .i64 e])):
  Qd Tryz.prog 104 [PV.el f,PV.el g,.int .i64 v] (· = .tup [PV.el x,.int .i64 e]):=by
 obtain⟨fp,fc⟩:=f;obtain⟨gp,gc⟩:=g;simp only at *
 refine Qf Qj Tryz.func104 rfl Qak1 (by simp[c104]) fun C hP=>?_;simp only[c104];refine Sz0 ?_;refine Qa hP hd rfl rfl rfl ?_;refine Sz0 ?_;rw[Qaz rfl];refine Sz0 ?_;refine Qa hP hi rfl rfl rfl ?_;refine Sz0 ?_;refine Qa hP hpw rfl rfl rfl ?_;refine Sz0 ?_;refine Qes 13 900 1 23 (by omega) Tz0 ?_;refine Qy (by repeat (first|exact Qu|exact Qn|exact Qo|exact Qk|exact Qp|apply Qm|apply Qt|apply Qw|apply Q5|apply Q6|apply Qi|apply Qz)) [(13,14),(38,59)] [57,58,900] (fun m J hp=>∃i,m=fc.length-i/\i<=fc.length/\J 13= .ms 900 ((Qht c q fc gc).take i).length/\J 38= .int .i64 (i:Nat)/\hp 3=some ⟨2,62,[PV.el (fp,fc)],false⟩/\hp 4=some ⟨2,62,[PV.el (gp,gc)],false⟩/\hp 6=some ⟨2,62,[.agg [.nilS,.nilS]],false⟩/\hp 900=some ⟨1,23,((Qht c q fc gc).take i).map PV.poly,false⟩) fc.length ?_ ?_
 ·refine⟨0,rfl,by omega,?_⟩;refine Sz0 ?_
  first|rfl|exact⟨rfl,rfl⟩|exact⟨rfl,rfl,rfl⟩|trace_state
 rintro _ J h ⟨i,rfl,hi',j13,j38,hb3,hb4,hb6,hh⟩;refine Sz2 j13 j38 ?_;refine Qb (fun hg=>?_) (fun hg=>?_)
 ·have c1:i<fc.length:=by omega
  have c2:i<gc.length:=by omega
  have m1:=hm1 _ (List.getElem_mem c1);have m2:=hm2 _ (List.getElem_mem c2);have m3:=hsb _ (List.getElem_mem c1) _ (List.getElem_mem c2);have hz:i<(Qht c q fc gc).length:=by unfold Qht;rw[List.length_zipWith];omega
  have ht:(Qht c q fc gc).take (i+1)=(Qht c q fc gc).take i++[Qgc (Qx c fc[i]) (Qx q gc[i])]:=by rw[List.take_succ_eq_append_getElem hz];simp[Qht]
  have hlt:((Qht c q fc gc).take i).length<=100:=by rw[List.length_take];omega
  generalize(Qht c q fc gc).take i=A at *
  generalize hx:fc[i]=y at *
  generalize hw:gc[i]=z at *
  refine Sz6 j13 j38 hb3 hb4 hx hw ?_;refine Qa hP m1 rfl rfl rfl ?_;refine Sz6 j13 j38 hb3 hb4 hx hw ?_;refine Qa hP m2 rfl rfl rfl ?_;refine Sz6 j13 j38 hb3 hb4 hx hw ?_;refine Qa hP m3 rfl rfl rfl ?_;refine Sz6 j13 j38 hb3 hb4 hx hw ?_;rw[Qag (f:=PV.poly) (y:=Qgc (Qx c y) (Qx q z)) (xs:=A) (ty':=23) (fz:=false) (Tz1 hh) Qcv (by omega) rfl (by omega) (by omega)];refine Sz4 j13 j38 hb3 hb4 ?_;refine Qh (fc.length-(i+1)) (by omega) ⟨i+1,rfl,by omega,?_⟩;rw[ht];simp+decide (disch:=first|omega|rfl|(simp+decide only[go_sem,↓reduceIte,hb3,hb4,hb6,List.length_append]<;>rfl)|fail) only[go_sem,↓reduceIte,hb3,hb4,hb6,List.length_append]
  try trivial
 ·obtain rfl:i=fc.length:=by omega
  rw[List.take_of_length_le (by unfold Qht;rw[List.length_zipWith];omega)]at j13 hh;refine Sz5 j13 hh hb3 hb4 hb6 ?_;have e0:List.take (Qht c q fc gc).length ((Qht c q fc gc).map PV.poly)=(Qht c q fc gc).map PV.poly:=List.take_of_length_le (by simp);refine Qcb hP hpr (by simp+decide (disch:=first|omega|rfl|(simp+decide only[go_sem,↓reduceIte,hh,Qa6,List.contains_cons,List.contains_nil,List.flatMap_cons,List.flatMap_nil,List.append_nil,e0]<;>rfl)|fail) only[go_sem,↓reduceIte,hh,Qa6,List.contains_cons,List.contains_nil,List.flatMap_cons,List.flatMap_nil,List.append_nil,e0];try rfl) rfl ?_;refine Vz2 hh hb6 ?_;refine Qhk ?_;refine Vz2 hh hb6 ?_;exact Qf9 rfl rfl rfl (Q2 _) (Q2 _)
def Qrh(l:List (List Tm×List (List Tm)))(at_:Nat)(v:Nat)(R:List Tm×List (List Tm)->List Tm×List (List Tm))(i:Nat):List (List Tm×List (List Tm)):=
 if i=at_∨Q3 (l.getD i default).1≠v then [l.getD i default]else if 0<(R (l.getD i default)).1.length then [R (l.getD i default)]else []
def Qmk(l:List (List Tm×List (List Tm)))(at_ v:Nat)(R:List Tm×List (List Tm)->List Tm×List (List Tm))(i:Nat):List (List Tm×List (List Tm)):=(List.range i).flatMap (Qrh l at_ v R)
theorem Q11(l:List (List Tm×List (List Tm)))(at_ v:Nat)(R:List Tm×List (List Tm)->List Tm×List (List Tm)):∀i,(Qmk l at_ v R i).length<=i
 |0=>by simp[Qmk]
 |i+1=>by
  have:=Q11 l at_ v R i;unfold Qmk at *
  rw[List.range_succ,List.flatMap_append,List.length_append];have h2:((([i]:List Nat).flatMap (Qrh l at_ v R))).length<=1:=by simp only[List.flatMap_cons,List.flatMap_nil,List.append_nil];unfold Qrh;split<;>(try split)<;>simp
  omega
theorem Qak2{l:List (List Tm×List (List Tm))}{at_ v K E:Nat}{R:List Tm×List (List Tm)->List Tm×List (List Tm)}(hl:l.length<=100)(hat:at_<l.length)(hp:∀x∈l,PB K E x.1/\x.1.length<=2^30)
  (hdv:∀i (h:i<l.length),i≠at_->Q3 l[i].1=v->Qd Tryz.prog 104 [PV.el l[i],PV.el l[at_],.int .i64 v] (· = .tup [PV.el (R l[i]),.int .i64 0])) (hR:∀x∈l,Q3 x.1=v->(R x).1.length<=2^30):
  Qd Tryz.prog 61 [.sl 2 (l.map PV.el),.int .i64 at_,.int .i64 v] (· = .tup [.sl 2 ((Qmk l at_ v R l.length).map PV.el),.int .i64 0]):=by
 refine Qf Qj Tryz.func61 rfl Qap4 (by simp[c61]) fun C hP=>?_;simp only[c61];refine Sz0 ?_;refine Qes 8 900 2 62 (by omega) Tz0 ?_;refine Qy (by repeat (first|exact Qu|exact Qn|exact Qo|exact Qk|exact Qp|apply Qm|apply Qt|apply Qw|apply Q5|apply Q6|apply Qi|apply Qz)) [(6,12),(15,55)] [10,11,32,33,53,54,900] (fun m J hp=>∃i,m=l.length-i/\i<=l.length/\J 8= .ms 900 (Qmk l at_ v R i).length/\J 15= .int .i64 (i:Nat)/\hp 900=some ⟨2,62,(Qmk l at_ v R i).map PV.el,false⟩) l.length ?_ ?_
 ·refine⟨0,rfl,by omega,?_⟩;refine Sz0 ?_
  first|rfl|exact⟨rfl,rfl⟩|exact⟨rfl,rfl,rfl⟩
 rintro _ J h ⟨i,rfl,hi,j8,j15,hh⟩;refine Sz2 j8 j15 ?_;refine Qb (fun hg=>?_) (fun hg=>?_)
 ·have c1:i<l.length:=by omega
  obtain⟨b1,b2⟩:=hp _ (List.getElem_mem c1);have hm:=Qea b1 (by omega:_<=2^36);have hd:=hdv i c1;have hRl:=hR _ (List.getElem_mem c1);have hln:=Q11 l at_ v R i;have hst:Qmk l at_ v R (i+1)=Qmk l at_ v R i++Qrh l at_ v R i:=by unfold Qmk;rw[List.range_succ,List.flatMap_append];simp
  have hgd:l.getD i default=l[i]:=by simp[c1]
  unfold Qrh at hst;rw[hgd]at hst;generalize Qmk l at_ v R i=A at *
  generalize hx:l[i]=x at *
  generalize hy:l[at_]=y at *
  by_cases e1:i=at_
  ·have q1:decide ((i:Int)=(at_:Int))=true:=decide_eq_true (by omega);rw[if_pos (.inl e1)]at hst;refine Sz4 j8 j15 hx q1 ?_;rw[Qag (f:=PV.el) (y:=x) (xs:=A) (ty':=62) (fz:=false) (Tz1 hh) Qcv (by omega) rfl (by omega) (by omega)];refine Sz4 j8 j15 hx q1 ?_;refine Qh (l.length-(i+1)) (by omega) ⟨i+1,rfl,by omega,?_⟩;rw[hst];simp+decide (disch:=first|omega|rfl|(simp+decide only[go_sem,↓reduceIte,List.length_append]<;>rfl)|fail) only[go_sem,↓reduceIte,List.length_append]
   try trivial
  ·have q1:decide ((i:Int)=(at_:Int))=false:=decide_eq_false (by omega);refine Sz4 j8 j15 hx q1 ?_;refine Qa hP hm rfl rfl rfl ?_;by_cases e2:Q3 x.1=v
   ·have q2:decide (¬Q3 x.1=(v:Int))=false:=decide_eq_false fun h=>h e2;have q2':(!decide (Q3 x.1=(v:Int)))=false:=by simp[e2]
    rw[if_neg (by simp[e1,e2])]at hst;have hd:=hd e1 e2;have hRl:=hRl e2;generalize hr:R x=z at *
    refine Sz7 j8 j15 hx hy q1 q2 q2' ?_;refine Qfq ?_ ?_
    all_goals
     refine Sz7 j8 j15 hx hy q1 q2 q2' ?_;refine Qa hP hd rfl rfl rfl ?_;by_cases e3:0<z.1.length
     ·have q3:decide ((z.1.length:Int)>0)=true:=decide_eq_true (by omega);have q3':decide (0<(z.1.length:Int))=true:=decide_eq_true (by omega);rw[if_pos e3]at hst;refine Sz9 j8 j15 hx hy q1 q2 q2' q3 q3' ?_;rw[Qag (f:=PV.el) (y:=z) (xs:=A) (ty':=62) (fz:=false) (Tz1 hh) Qcv (by omega) rfl (by omega) (by omega)];refine Sz4 j8 j15 hx q1 ?_;refine Qh (l.length-(i+1)) (by omega) ⟨i+1,rfl,by omega,?_⟩;rw[hst];simp+decide (disch:=first|omega|rfl|(simp+decide only[go_sem,↓reduceIte,List.length_append]<;>rfl)|fail) only[go_sem,↓reduceIte,List.length_append]
      try trivial
     ·have q3:decide ((z.1.length:Int)>0)=false:=decide_eq_false (by omega);have q3':decide (0<(z.1.length:Int))=false:=decide_eq_false (by omega);rw[if_neg e3,List.append_nil]at hst;refine Sz9 j8 j15 hx hy q1 q2 q2' q3 q3' ?_;refine Qh (l.length-(i+1)) (by omega) ⟨i+1,rfl,by omega,?_⟩;rw[hst];refine Sz2 j8 hh ?_
      try (first|trivial|exact⟨rfl,rfl⟩)
   ·have q2:decide (¬Q3 x.1=(v:Int))=true:=decide_eq_true e2;have q2':(!decide (Q3 x.1=(v:Int)))=true:=by simp[e2]
    rw[if_pos (.inr e2)]at hst;refine Sz6 j8 j15 hx q1 q2 q2' ?_;rw[Qag (f:=PV.el) (y:=x) (xs:=A) (ty':=62) (fz:=false) (Tz1 hh) Qcv (by omega) rfl (by omega) (by omega)];refine Sz4 j8 j15 hx q1 ?_;refine Qh (l.length-(i+1)) (by omega) ⟨i+1,rfl,by omega,?_⟩;rw[hst];simp+decide (disch:=first|omega|rfl|(simp+decide only[go_sem,↓reduceIte,List.length_append]<;>rfl)|fail) only[go_sem,↓reduceIte,List.length_append]
    try trivial
 ·obtain rfl:i=l.length:=by omega
  refine Vz2 j8 hh ?_;exact Qf9 (by rw[List.take_of_length_le (by simp)]) rfl rfl (Q2 _) (Q2 _)
end Go.Proofs.YtdaldpkjhcfblaaGreat
namespace Go.FW
open Go
variable {fr : Fr} {hp : HP}
theorem Qap8{β e ty:Nat}{xs xs':List PV}{fz:Bool}(hβ:hp β=some ⟨e,ty,xs,fz⟩)(hl:xs'.length=xs.length)
  (hc:∀(i:Nat)(x x':PV),xs[i]? =some x->xs'[i]? =some x'->x'.isData=true/\x'.cells.length=x.cells.length/\∀(j:Nat)(y y':PV),x.cells[j]? =some y->x'.cells[j]? =some y'->PV.le1 y y'):
  Wk fr hp fr (Qv hp β ⟨e,ty,xs',fz⟩):=by
 rintro C tmps w ⟨ρ,hs⟩;obtain⟨hp',hpE⟩:∃f,f=Qv hp β ⟨e,ty,xs',fz⟩:=⟨_,rfl⟩
 rw[<-hpE];have pβ:hp' β=some ⟨e,ty,xs',fz⟩:=by rw[hpE];simp[Qv]
 have po:∀γ,γ≠β->hp' γ=hp γ:=fun γ hγ=>by rw[hpE];simp[Qv,hγ]
 have back:∀(i:Nat)(x':PV),xs'[i]? =some x'->∃x,xs[i]? =some x:=fun i x' h=>by have hi:i<xs'.length:=(List.getElem?_eq_some_iff.1 h).1;exact⟨xs[i]'(by omega),by simp⟩
 have hX:∀c,Xof C ρ hp' c->Xof C ρ hp c:=by
  rintro c (hx|⟨γ,hb,g1,g2,g3⟩)
  ·exact .inl hx
  ·by_cases hγ:γ=β
   ·subst hγ;rw[pβ]at g1;cases g1;exact .inr ⟨γ,_,hβ,g2,g3⟩
   ·rw[po γ hγ]at g1;exact .inr ⟨γ,hb,g1,g2,g3⟩
 have hst:Qku w w (Xof C ρ hp) (Xof C ρ hp'):=⟨fun _ _ _=>rfl,fun c _ hn h=>hn (hX c h),Nat.le_refl _⟩
 have c1:∀γ,Cnd ρ ρ hp hp' w w γ:=fun γ=>by
  by_cases hγ:γ=β
  ·subst hγ;refine⟨rfl,fun hb hq=>?_⟩;rw[hβ]at hq;cases hq;exact⟨_,pβ,rfl,by show xs.length<=xs'.length;omega,fun _ _ _ h=>h,fun h=>⟨List.eq_nil_of_length_eq_zero (by rw[show xs=[]from h]at hl;exact hl),rfl,fun _ _=>rfl⟩⟩
  ·exact⟨rfl,fun hb hq=>⟨hb,by rw[po γ hγ];exact hq,rfl,Nat.le_refl _,fun _ _ _ h=>h,fun h=>⟨h,rfl,fun _ _=>rfl⟩⟩⟩
 refine⟨ρ,hs.sz,hs.ext,hs.keep,fun γ hb1 hγ=>?_,fun γ δ c g1 g2 g3 g4=>?_,fun i=>?_⟩
 ·by_cases hq:γ=β
  ·subst hq;rw[pβ]at hγ;cases hγ;have h:=hs.own γ _ hβ;refine⟨h.epos,fun i x' hx'=>?_,?_,h.fix,h.ro⟩
   ·obtain⟨x,hx⟩:=back i x' hx';obtain⟨d1,d2,_⟩:=hc i x x' hx hx';exact⟨d2.trans (h.len i x hx).1,d1⟩
   ·have hblk:=h.blk;cases hr:ρ γ with
    |none=>rw[hr]at hblk;exact List.eq_nil_of_length_eq_zero (by rw[show xs=[]from hblk]at hl;exact hl)
    |some b=>
     rw[hr]at hblk;obtain⟨b1,b2,cur,cap,k1,k2,k3,k4,k5⟩:=hblk;refine⟨b1,b2,cur,cap,k1,k2,by show xs'.length<=cap;have:xs.length<=cap:=k3;omega,k4,fun i x' hx' j y' hy'=>?_⟩;obtain⟨x,hx⟩:=back i x' hx';obtain⟨_,d2,d3⟩:=hc i x x' hx hx';have hj:j<x'.cells.length:=(List.getElem?_eq_some_iff.1 hy').1;have hy:x.cells[j]? =some (x.cells[j]'(by omega)):=by simp
     exact((k5 i x hx j _ hy).le (d3 j _ y' hy hy')).sub hX
  ·rw[po γ hq]at hγ;obtain⟨q1,q2,q3,q4,q5⟩:=hs.own γ hb1 hγ;refine⟨q1,q2,?_,q4,q5⟩;cases hr:ρ γ with
   |none=>rw[hr]at q3;exact q3
   |some c=>rw[hr]at q3;exact⟨q3.1,q3.2.1,q3.2.2.move rfl rfl rfl rfl hst.rc⟩
 ·have f:∀γ,hp' γ≠none->hp γ≠none:=fun γ hγ=>by
   by_cases hq:γ=β
   ·subst hq;simp[hβ]
   ·rwa[po γ hq]at hγ
  exact hs.inj γ δ c (f γ g1) (f δ g2) g3 g4
 ·exact(hs.slots i).move hst (fun γ _=>(c1 γ).o) (fun γ _=>(c1 γ).weak) (fun γ e' ty' ys _=>c1 γ)
end Go.FW
