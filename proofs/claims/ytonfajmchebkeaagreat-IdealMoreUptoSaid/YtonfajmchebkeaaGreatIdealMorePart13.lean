/- Part 13 of the proof of IdealMore: G17, G18, G15, U11, FwWK. Own lemmas; no conditions. -/
import Derived.Test.YtonfajmchebkeaaGreatIdealMorePart12
set_option linter.unusedSimpArgs false
set_option linter.unnecessarySimpa false
set_option linter.unusedVariables false
namespace Go.Proofs.YtonfajmchebkeaaGreat
open Go Go.FW
set_option maxRecDepth 100000
noncomputable def r9_5 : Array Oper := Qao0 Tryz.f9 5
def g9_5:List GOp:=[⟨none,.bs 64 1 51 []⟩,⟨none,.fld 65 0 (.t 4)⟩,⟨none,.ld 66 1 false (.t 65)⟩,⟨none,.app 67 1 24 51 (.t 64) (.t 66)⟩,⟨none,.mv 68 (.t 3)⟩,⟨none,.bs 69 1 51 [(.t 68)]⟩,⟨none,.app 70 1 24 51 (.t 67) (.t 69)⟩,⟨none,.bs 71 1 3 []⟩,⟨none,.fld 72 1 (.t 4)⟩,⟨none,.ld 73 1 false (.t 72)⟩,⟨none,.app 74 1 8 3 (.t 71) (.t 73)⟩,⟨none,.bs 75 1 3 [(.c (.int .i64 1))]⟩,⟨none,.app 76 1 8 3 (.t 74) (.t 75)⟩,⟨none,.fld 77 2 (.t 4)⟩,⟨none,.ld 78 1 false (.t 77)⟩,⟨none,.bld 79 [.nilS,.nilS,(.int .i64 0),.nilS] [(0,1,(.t 70)),(1,1,(.t 76)),(2,1,(.t 78))]⟩,⟨none,.alloc 9 4 79 (.agg [.nilS,.nilS,(.int .i64 0),.nilS])⟩,⟨none,.st 4 (.t 9) (.t 79)⟩]
def Qb0:List (List Nat):=[[],[],[1],[0,2],[],[4],[3,5,3],[],[],[8],[7,9,6],[],[10,11,10],[],[13],[6,12,14],[],[16,15,12,0,1,2,3,4,5,6,7,8,9,10,11,12,13,14,15,16]]
theorem Qaj2:r9_5.toList.map (Qcv Tryz.prog 140 true r9_5)=g9_5.map some:=by kernel_rfl
theorem Qaj3:r9_5.toList.map (fun o=>(o.after.toList.filter (Region.binds .any)).map (·.on))=Qb0:=by kernel_rfl
noncomputable def c9 : SFn := ⟨140, [.t 8], .seq (.rg (.o none (.box 4 4 79 (.t 0)) <|
 .o none (.mv 8 (.c (.bool false))) .nil)) <| .seq (.seq (.rg (.o none (.ld 17 4 true (.t 4)) <|
 .o none (.call (some 18) false (.c (.fn 40 [] [])) [(.t 17)]) <|
 .o none (.un 19 .not (.t 18)) <|
 .o none (.mv 20 (.t 19)) <|
 .o (some (20, false)) (.mv 21 (.t 1)) <|
 .o (some (20, false)) (.call (some 22) false (.c (.fn 28 [] [])) [(.t 21)]) <|
 .o (some (20, false)) (.un 23 .not (.t 22)) <|
 .o none (.pick 24 (.t 20) (.c (.bool true)) (.t 23)) <|
 .o none (.mv 25 (.t 24)) <|
 .o (some (25, false)) (.mv 26 (.t 2)) <|
 .o (some (25, false)) (.call (some 27) false (.c (.fn 34 [] [])) [(.t 26)]) <|
 .o (some (25, false)) (.un 28 .not (.t 27)) <|
 .o none (.pick 29 (.t 25) (.c (.bool true)) (.t 28)) <|
 .o none (.mv 30 (.t 29)) <|
 .o (some (30, false)) (.mv 31 (.t 3)) <|
 .o (some (30, false)) (.call (some 32) false (.c (.fn 34 [] [])) [(.t 31)]) <|
 .o (some (30, false)) (.un 33 .not (.t 32)) <|
 .o none (.pick 34 (.t 30) (.c (.bool true)) (.t 33)) <|
 .o none (.mv 35 (.t 34)) <|
 .o (some (35, false)) (.mv 36 (.t 3)) <|
 .o (some (35, false)) (.len 37 (.t 36)) <|
 .o (some (35, false)) (.bin 38 .eql false (.t 37) (.c (.int .i64 0))) <|
 .o none (.pick 39 (.t 35) (.c (.bool true)) (.t 38)) <|
 .o none (.mv 40 (.t 39)) <|
 .o (some (40, false)) (.fld 41 0 (.t 4)) <|
 .o (some (40, false)) (.ld 42 1 false (.t 41)) <|
 .o (some (40, false)) (.fld 43 1 (.t 4)) <|
 .o (some (40, false)) (.ld 44 1 false (.t 43)) <|
 .o (some (40, false)) (.call (some 45) false (.c (.fn 29 [] [])) [(.t 42), (.t 44)]) <|
 .o none (.pick 46 (.t 40) (.c (.bool true)) (.t 45)) <|
 .o none (.mv 47 (.t 46)) <|
 .o (some (47, false)) (.fld 48 2 (.t 4)) <|
 .o (some (47, false)) (.ld 49 1 false (.t 48)) <|
 .o (some (47, false)) (.bin 50 .lss false (.t 49) (.c (.int .i64 1))) <|
 .o none (.pick 51 (.t 47) (.c (.bool true)) (.t 50)) <|
 .o none (.mv 52 (.t 51)) <|
 .o (some (52, false)) (.fld 53 2 (.t 4)) <|
 .o (some (52, false)) (.ld 54 1 false (.t 53)) <|
 .o (some (52, false)) (.bin 55 .gtr false (.t 54) (.c (.int .i64 3))) <|
 .o none (.pick 56 (.t 52) (.c (.bool true)) (.t 55)) .nil)) <| .cond (.t 56) (.seq (.rg (.o none (.call (some 57) false (.c (.fn 30 [] [])) []) <|
 .o none (.mv 8 (.t 57)) .nil)) <| .ret) (.skip)) <| .seq (.seq (.rg (.o none (.ld 58 4 true (.t 4)) <|
 .o none (.mv 59 (.t 1)) <|
 .o none (.mv 60 (.t 2)) <|
 .o none (.call (some 61) false (.c (.fn 35 [] [])) [(.t 58), (.t 59), (.t 60)]) <|
 .o none (.bin 62 .neq false (.t 61) (.c (.int .i64 0))) .nil)) <| .cond (.t 62) (.seq (.rg (.o none (.call (some 63) false (.c (.fn 30 [] [])) []) <|
 .o none (.mv 8 (.t 63)) .nil)) <| .ret) (.skip)) <| .seq (.raw 5 r9_5) <| .seq (.seq (.rg (.o none (.mv 10 (.c (.int .i64 0))) .nil)) <| .block 0 (.loop (.seq (.seq (.rg (.o none (.mv 80 (.t 10)) <|
 .o none (.fld 81 3 (.t 4)) <|
 .o none (.ld 82 1 false (.t 81)) <|
 .o none (.len 83 (.t 82)) <|
 .o none (.bin 84 .lss false (.t 80) (.t 83)) .nil)) <| .cond (.t 84) (.skip) (.exit 0)) <| .seq (.block 1 (.rg (.o none (.fld 87 3 (.t 9)) <|
 .o none (.ld 88 1 false (.t 87)) <|
 .o none (.fld 89 3 (.t 4)) <|
 .o none (.ld 90 1 false (.t 89)) <|
 .o none (.mv 91 (.t 10)) <|
 .o none (.idx 92 1 (.t 90) (.t 91)) <|
 .o none (.ld 93 1 false (.t 92)) <|
 .o none (.mv 94 (.t 3)) <|
 .o none (.call (some 95) true (.c (.fn 41 [] [])) [(.t 93), (.t 94)]) <|
 .o none (.bs 96 1 51 [(.t 95)]) <|
 .o none (.app 97 1 24 51 (.t 88) (.t 96)) <|
 .o none (.fld 98 3 (.t 9)) <|
 .o none (.st 1 (.t 98) (.t 97)) .nil))) <| .rg (.o none (.mv 85 (.t 10)) <|
 .o none (.bin 86 .add false (.t 85) (.c (.int .i64 1))) <|
 .o none (.mv 10 (.t 86)) .nil)))) <| .seq (.rg (.o none (.ld 99 4 true (.t 4)) <|
 .o none (.call (some 100) false (.c (.fn 42 [] [])) [(.t 99)]) <|
 .o none (.alloc 11 4 79 (.agg [.nilS, .nilS, (.int .i64 0), .nilS])) <|
 .o none (.st 4 (.t 11) (.t 100)) .nil)) <| .seq (.seq (.rg (.o none (.mv 12 (.c (.int .i64 0))) .nil)) <| .block 2 (.loop (.seq (.seq (.rg (.o none (.mv 101 (.t 12)) <|
 .o none (.fld 102 0 (.t 11)) <|
 .o none (.ld 103 1 false (.t 102)) <|
 .o none (.len 104 (.t 103)) <|
 .o none (.bin 105 .lss false (.t 101) (.t 104)) .nil)) <| .cond (.t 105) (.skip) (.exit 2)) <| .seq (.block 3 (.seq (.rg (.o none (.ld 109 4 true (.t 11)) <|
 .o none (.mv 110 (.t 12)) <|
 .o none (.call (some 111) false (.c (.fn 43 [] [])) [(.t 109), (.t 110)]) <|
 .o none (.mv 108 (.t 111)) <|
 .o none (.ext 112 (.t 108) 0) <|
 .o none (.ext 113 (.t 108) 1) <|
 .o none (.alloc 13 4 79 (.agg [.nilS, .nilS, (.int .i64 0), .nilS])) <|
 .o none (.st 4 (.t 13) (.t 112)) <|
 .o none (.mv 14 (.t 113)) .nil)) <| .seq (.rg (.o none (.mv 114 (.t 14)) .nil)) <| .cond (.t 114) (.seq (.rg (.o none (.mv 8 (.c (.bool false))) .nil)) <| .ret) (.skip))) <| .rg (.o none (.mv 106 (.t 12)) <|
 .o none (.bin 107 .add false (.t 106) (.c (.int .i64 1))) <|
 .o none (.mv 12 (.t 107)) .nil)))) <| .seq (.rg (.o none (.ld 115 4 true (.t 9)) <| .wk <|
 .o none (.mv 116 (.t 1)) <|
 .o none (.mv 117 (.t 2)) <|
 .o none (.ld 119 4 true (.t 11)) <|
 .o none (.mv 120 (.t 1)) <|
 .o none (.mv 121 (.t 2)) <|
 .o none (.call (some 118) true (.c (.fn 35 [] [])) [(.t 115), (.t 116), (.t 117)]) <|
 .o none (.call (some 122) true (.c (.fn 35 [] [])) [(.t 119), (.t 120), (.t 121)]) <|
 .o none (.mv 15 (.t 118)) <|
 .o none (.mv 16 (.t 122)) .nil)) <| .seq (.rg (.o none (.mv 123 (.t 15)) <|
 .o none (.bin 124 .eql false (.t 123) (.c (.int .i64 0))) <|
 .o none (.mv 125 (.t 124)) <|
 .o (some (125, false)) (.mv 126 (.t 15)) <|
 .o (some (125, false)) (.bin 127 .eql false (.t 126) (.c (.int .i64 4))) <|
 .o none (.pick 128 (.t 125) (.c (.bool true)) (.t 127)) <|
 .o none (.mv 129 (.t 128)) <|
 .o (some (129, true)) (.mv 130 (.t 16)) <|
 .o (some (129, true)) (.bin 131 .eql false (.t 130) (.c (.int .i64 0))) <|
 .o (some (129, true)) (.mv 132 (.t 131)) <|
 .o (some (132, false)) (.mv 133 (.t 16)) <|
 .o (some (132, false)) (.bin 134 .eql false (.t 133) (.c (.int .i64 4))) <|
 .o (some (129, true)) (.pick 135 (.t 132) (.c (.bool true)) (.t 134)) <|
 .o none (.pick 136 (.t 129) (.t 135) (.c (.bool false))) <|
 .o none (.mv 137 (.t 136)) <|
 .o (some (137, true)) (.call (some 138) false (.c (.fn 30 [] [])) []) <|
 .o none (.pick 139 (.t 137) (.t 138) (.c (.bool false))) <|
 .o none (.mv 8 (.t 139)) .nil)) <| .ret⟩
theorem Qao1:Qe Tryz.prog Tryz.f9=some c9.strip:=by kernel_rfl
end Go.Proofs.YtonfajmchebkeaaGreat
namespace Go.Proofs.YtonfajmchebkeaaGreat
open Go Go.FW
set_option maxRecDepth 100000
set_option maxHeartbeats 1000000
structure Qas(F:List (List Tm))(ps:List Int)(n:Int)(cs H:List (List Tm))(G f:List Tm)(l:Nat->Bool)(fr:Fr)(hp:HP):Prop where
 f1:fr 1= .sl 1 (H.map PV.poly)
 f2:fr 2=PV.poly G
 f3:fr 3=PV.poly f
 f4:fr 4= .mp 4 0 0
 h4:hp 4=some ⟨4,79,[PV.cert F ps n cs],false⟩
 s0:l 0=true->l 3=false->fr 64= .mso 64 0 0/\hp 64=some ⟨1,51,[],false⟩
 s1:l 1=true->fr 65= .mp 4 0 0
 s2:l 2=true->fr 66= .sl 1 (F.map PV.poly)
 s3:l 3=true->l 6=false->fr 67= .mso 64 0 F.length/\hp 64=some ⟨1,51,F.map PV.poly,false⟩
 s4:l 4=true->fr 68=PV.poly f
 s5:l 5=true->l 6=false->fr 69= .mso 69 0 1/\hp 69=some ⟨1,51,[PV.poly f],false⟩
 s6:l 6=true->fr 70= .sl 1 ((F++[f]).map PV.poly)
 s7:l 7=true->l 10=false->fr 71= .mso 71 0 0/\hp 71=some ⟨1,3,[],false⟩
 s8:l 8=true->fr 72= .mp 4 0 1
 s9:l 9=true->fr 73=PV.mono ps
 s10:l 10=true->l 12=false->fr 74= .mso 71 0 ps.length/\hp 71=some ⟨1,3,ps.map fun x=> .int .i64 x,false⟩
 s11:l 11=true->l 12=false->fr 75= .mso 75 0 1/\hp 75=some ⟨1,3,[.int .i64 1],false⟩
 s12:l 12=true->fr 76=PV.mono (ps++[1])
 s13:l 13=true->fr 77= .mp 4 0 2
 s14:l 14=true->fr 78= .int .i64 n
 s15:l 15=true->fr 79= .agg [.sl 1 ((F++[f]).map PV.poly),PV.mono (ps++[1]),.int .i64 n,.nilS]
 s16:l 16=true->l 17=false->fr 9= .mp 9 0 0/\hp 9=some ⟨4,79,[.agg [.nilS,.nilS,.int .i64 0,.nilS]],false⟩
 s17:l 17=true->fr 9= .mp 9 0 0/\hp 9=some ⟨4,79,[.agg [.sl 1 ((F++[f]).map PV.poly),PV.mono (ps++[1]),.int .i64 n,.nilS]],false⟩
variable {F : List (List Tm)} {ps : List Int} {n : Int} {cs H : List (List Tm)} {G f : List Tm} {l : Nat -> Bool} {fr fr' : Fr} {hp hp' : HP}
theorem Qas.k0(I:Qas F ps n cs H G f l fr hp)(h0:l 0=false)(R:∀k∈Qb0.getD 0 [],l k=true)(D:∀j,l j=true->∀k∈Qb0.getD j [],l k=true)
  (hf:∀s,s≠64->fr' s=Qam 64 (fr s)) (hh:∀β,β≠64->hp' β=hp β)
  (new:fr' 64= .mso 64 0 0/\hp' 64=some ⟨1,51,[],false⟩):Qas F ps n cs H G f (fun k=>k==0||l k) fr' hp' where
 f1:=by rw[hf 1 (by decide),I.f1]<;>rfl
 f2:=by rw[hf 2 (by decide),I.f2]<;>rfl
 f3:=by rw[hf 3 (by decide),I.f3]<;>rfl
 f4:=by rw[hf 4 (by decide),I.f4]<;>rfl
 h4:=by rw[hh 4 (by decide),I.h4]
 s0:=fun _ _=>new
 s1:=fun h=>by rw[hf 65 (by decide),I.s1 h]<;>rfl
 s2:=fun h=>by rw[hf 66 (by decide),I.s2 h]<;>rfl
 s3:=fun h _=>absurd (D 3 (h) 0 (by decide)) (by rw[h0];decide)
 s4:=fun h=>by rw[hf 68 (by decide),I.s4 h]<;>rfl
 s5:=fun h g=>⟨by rw[hf 69 (by decide),(I.s5 h g).1]<;>rfl,by rw[hh 69 (by decide),(I.s5 h g).2]⟩
 s6:=fun h=>by rw[hf 70 (by decide),I.s6 h]<;>rfl
 s7:=fun h g=>⟨by rw[hf 71 (by decide),(I.s7 h g).1]<;>rfl,by rw[hh 71 (by decide),(I.s7 h g).2]⟩
 s8:=fun h=>by rw[hf 72 (by decide),I.s8 h]<;>rfl
 s9:=fun h=>by rw[hf 73 (by decide),I.s9 h]<;>rfl
 s10:=fun h g=>⟨by rw[hf 74 (by decide),(I.s10 h g).1]<;>rfl,by rw[hh 71 (by decide),(I.s10 h g).2]⟩
 s11:=fun h g=>⟨by rw[hf 75 (by decide),(I.s11 h g).1]<;>rfl,by rw[hh 75 (by decide),(I.s11 h g).2]⟩
 s12:=fun h=>by rw[hf 76 (by decide),I.s12 h]<;>rfl
 s13:=fun h=>by rw[hf 77 (by decide),I.s13 h]<;>rfl
 s14:=fun h=>by rw[hf 78 (by decide),I.s14 h]<;>rfl
 s15:=fun h=>by rw[hf 79 (by decide),I.s15 h]<;>rfl
 s16:=fun h g=>⟨by rw[hf 9 (by decide),(I.s16 h g).1]<;>rfl,by rw[hh 9 (by decide),(I.s16 h g).2]⟩
 s17:=fun h=>⟨by rw[hf 9 (by decide),(I.s17 h).1]<;>rfl,by rw[hh 9 (by decide),(I.s17 h).2]⟩
theorem Qas.k1(I:Qas F ps n cs H G f l fr hp)(h0:l 1=false)(R:∀k∈Qb0.getD 1 [],l k=true)(D:∀j,l j=true->∀k∈Qb0.getD j [],l k=true)
  (hf:∀s,s≠65->fr' s=fr s) (hh:∀β,  hp' β=hp β)
  (new:fr' 65= .mp 4 0 0):Qas F ps n cs H G f (fun k=>k==1||l k) fr' hp' where
 f1:=by rw[hf 1 (by decide),I.f1]<;>rfl
 f2:=by rw[hf 2 (by decide),I.f2]<;>rfl
 f3:=by rw[hf 3 (by decide),I.f3]<;>rfl
 f4:=by rw[hf 4 (by decide),I.f4]<;>rfl
 h4:=by rw[hh 4,I.h4]
 s0:=fun h g=>⟨by rw[hf 64 (by decide),(I.s0 h g).1]<;>rfl,by rw[hh 64,(I.s0 h g).2]⟩
 s1:=fun _=>new
 s2:=fun h=>by rw[hf 66 (by decide),I.s2 h]<;>rfl
 s3:=fun h g=>⟨by rw[hf 67 (by decide),(I.s3 h g).1]<;>rfl,by rw[hh 64,(I.s3 h g).2]⟩
 s4:=fun h=>by rw[hf 68 (by decide),I.s4 h]<;>rfl
 s5:=fun h g=>⟨by rw[hf 69 (by decide),(I.s5 h g).1]<;>rfl,by rw[hh 69,(I.s5 h g).2]⟩
 s6:=fun h=>by rw[hf 70 (by decide),I.s6 h]<;>rfl
 s7:=fun h g=>⟨by rw[hf 71 (by decide),(I.s7 h g).1]<;>rfl,by rw[hh 71,(I.s7 h g).2]⟩
 s8:=fun h=>by rw[hf 72 (by decide),I.s8 h]<;>rfl
 s9:=fun h=>by rw[hf 73 (by decide),I.s9 h]<;>rfl
 s10:=fun h g=>⟨by rw[hf 74 (by decide),(I.s10 h g).1]<;>rfl,by rw[hh 71,(I.s10 h g).2]⟩
 s11:=fun h g=>⟨by rw[hf 75 (by decide),(I.s11 h g).1]<;>rfl,by rw[hh 75,(I.s11 h g).2]⟩
 s12:=fun h=>by rw[hf 76 (by decide),I.s12 h]<;>rfl
 s13:=fun h=>by rw[hf 77 (by decide),I.s13 h]<;>rfl
 s14:=fun h=>by rw[hf 78 (by decide),I.s14 h]<;>rfl
 s15:=fun h=>by rw[hf 79 (by decide),I.s15 h]<;>rfl
 s16:=fun h g=>⟨by rw[hf 9 (by decide),(I.s16 h g).1]<;>rfl,by rw[hh 9,(I.s16 h g).2]⟩
 s17:=fun h=>⟨by rw[hf 9 (by decide),(I.s17 h).1]<;>rfl,by rw[hh 9,(I.s17 h).2]⟩
theorem Qas.k2(I:Qas F ps n cs H G f l fr hp)(h0:l 2=false)(R:∀k∈Qb0.getD 2 [],l k=true)(D:∀j,l j=true->∀k∈Qb0.getD j [],l k=true)
  (hf:∀s,s≠66->fr' s=fr s) (hh:∀β,  hp' β=hp β)
  (new:fr' 66= .sl 1 (F.map PV.poly)):Qas F ps n cs H G f (fun k=>k==2||l k) fr' hp' where
 f1:=by rw[hf 1 (by decide),I.f1]<;>rfl
 f2:=by rw[hf 2 (by decide),I.f2]<;>rfl
 f3:=by rw[hf 3 (by decide),I.f3]<;>rfl
 f4:=by rw[hf 4 (by decide),I.f4]<;>rfl
 h4:=by rw[hh 4,I.h4]
 s0:=fun h g=>⟨by rw[hf 64 (by decide),(I.s0 h g).1]<;>rfl,by rw[hh 64,(I.s0 h g).2]⟩
 s1:=fun h=>by rw[hf 65 (by decide),I.s1 h]<;>rfl
 s2:=fun _=>new
 s3:=fun h g=>⟨by rw[hf 67 (by decide),(I.s3 h g).1]<;>rfl,by rw[hh 64,(I.s3 h g).2]⟩
 s4:=fun h=>by rw[hf 68 (by decide),I.s4 h]<;>rfl
 s5:=fun h g=>⟨by rw[hf 69 (by decide),(I.s5 h g).1]<;>rfl,by rw[hh 69,(I.s5 h g).2]⟩
 s6:=fun h=>by rw[hf 70 (by decide),I.s6 h]<;>rfl
 s7:=fun h g=>⟨by rw[hf 71 (by decide),(I.s7 h g).1]<;>rfl,by rw[hh 71,(I.s7 h g).2]⟩
 s8:=fun h=>by rw[hf 72 (by decide),I.s8 h]<;>rfl
 s9:=fun h=>by rw[hf 73 (by decide),I.s9 h]<;>rfl
 s10:=fun h g=>⟨by rw[hf 74 (by decide),(I.s10 h g).1]<;>rfl,by rw[hh 71,(I.s10 h g).2]⟩
 s11:=fun h g=>⟨by rw[hf 75 (by decide),(I.s11 h g).1]<;>rfl,by rw[hh 75,(I.s11 h g).2]⟩
 s12:=fun h=>by rw[hf 76 (by decide),I.s12 h]<;>rfl
 s13:=fun h=>by rw[hf 77 (by decide),I.s13 h]<;>rfl
 s14:=fun h=>by rw[hf 78 (by decide),I.s14 h]<;>rfl
 s15:=fun h=>by rw[hf 79 (by decide),I.s15 h]<;>rfl
 s16:=fun h g=>⟨by rw[hf 9 (by decide),(I.s16 h g).1]<;>rfl,by rw[hh 9,(I.s16 h g).2]⟩
 s17:=fun h=>⟨by rw[hf 9 (by decide),(I.s17 h).1]<;>rfl,by rw[hh 9,(I.s17 h).2]⟩
theorem Qas.k3(I:Qas F ps n cs H G f l fr hp)(h0:l 3=false)(R:∀k∈Qb0.getD 3 [],l k=true)(D:∀j,l j=true->∀k∈Qb0.getD j [],l k=true)
  (hf:∀s,s≠67->fr' s=Qam 64 (fr s)) (hh:∀β,β≠64->hp' β=hp β)
  (new:fr' 67= .mso 64 0 F.length/\hp' 64=some ⟨1,51,F.map PV.poly,false⟩):Qas F ps n cs H G f (fun k=>k==3||l k) fr' hp' where
 f1:=by rw[hf 1 (by decide),I.f1]<;>rfl
 f2:=by rw[hf 2 (by decide),I.f2]<;>rfl
 f3:=by rw[hf 3 (by decide),I.f3]<;>rfl
 f4:=by rw[hf 4 (by decide),I.f4]<;>rfl
 h4:=by rw[hh 4 (by decide),I.h4]
 s0:=fun _ h=>by cases h
 s1:=fun h=>by rw[hf 65 (by decide),I.s1 h]<;>rfl
 s2:=fun h=>by rw[hf 66 (by decide),I.s2 h]<;>rfl
 s3:=fun _ _=>new
 s4:=fun h=>by rw[hf 68 (by decide),I.s4 h]<;>rfl
 s5:=fun h g=>⟨by rw[hf 69 (by decide),(I.s5 h g).1]<;>rfl,by rw[hh 69 (by decide),(I.s5 h g).2]⟩
 s6:=fun h=>by rw[hf 70 (by decide),I.s6 h]<;>rfl
 s7:=fun h g=>⟨by rw[hf 71 (by decide),(I.s7 h g).1]<;>rfl,by rw[hh 71 (by decide),(I.s7 h g).2]⟩
 s8:=fun h=>by rw[hf 72 (by decide),I.s8 h]<;>rfl
 s9:=fun h=>by rw[hf 73 (by decide),I.s9 h]<;>rfl
 s10:=fun h g=>⟨by rw[hf 74 (by decide),(I.s10 h g).1]<;>rfl,by rw[hh 71 (by decide),(I.s10 h g).2]⟩
 s11:=fun h g=>⟨by rw[hf 75 (by decide),(I.s11 h g).1]<;>rfl,by rw[hh 75 (by decide),(I.s11 h g).2]⟩
 s12:=fun h=>by rw[hf 76 (by decide),I.s12 h]<;>rfl
 s13:=fun h=>by rw[hf 77 (by decide),I.s13 h]<;>rfl
 s14:=fun h=>by rw[hf 78 (by decide),I.s14 h]<;>rfl
 s15:=fun h=>by rw[hf 79 (by decide),I.s15 h]<;>rfl
 s16:=fun h g=>⟨by rw[hf 9 (by decide),(I.s16 h g).1]<;>rfl,by rw[hh 9 (by decide),(I.s16 h g).2]⟩
 s17:=fun h=>⟨by rw[hf 9 (by decide),(I.s17 h).1]<;>rfl,by rw[hh 9 (by decide),(I.s17 h).2]⟩
theorem Qas.k4(I:Qas F ps n cs H G f l fr hp)(h0:l 4=false)(R:∀k∈Qb0.getD 4 [],l k=true)(D:∀j,l j=true->∀k∈Qb0.getD j [],l k=true)
  (hf:∀s,s≠68->fr' s=fr s) (hh:∀β,  hp' β=hp β)
  (new:fr' 68=PV.poly f):Qas F ps n cs H G f (fun k=>k==4||l k) fr' hp' where
 f1:=by rw[hf 1 (by decide),I.f1]<;>rfl
 f2:=by rw[hf 2 (by decide),I.f2]<;>rfl
 f3:=by rw[hf 3 (by decide),I.f3]<;>rfl
 f4:=by rw[hf 4 (by decide),I.f4]<;>rfl
 h4:=by rw[hh 4,I.h4]
 s0:=fun h g=>⟨by rw[hf 64 (by decide),(I.s0 h g).1]<;>rfl,by rw[hh 64,(I.s0 h g).2]⟩
 s1:=fun h=>by rw[hf 65 (by decide),I.s1 h]<;>rfl
 s2:=fun h=>by rw[hf 66 (by decide),I.s2 h]<;>rfl
 s3:=fun h g=>⟨by rw[hf 67 (by decide),(I.s3 h g).1]<;>rfl,by rw[hh 64,(I.s3 h g).2]⟩
 s4:=fun _=>new
 s5:=fun h g=>⟨by rw[hf 69 (by decide),(I.s5 h g).1]<;>rfl,by rw[hh 69,(I.s5 h g).2]⟩
 s6:=fun h=>by rw[hf 70 (by decide),I.s6 h]<;>rfl
 s7:=fun h g=>⟨by rw[hf 71 (by decide),(I.s7 h g).1]<;>rfl,by rw[hh 71,(I.s7 h g).2]⟩
 s8:=fun h=>by rw[hf 72 (by decide),I.s8 h]<;>rfl
 s9:=fun h=>by rw[hf 73 (by decide),I.s9 h]<;>rfl
 s10:=fun h g=>⟨by rw[hf 74 (by decide),(I.s10 h g).1]<;>rfl,by rw[hh 71,(I.s10 h g).2]⟩
 s11:=fun h g=>⟨by rw[hf 75 (by decide),(I.s11 h g).1]<;>rfl,by rw[hh 75,(I.s11 h g).2]⟩
 s12:=fun h=>by rw[hf 76 (by decide),I.s12 h]<;>rfl
 s13:=fun h=>by rw[hf 77 (by decide),I.s13 h]<;>rfl
 s14:=fun h=>by rw[hf 78 (by decide),I.s14 h]<;>rfl
 s15:=fun h=>by rw[hf 79 (by decide),I.s15 h]<;>rfl
 s16:=fun h g=>⟨by rw[hf 9 (by decide),(I.s16 h g).1]<;>rfl,by rw[hh 9,(I.s16 h g).2]⟩
 s17:=fun h=>⟨by rw[hf 9 (by decide),(I.s17 h).1]<;>rfl,by rw[hh 9,(I.s17 h).2]⟩
theorem Qas.k5(I:Qas F ps n cs H G f l fr hp)(h0:l 5=false)(R:∀k∈Qb0.getD 5 [],l k=true)(D:∀j,l j=true->∀k∈Qb0.getD j [],l k=true)
  (hf:∀s,s≠69->fr' s=Qam 69 (fr s)) (hh:∀β,β≠69->hp' β=hp β)
  (new:fr' 69= .mso 69 0 1/\hp' 69=some ⟨1,51,[PV.poly f],false⟩):Qas F ps n cs H G f (fun k=>k==5||l k) fr' hp' where
 f1:=by rw[hf 1 (by decide),I.f1]<;>rfl
 f2:=by rw[hf 2 (by decide),I.f2]<;>rfl
 f3:=by rw[hf 3 (by decide),I.f3]<;>rfl
 f4:=by rw[hf 4 (by decide),I.f4]<;>rfl
 h4:=by rw[hh 4 (by decide),I.h4]
 s0:=fun h g=>⟨by rw[hf 64 (by decide),(I.s0 h g).1]<;>rfl,by rw[hh 64 (by decide),(I.s0 h g).2]⟩
 s1:=fun h=>by rw[hf 65 (by decide),I.s1 h]<;>rfl
 s2:=fun h=>by rw[hf 66 (by decide),I.s2 h]<;>rfl
 s3:=fun h g=>⟨by rw[hf 67 (by decide),(I.s3 h g).1]<;>rfl,by rw[hh 64 (by decide),(I.s3 h g).2]⟩
 s4:=fun h=>by rw[hf 68 (by decide),I.s4 h]<;>rfl
 s5:=fun _ _=>new
 s6:=fun h=>by rw[hf 70 (by decide),I.s6 h]<;>rfl
 s7:=fun h g=>⟨by rw[hf 71 (by decide),(I.s7 h g).1]<;>rfl,by rw[hh 71 (by decide),(I.s7 h g).2]⟩
 s8:=fun h=>by rw[hf 72 (by decide),I.s8 h]<;>rfl
 s9:=fun h=>by rw[hf 73 (by decide),I.s9 h]<;>rfl
 s10:=fun h g=>⟨by rw[hf 74 (by decide),(I.s10 h g).1]<;>rfl,by rw[hh 71 (by decide),(I.s10 h g).2]⟩
 s11:=fun h g=>⟨by rw[hf 75 (by decide),(I.s11 h g).1]<;>rfl,by rw[hh 75 (by decide),(I.s11 h g).2]⟩
 s12:=fun h=>by rw[hf 76 (by decide),I.s12 h]<;>rfl
 s13:=fun h=>by rw[hf 77 (by decide),I.s13 h]<;>rfl
 s14:=fun h=>by rw[hf 78 (by decide),I.s14 h]<;>rfl
 s15:=fun h=>by rw[hf 79 (by decide),I.s15 h]<;>rfl
 s16:=fun h g=>⟨by rw[hf 9 (by decide),(I.s16 h g).1]<;>rfl,by rw[hh 9 (by decide),(I.s16 h g).2]⟩
 s17:=fun h=>⟨by rw[hf 9 (by decide),(I.s17 h).1]<;>rfl,by rw[hh 9 (by decide),(I.s17 h).2]⟩
theorem Qas.k6(I:Qas F ps n cs H G f l fr hp)(h0:l 6=false)(R:∀k∈Qb0.getD 6 [],l k=true)(D:∀j,l j=true->∀k∈Qb0.getD j [],l k=true)
  (hf:∀s,s≠70->fr' s=Qam 64 (fr s)) (hh:∀β,β≠64->hp' β=hp β)
  (new:fr' 70= .sl 1 ((F++[f]).map PV.poly)):Qas F ps n cs H G f (fun k=>k==6||l k) fr' hp' where
 f1:=by rw[hf 1 (by decide),I.f1]<;>rfl
 f2:=by rw[hf 2 (by decide),I.f2]<;>rfl
 f3:=by rw[hf 3 (by decide),I.f3]<;>rfl
 f4:=by rw[hf 4 (by decide),I.f4]<;>rfl
 h4:=by rw[hh 4 (by decide),I.h4]
 s0:=fun _ g=>absurd (R 3 (by decide)) (by rw[show l 3=false from g];decide)
 s1:=fun h=>by rw[hf 65 (by decide),I.s1 h]<;>rfl
 s2:=fun h=>by rw[hf 66 (by decide),I.s2 h]<;>rfl
 s3:=fun _ h=>by cases h
 s4:=fun h=>by rw[hf 68 (by decide),I.s4 h]<;>rfl
 s5:=fun _ h=>by cases h
 s6:=fun _=>new
 s7:=fun h g=>⟨by rw[hf 71 (by decide),(I.s7 h g).1]<;>rfl,by rw[hh 71 (by decide),(I.s7 h g).2]⟩
 s8:=fun h=>by rw[hf 72 (by decide),I.s8 h]<;>rfl
 s9:=fun h=>by rw[hf 73 (by decide),I.s9 h]<;>rfl
 s10:=fun h g=>⟨by rw[hf 74 (by decide),(I.s10 h g).1]<;>rfl,by rw[hh 71 (by decide),(I.s10 h g).2]⟩
 s11:=fun h g=>⟨by rw[hf 75 (by decide),(I.s11 h g).1]<;>rfl,by rw[hh 75 (by decide),(I.s11 h g).2]⟩
 s12:=fun h=>by rw[hf 76 (by decide),I.s12 h]<;>rfl
 s13:=fun h=>by rw[hf 77 (by decide),I.s13 h]<;>rfl
 s14:=fun h=>by rw[hf 78 (by decide),I.s14 h]<;>rfl
 s15:=fun h=>by rw[hf 79 (by decide),I.s15 h]<;>rfl
 s16:=fun h g=>⟨by rw[hf 9 (by decide),(I.s16 h g).1]<;>rfl,by rw[hh 9 (by decide),(I.s16 h g).2]⟩
 s17:=fun h=>⟨by rw[hf 9 (by decide),(I.s17 h).1]<;>rfl,by rw[hh 9 (by decide),(I.s17 h).2]⟩
theorem Qas.k7(I:Qas F ps n cs H G f l fr hp)(h0:l 7=false)(R:∀k∈Qb0.getD 7 [],l k=true)(D:∀j,l j=true->∀k∈Qb0.getD j [],l k=true)
  (hf:∀s,s≠71->fr' s=Qam 71 (fr s)) (hh:∀β,β≠71->hp' β=hp β)
  (new:fr' 71= .mso 71 0 0/\hp' 71=some ⟨1,3,[],false⟩):Qas F ps n cs H G f (fun k=>k==7||l k) fr' hp' where
 f1:=by rw[hf 1 (by decide),I.f1]<;>rfl
 f2:=by rw[hf 2 (by decide),I.f2]<;>rfl
 f3:=by rw[hf 3 (by decide),I.f3]<;>rfl
 f4:=by rw[hf 4 (by decide),I.f4]<;>rfl
 h4:=by rw[hh 4 (by decide),I.h4]
 s0:=fun h g=>⟨by rw[hf 64 (by decide),(I.s0 h g).1]<;>rfl,by rw[hh 64 (by decide),(I.s0 h g).2]⟩
 s1:=fun h=>by rw[hf 65 (by decide),I.s1 h]<;>rfl
 s2:=fun h=>by rw[hf 66 (by decide),I.s2 h]<;>rfl
 s3:=fun h g=>⟨by rw[hf 67 (by decide),(I.s3 h g).1]<;>rfl,by rw[hh 64 (by decide),(I.s3 h g).2]⟩
 s4:=fun h=>by rw[hf 68 (by decide),I.s4 h]<;>rfl
 s5:=fun h g=>⟨by rw[hf 69 (by decide),(I.s5 h g).1]<;>rfl,by rw[hh 69 (by decide),(I.s5 h g).2]⟩
 s6:=fun h=>by rw[hf 70 (by decide),I.s6 h]<;>rfl
 s7:=fun _ _=>new
 s8:=fun h=>by rw[hf 72 (by decide),I.s8 h]<;>rfl
 s9:=fun h=>by rw[hf 73 (by decide),I.s9 h]<;>rfl
 s10:=fun h _=>absurd (D 10 (h) 7 (by decide)) (by rw[h0];decide)
 s11:=fun h g=>⟨by rw[hf 75 (by decide),(I.s11 h g).1]<;>rfl,by rw[hh 75 (by decide),(I.s11 h g).2]⟩
 s12:=fun h=>by rw[hf 76 (by decide),I.s12 h]<;>rfl
 s13:=fun h=>by rw[hf 77 (by decide),I.s13 h]<;>rfl
 s14:=fun h=>by rw[hf 78 (by decide),I.s14 h]<;>rfl
 s15:=fun h=>by rw[hf 79 (by decide),I.s15 h]<;>rfl
 s16:=fun h g=>⟨by rw[hf 9 (by decide),(I.s16 h g).1]<;>rfl,by rw[hh 9 (by decide),(I.s16 h g).2]⟩
 s17:=fun h=>⟨by rw[hf 9 (by decide),(I.s17 h).1]<;>rfl,by rw[hh 9 (by decide),(I.s17 h).2]⟩
theorem Qas.k8(I:Qas F ps n cs H G f l fr hp)(h0:l 8=false)(R:∀k∈Qb0.getD 8 [],l k=true)(D:∀j,l j=true->∀k∈Qb0.getD j [],l k=true)
  (hf:∀s,s≠72->fr' s=fr s) (hh:∀β,  hp' β=hp β)
  (new:fr' 72= .mp 4 0 1):Qas F ps n cs H G f (fun k=>k==8||l k) fr' hp' where
 f1:=by rw[hf 1 (by decide),I.f1]<;>rfl
 f2:=by rw[hf 2 (by decide),I.f2]<;>rfl
 f3:=by rw[hf 3 (by decide),I.f3]<;>rfl
 f4:=by rw[hf 4 (by decide),I.f4]<;>rfl
 h4:=by rw[hh 4,I.h4]
 s0:=fun h g=>⟨by rw[hf 64 (by decide),(I.s0 h g).1]<;>rfl,by rw[hh 64,(I.s0 h g).2]⟩
 s1:=fun h=>by rw[hf 65 (by decide),I.s1 h]<;>rfl
 s2:=fun h=>by rw[hf 66 (by decide),I.s2 h]<;>rfl
 s3:=fun h g=>⟨by rw[hf 67 (by decide),(I.s3 h g).1]<;>rfl,by rw[hh 64,(I.s3 h g).2]⟩
 s4:=fun h=>by rw[hf 68 (by decide),I.s4 h]<;>rfl
 s5:=fun h g=>⟨by rw[hf 69 (by decide),(I.s5 h g).1]<;>rfl,by rw[hh 69,(I.s5 h g).2]⟩
 s6:=fun h=>by rw[hf 70 (by decide),I.s6 h]<;>rfl
 s7:=fun h g=>⟨by rw[hf 71 (by decide),(I.s7 h g).1]<;>rfl,by rw[hh 71,(I.s7 h g).2]⟩
 s8:=fun _=>new
 s9:=fun h=>by rw[hf 73 (by decide),I.s9 h]<;>rfl
 s10:=fun h g=>⟨by rw[hf 74 (by decide),(I.s10 h g).1]<;>rfl,by rw[hh 71,(I.s10 h g).2]⟩
 s11:=fun h g=>⟨by rw[hf 75 (by decide),(I.s11 h g).1]<;>rfl,by rw[hh 75,(I.s11 h g).2]⟩
 s12:=fun h=>by rw[hf 76 (by decide),I.s12 h]<;>rfl
 s13:=fun h=>by rw[hf 77 (by decide),I.s13 h]<;>rfl
 s14:=fun h=>by rw[hf 78 (by decide),I.s14 h]<;>rfl
 s15:=fun h=>by rw[hf 79 (by decide),I.s15 h]<;>rfl
 s16:=fun h g=>⟨by rw[hf 9 (by decide),(I.s16 h g).1]<;>rfl,by rw[hh 9,(I.s16 h g).2]⟩
 s17:=fun h=>⟨by rw[hf 9 (by decide),(I.s17 h).1]<;>rfl,by rw[hh 9,(I.s17 h).2]⟩
theorem Qas.k9(I:Qas F ps n cs H G f l fr hp)(h0:l 9=false)(R:∀k∈Qb0.getD 9 [],l k=true)(D:∀j,l j=true->∀k∈Qb0.getD j [],l k=true)
  (hf:∀s,s≠73->fr' s=fr s) (hh:∀β,  hp' β=hp β)
  (new:fr' 73=PV.mono ps):Qas F ps n cs H G f (fun k=>k==9||l k) fr' hp' where
 f1:=by rw[hf 1 (by decide),I.f1]<;>rfl
 f2:=by rw[hf 2 (by decide),I.f2]<;>rfl
 f3:=by rw[hf 3 (by decide),I.f3]<;>rfl
 f4:=by rw[hf 4 (by decide),I.f4]<;>rfl
 h4:=by rw[hh 4,I.h4]
 s0:=fun h g=>⟨by rw[hf 64 (by decide),(I.s0 h g).1]<;>rfl,by rw[hh 64,(I.s0 h g).2]⟩
 s1:=fun h=>by rw[hf 65 (by decide),I.s1 h]<;>rfl
 s2:=fun h=>by rw[hf 66 (by decide),I.s2 h]<;>rfl
 s3:=fun h g=>⟨by rw[hf 67 (by decide),(I.s3 h g).1]<;>rfl,by rw[hh 64,(I.s3 h g).2]⟩
 s4:=fun h=>by rw[hf 68 (by decide),I.s4 h]<;>rfl
 s5:=fun h g=>⟨by rw[hf 69 (by decide),(I.s5 h g).1]<;>rfl,by rw[hh 69,(I.s5 h g).2]⟩
 s6:=fun h=>by rw[hf 70 (by decide),I.s6 h]<;>rfl
 s7:=fun h g=>⟨by rw[hf 71 (by decide),(I.s7 h g).1]<;>rfl,by rw[hh 71,(I.s7 h g).2]⟩
 s8:=fun h=>by rw[hf 72 (by decide),I.s8 h]<;>rfl
 s9:=fun _=>new
 s10:=fun h g=>⟨by rw[hf 74 (by decide),(I.s10 h g).1]<;>rfl,by rw[hh 71,(I.s10 h g).2]⟩
 s11:=fun h g=>⟨by rw[hf 75 (by decide),(I.s11 h g).1]<;>rfl,by rw[hh 75,(I.s11 h g).2]⟩
 s12:=fun h=>by rw[hf 76 (by decide),I.s12 h]<;>rfl
 s13:=fun h=>by rw[hf 77 (by decide),I.s13 h]<;>rfl
 s14:=fun h=>by rw[hf 78 (by decide),I.s14 h]<;>rfl
 s15:=fun h=>by rw[hf 79 (by decide),I.s15 h]<;>rfl
 s16:=fun h g=>⟨by rw[hf 9 (by decide),(I.s16 h g).1]<;>rfl,by rw[hh 9,(I.s16 h g).2]⟩
 s17:=fun h=>⟨by rw[hf 9 (by decide),(I.s17 h).1]<;>rfl,by rw[hh 9,(I.s17 h).2]⟩
theorem Qas.k10(I:Qas F ps n cs H G f l fr hp)(h0:l 10=false)(R:∀k∈Qb0.getD 10 [],l k=true)(D:∀j,l j=true->∀k∈Qb0.getD j [],l k=true)
  (hf:∀s,s≠74->fr' s=Qam 71 (fr s)) (hh:∀β,β≠71->hp' β=hp β)
  (new:fr' 74= .mso 71 0 ps.length/\hp' 71=some ⟨1,3,ps.map fun x=> .int .i64 x,false⟩):Qas F ps n cs H G f (fun k=>k==10||l k) fr' hp' where
 f1:=by rw[hf 1 (by decide),I.f1]<;>rfl
 f2:=by rw[hf 2 (by decide),I.f2]<;>rfl
 f3:=by rw[hf 3 (by decide),I.f3]<;>rfl
 f4:=by rw[hf 4 (by decide),I.f4]<;>rfl
 h4:=by rw[hh 4 (by decide),I.h4]
 s0:=fun h g=>⟨by rw[hf 64 (by decide),(I.s0 h g).1]<;>rfl,by rw[hh 64 (by decide),(I.s0 h g).2]⟩
 s1:=fun h=>by rw[hf 65 (by decide),I.s1 h]<;>rfl
 s2:=fun h=>by rw[hf 66 (by decide),I.s2 h]<;>rfl
 s3:=fun h g=>⟨by rw[hf 67 (by decide),(I.s3 h g).1]<;>rfl,by rw[hh 64 (by decide),(I.s3 h g).2]⟩
 s4:=fun h=>by rw[hf 68 (by decide),I.s4 h]<;>rfl
 s5:=fun h g=>⟨by rw[hf 69 (by decide),(I.s5 h g).1]<;>rfl,by rw[hh 69 (by decide),(I.s5 h g).2]⟩
 s6:=fun h=>by rw[hf 70 (by decide),I.s6 h]<;>rfl
 s7:=fun _ h=>by cases h
 s8:=fun h=>by rw[hf 72 (by decide),I.s8 h]<;>rfl
 s9:=fun h=>by rw[hf 73 (by decide),I.s9 h]<;>rfl
 s10:=fun _ _=>new
 s11:=fun h g=>⟨by rw[hf 75 (by decide),(I.s11 h g).1]<;>rfl,by rw[hh 75 (by decide),(I.s11 h g).2]⟩
 s12:=fun h=>by rw[hf 76 (by decide),I.s12 h]<;>rfl
 s13:=fun h=>by rw[hf 77 (by decide),I.s13 h]<;>rfl
 s14:=fun h=>by rw[hf 78 (by decide),I.s14 h]<;>rfl
 s15:=fun h=>by rw[hf 79 (by decide),I.s15 h]<;>rfl
 s16:=fun h g=>⟨by rw[hf 9 (by decide),(I.s16 h g).1]<;>rfl,by rw[hh 9 (by decide),(I.s16 h g).2]⟩
 s17:=fun h=>⟨by rw[hf 9 (by decide),(I.s17 h).1]<;>rfl,by rw[hh 9 (by decide),(I.s17 h).2]⟩
theorem Qas.k11(I:Qas F ps n cs H G f l fr hp)(h0:l 11=false)(R:∀k∈Qb0.getD 11 [],l k=true)(D:∀j,l j=true->∀k∈Qb0.getD j [],l k=true)
  (hf:∀s,s≠75->fr' s=Qam 75 (fr s)) (hh:∀β,β≠75->hp' β=hp β)
  (new:fr' 75= .mso 75 0 1/\hp' 75=some ⟨1,3,[.int .i64 1],false⟩):Qas F ps n cs H G f (fun k=>k==11||l k) fr' hp' where
 f1:=by rw[hf 1 (by decide),I.f1]<;>rfl
 f2:=by rw[hf 2 (by decide),I.f2]<;>rfl
 f3:=by rw[hf 3 (by decide),I.f3]<;>rfl
 f4:=by rw[hf 4 (by decide),I.f4]<;>rfl
 h4:=by rw[hh 4 (by decide),I.h4]
 s0:=fun h g=>⟨by rw[hf 64 (by decide),(I.s0 h g).1]<;>rfl,by rw[hh 64 (by decide),(I.s0 h g).2]⟩
 s1:=fun h=>by rw[hf 65 (by decide),I.s1 h]<;>rfl
 s2:=fun h=>by rw[hf 66 (by decide),I.s2 h]<;>rfl
 s3:=fun h g=>⟨by rw[hf 67 (by decide),(I.s3 h g).1]<;>rfl,by rw[hh 64 (by decide),(I.s3 h g).2]⟩
 s4:=fun h=>by rw[hf 68 (by decide),I.s4 h]<;>rfl
 s5:=fun h g=>⟨by rw[hf 69 (by decide),(I.s5 h g).1]<;>rfl,by rw[hh 69 (by decide),(I.s5 h g).2]⟩
 s6:=fun h=>by rw[hf 70 (by decide),I.s6 h]<;>rfl
 s7:=fun h g=>⟨by rw[hf 71 (by decide),(I.s7 h g).1]<;>rfl,by rw[hh 71 (by decide),(I.s7 h g).2]⟩
 s8:=fun h=>by rw[hf 72 (by decide),I.s8 h]<;>rfl
 s9:=fun h=>by rw[hf 73 (by decide),I.s9 h]<;>rfl
 s10:=fun h g=>⟨by rw[hf 74 (by decide),(I.s10 h g).1]<;>rfl,by rw[hh 71 (by decide),(I.s10 h g).2]⟩
 s11:=fun _ _=>new
 s12:=fun h=>by rw[hf 76 (by decide),I.s12 h]<;>rfl
 s13:=fun h=>by rw[hf 77 (by decide),I.s13 h]<;>rfl
 s14:=fun h=>by rw[hf 78 (by decide),I.s14 h]<;>rfl
 s15:=fun h=>by rw[hf 79 (by decide),I.s15 h]<;>rfl
 s16:=fun h g=>⟨by rw[hf 9 (by decide),(I.s16 h g).1]<;>rfl,by rw[hh 9 (by decide),(I.s16 h g).2]⟩
 s17:=fun h=>⟨by rw[hf 9 (by decide),(I.s17 h).1]<;>rfl,by rw[hh 9 (by decide),(I.s17 h).2]⟩
theorem Qas.k12(I:Qas F ps n cs H G f l fr hp)(h0:l 12=false)(R:∀k∈Qb0.getD 12 [],l k=true)(D:∀j,l j=true->∀k∈Qb0.getD j [],l k=true)
  (hf:∀s,s≠76->fr' s=Qam 71 (fr s)) (hh:∀β,β≠71->hp' β=hp β)
  (new:fr' 76=PV.mono (ps++[1])):Qas F ps n cs H G f (fun k=>k==12||l k) fr' hp' where
 f1:=by rw[hf 1 (by decide),I.f1]<;>rfl
 f2:=by rw[hf 2 (by decide),I.f2]<;>rfl
 f3:=by rw[hf 3 (by decide),I.f3]<;>rfl
 f4:=by rw[hf 4 (by decide),I.f4]<;>rfl
 h4:=by rw[hh 4 (by decide),I.h4]
 s0:=fun h g=>⟨by rw[hf 64 (by decide),(I.s0 h g).1]<;>rfl,by rw[hh 64 (by decide),(I.s0 h g).2]⟩
 s1:=fun h=>by rw[hf 65 (by decide),I.s1 h]<;>rfl
 s2:=fun h=>by rw[hf 66 (by decide),I.s2 h]<;>rfl
 s3:=fun h g=>⟨by rw[hf 67 (by decide),(I.s3 h g).1]<;>rfl,by rw[hh 64 (by decide),(I.s3 h g).2]⟩
 s4:=fun h=>by rw[hf 68 (by decide),I.s4 h]<;>rfl
 s5:=fun h g=>⟨by rw[hf 69 (by decide),(I.s5 h g).1]<;>rfl,by rw[hh 69 (by decide),(I.s5 h g).2]⟩
 s6:=fun h=>by rw[hf 70 (by decide),I.s6 h]<;>rfl
 s7:=fun _ g=>absurd (R 10 (by decide)) (by rw[show l 10=false from g];decide)
 s8:=fun h=>by rw[hf 72 (by decide),I.s8 h]<;>rfl
 s9:=fun h=>by rw[hf 73 (by decide),I.s9 h]<;>rfl
 s10:=fun _ h=>by cases h
 s11:=fun _ h=>by cases h
 s12:=fun _=>new
 s13:=fun h=>by rw[hf 77 (by decide),I.s13 h]<;>rfl
 s14:=fun h=>by rw[hf 78 (by decide),I.s14 h]<;>rfl
 s15:=fun h=>by rw[hf 79 (by decide),I.s15 h]<;>rfl
 s16:=fun h g=>⟨by rw[hf 9 (by decide),(I.s16 h g).1]<;>rfl,by rw[hh 9 (by decide),(I.s16 h g).2]⟩
 s17:=fun h=>⟨by rw[hf 9 (by decide),(I.s17 h).1]<;>rfl,by rw[hh 9 (by decide),(I.s17 h).2]⟩
theorem Qas.k13(I:Qas F ps n cs H G f l fr hp)(h0:l 13=false)(R:∀k∈Qb0.getD 13 [],l k=true)(D:∀j,l j=true->∀k∈Qb0.getD j [],l k=true)
  (hf:∀s,s≠77->fr' s=fr s) (hh:∀β,  hp' β=hp β)
  (new:fr' 77= .mp 4 0 2):Qas F ps n cs H G f (fun k=>k==13||l k) fr' hp' where
 f1:=by rw[hf 1 (by decide),I.f1]<;>rfl
 f2:=by rw[hf 2 (by decide),I.f2]<;>rfl
 f3:=by rw[hf 3 (by decide),I.f3]<;>rfl
 f4:=by rw[hf 4 (by decide),I.f4]<;>rfl
 h4:=by rw[hh 4,I.h4]
 s0:=fun h g=>⟨by rw[hf 64 (by decide),(I.s0 h g).1]<;>rfl,by rw[hh 64,(I.s0 h g).2]⟩
 s1:=fun h=>by rw[hf 65 (by decide),I.s1 h]<;>rfl
 s2:=fun h=>by rw[hf 66 (by decide),I.s2 h]<;>rfl
 s3:=fun h g=>⟨by rw[hf 67 (by decide),(I.s3 h g).1]<;>rfl,by rw[hh 64,(I.s3 h g).2]⟩
 s4:=fun h=>by rw[hf 68 (by decide),I.s4 h]<;>rfl
 s5:=fun h g=>⟨by rw[hf 69 (by decide),(I.s5 h g).1]<;>rfl,by rw[hh 69,(I.s5 h g).2]⟩
 s6:=fun h=>by rw[hf 70 (by decide),I.s6 h]<;>rfl
 s7:=fun h g=>⟨by rw[hf 71 (by decide),(I.s7 h g).1]<;>rfl,by rw[hh 71,(I.s7 h g).2]⟩
 s8:=fun h=>by rw[hf 72 (by decide),I.s8 h]<;>rfl
 s9:=fun h=>by rw[hf 73 (by decide),I.s9 h]<;>rfl
 s10:=fun h g=>⟨by rw[hf 74 (by decide),(I.s10 h g).1]<;>rfl,by rw[hh 71,(I.s10 h g).2]⟩
 s11:=fun h g=>⟨by rw[hf 75 (by decide),(I.s11 h g).1]<;>rfl,by rw[hh 75,(I.s11 h g).2]⟩
 s12:=fun h=>by rw[hf 76 (by decide),I.s12 h]<;>rfl
 s13:=fun _=>new
 s14:=fun h=>by rw[hf 78 (by decide),I.s14 h]<;>rfl
 s15:=fun h=>by rw[hf 79 (by decide),I.s15 h]<;>rfl
 s16:=fun h g=>⟨by rw[hf 9 (by decide),(I.s16 h g).1]<;>rfl,by rw[hh 9,(I.s16 h g).2]⟩
 s17:=fun h=>⟨by rw[hf 9 (by decide),(I.s17 h).1]<;>rfl,by rw[hh 9,(I.s17 h).2]⟩
theorem Qas.k14(I:Qas F ps n cs H G f l fr hp)(h0:l 14=false)(R:∀k∈Qb0.getD 14 [],l k=true)(D:∀j,l j=true->∀k∈Qb0.getD j [],l k=true)
  (hf:∀s,s≠78->fr' s=fr s) (hh:∀β,  hp' β=hp β)
  (new:fr' 78= .int .i64 n):Qas F ps n cs H G f (fun k=>k==14||l k) fr' hp' where
 f1:=by rw[hf 1 (by decide),I.f1]<;>rfl
 f2:=by rw[hf 2 (by decide),I.f2]<;>rfl
 f3:=by rw[hf 3 (by decide),I.f3]<;>rfl
 f4:=by rw[hf 4 (by decide),I.f4]<;>rfl
 h4:=by rw[hh 4,I.h4]
 s0:=fun h g=>⟨by rw[hf 64 (by decide),(I.s0 h g).1]<;>rfl,by rw[hh 64,(I.s0 h g).2]⟩
 s1:=fun h=>by rw[hf 65 (by decide),I.s1 h]<;>rfl
 s2:=fun h=>by rw[hf 66 (by decide),I.s2 h]<;>rfl
 s3:=fun h g=>⟨by rw[hf 67 (by decide),(I.s3 h g).1]<;>rfl,by rw[hh 64,(I.s3 h g).2]⟩
 s4:=fun h=>by rw[hf 68 (by decide),I.s4 h]<;>rfl
 s5:=fun h g=>⟨by rw[hf 69 (by decide),(I.s5 h g).1]<;>rfl,by rw[hh 69,(I.s5 h g).2]⟩
 s6:=fun h=>by rw[hf 70 (by decide),I.s6 h]<;>rfl
 s7:=fun h g=>⟨by rw[hf 71 (by decide),(I.s7 h g).1]<;>rfl,by rw[hh 71,(I.s7 h g).2]⟩
 s8:=fun h=>by rw[hf 72 (by decide),I.s8 h]<;>rfl
 s9:=fun h=>by rw[hf 73 (by decide),I.s9 h]<;>rfl
 s10:=fun h g=>⟨by rw[hf 74 (by decide),(I.s10 h g).1]<;>rfl,by rw[hh 71,(I.s10 h g).2]⟩
 s11:=fun h g=>⟨by rw[hf 75 (by decide),(I.s11 h g).1]<;>rfl,by rw[hh 75,(I.s11 h g).2]⟩
 s12:=fun h=>by rw[hf 76 (by decide),I.s12 h]<;>rfl
 s13:=fun h=>by rw[hf 77 (by decide),I.s13 h]<;>rfl
 s14:=fun _=>new
 s15:=fun h=>by rw[hf 79 (by decide),I.s15 h]<;>rfl
 s16:=fun h g=>⟨by rw[hf 9 (by decide),(I.s16 h g).1]<;>rfl,by rw[hh 9,(I.s16 h g).2]⟩
 s17:=fun h=>⟨by rw[hf 9 (by decide),(I.s17 h).1]<;>rfl,by rw[hh 9,(I.s17 h).2]⟩
theorem Qas.k15(I:Qas F ps n cs H G f l fr hp)(h0:l 15=false)(R:∀k∈Qb0.getD 15 [],l k=true)(D:∀j,l j=true->∀k∈Qb0.getD j [],l k=true)
  (hf:∀s,s≠79->fr' s=fr s) (hh:∀β,  hp' β=hp β)
  (new:fr' 79= .agg [.sl 1 ((F++[f]).map PV.poly),PV.mono (ps++[1]),.int .i64 n,.nilS]):Qas F ps n cs H G f (fun k=>k==15||l k) fr' hp' where
 f1:=by rw[hf 1 (by decide),I.f1]<;>rfl
 f2:=by rw[hf 2 (by decide),I.f2]<;>rfl
 f3:=by rw[hf 3 (by decide),I.f3]<;>rfl
 f4:=by rw[hf 4 (by decide),I.f4]<;>rfl
 h4:=by rw[hh 4,I.h4]
 s0:=fun h g=>⟨by rw[hf 64 (by decide),(I.s0 h g).1]<;>rfl,by rw[hh 64,(I.s0 h g).2]⟩
 s1:=fun h=>by rw[hf 65 (by decide),I.s1 h]<;>rfl
 s2:=fun h=>by rw[hf 66 (by decide),I.s2 h]<;>rfl
 s3:=fun h g=>⟨by rw[hf 67 (by decide),(I.s3 h g).1]<;>rfl,by rw[hh 64,(I.s3 h g).2]⟩
 s4:=fun h=>by rw[hf 68 (by decide),I.s4 h]<;>rfl
 s5:=fun h g=>⟨by rw[hf 69 (by decide),(I.s5 h g).1]<;>rfl,by rw[hh 69,(I.s5 h g).2]⟩
 s6:=fun h=>by rw[hf 70 (by decide),I.s6 h]<;>rfl
 s7:=fun h g=>⟨by rw[hf 71 (by decide),(I.s7 h g).1]<;>rfl,by rw[hh 71,(I.s7 h g).2]⟩
 s8:=fun h=>by rw[hf 72 (by decide),I.s8 h]<;>rfl
 s9:=fun h=>by rw[hf 73 (by decide),I.s9 h]<;>rfl
 s10:=fun h g=>⟨by rw[hf 74 (by decide),(I.s10 h g).1]<;>rfl,by rw[hh 71,(I.s10 h g).2]⟩
 s11:=fun h g=>⟨by rw[hf 75 (by decide),(I.s11 h g).1]<;>rfl,by rw[hh 75,(I.s11 h g).2]⟩
 s12:=fun h=>by rw[hf 76 (by decide),I.s12 h]<;>rfl
 s13:=fun h=>by rw[hf 77 (by decide),I.s13 h]<;>rfl
 s14:=fun h=>by rw[hf 78 (by decide),I.s14 h]<;>rfl
 s15:=fun _=>new
 s16:=fun h g=>⟨by rw[hf 9 (by decide),(I.s16 h g).1]<;>rfl,by rw[hh 9,(I.s16 h g).2]⟩
 s17:=fun h=>⟨by rw[hf 9 (by decide),(I.s17 h).1]<;>rfl,by rw[hh 9,(I.s17 h).2]⟩
theorem Qas.k16(I:Qas F ps n cs H G f l fr hp)(h0:l 16=false)(R:∀k∈Qb0.getD 16 [],l k=true)(D:∀j,l j=true->∀k∈Qb0.getD j [],l k=true)
  (hf:∀s,s≠9->fr' s=Qam 9 (fr s)) (hh:∀β,β≠9->hp' β=hp β)
  (new:fr' 9= .mp 9 0 0/\hp' 9=some ⟨4,79,[.agg [.nilS,.nilS,.int .i64 0,.nilS]],false⟩):Qas F ps n cs H G f (fun k=>k==16||l k) fr' hp' where
 f1:=by rw[hf 1 (by decide),I.f1]<;>rfl
 f2:=by rw[hf 2 (by decide),I.f2]<;>rfl
 f3:=by rw[hf 3 (by decide),I.f3]<;>rfl
 f4:=by rw[hf 4 (by decide),I.f4]<;>rfl
 h4:=by rw[hh 4 (by decide),I.h4]
 s0:=fun h g=>⟨by rw[hf 64 (by decide),(I.s0 h g).1]<;>rfl,by rw[hh 64 (by decide),(I.s0 h g).2]⟩
 s1:=fun h=>by rw[hf 65 (by decide),I.s1 h]<;>rfl
 s2:=fun h=>by rw[hf 66 (by decide),I.s2 h]<;>rfl
 s3:=fun h g=>⟨by rw[hf 67 (by decide),(I.s3 h g).1]<;>rfl,by rw[hh 64 (by decide),(I.s3 h g).2]⟩
 s4:=fun h=>by rw[hf 68 (by decide),I.s4 h]<;>rfl
 s5:=fun h g=>⟨by rw[hf 69 (by decide),(I.s5 h g).1]<;>rfl,by rw[hh 69 (by decide),(I.s5 h g).2]⟩
 s6:=fun h=>by rw[hf 70 (by decide),I.s6 h]<;>rfl
 s7:=fun h g=>⟨by rw[hf 71 (by decide),(I.s7 h g).1]<;>rfl,by rw[hh 71 (by decide),(I.s7 h g).2]⟩
 s8:=fun h=>by rw[hf 72 (by decide),I.s8 h]<;>rfl
 s9:=fun h=>by rw[hf 73 (by decide),I.s9 h]<;>rfl
 s10:=fun h g=>⟨by rw[hf 74 (by decide),(I.s10 h g).1]<;>rfl,by rw[hh 71 (by decide),(I.s10 h g).2]⟩
 s11:=fun h g=>⟨by rw[hf 75 (by decide),(I.s11 h g).1]<;>rfl,by rw[hh 75 (by decide),(I.s11 h g).2]⟩
 s12:=fun h=>by rw[hf 76 (by decide),I.s12 h]<;>rfl
 s13:=fun h=>by rw[hf 77 (by decide),I.s13 h]<;>rfl
 s14:=fun h=>by rw[hf 78 (by decide),I.s14 h]<;>rfl
 s15:=fun h=>by rw[hf 79 (by decide),I.s15 h]<;>rfl
 s16:=fun _ _=>new
 s17:=fun h=>absurd (D 17 (h) 16 (by decide)) (by rw[h0];decide)
theorem Qas.k17(I:Qas F ps n cs H G f l fr hp)(h0:l 17=false)(R:∀k∈Qb0.getD 17 [],l k=true)(D:∀j,l j=true->∀k∈Qb0.getD j [],l k=true)
  (hf:∀s,s≠9->fr' s=fr s) (hh:∀β,β≠9->hp' β=hp β)
  (new:fr' 9= .mp 9 0 0/\hp' 9=some ⟨4,79,[.agg [.sl 1 ((F++[f]).map PV.poly),PV.mono (ps++[1]),.int .i64 n,.nilS]],false⟩):Qas F ps n cs H G f (fun k=>k==17||l k) fr' hp' where
 f1:=by rw[hf 1 (by decide),I.f1]<;>rfl
 f2:=by rw[hf 2 (by decide),I.f2]<;>rfl
 f3:=by rw[hf 3 (by decide),I.f3]<;>rfl
 f4:=by rw[hf 4 (by decide),I.f4]<;>rfl
 h4:=by rw[hh 4 (by decide),I.h4]
 s0:=fun h g=>⟨by rw[hf 64 (by decide),(I.s0 h g).1]<;>rfl,by rw[hh 64 (by decide),(I.s0 h g).2]⟩
 s1:=fun h=>by rw[hf 65 (by decide),I.s1 h]<;>rfl
 s2:=fun h=>by rw[hf 66 (by decide),I.s2 h]<;>rfl
 s3:=fun h g=>⟨by rw[hf 67 (by decide),(I.s3 h g).1]<;>rfl,by rw[hh 64 (by decide),(I.s3 h g).2]⟩
 s4:=fun h=>by rw[hf 68 (by decide),I.s4 h]<;>rfl
 s5:=fun h g=>⟨by rw[hf 69 (by decide),(I.s5 h g).1]<;>rfl,by rw[hh 69 (by decide),(I.s5 h g).2]⟩
 s6:=fun h=>by rw[hf 70 (by decide),I.s6 h]<;>rfl
 s7:=fun h g=>⟨by rw[hf 71 (by decide),(I.s7 h g).1]<;>rfl,by rw[hh 71 (by decide),(I.s7 h g).2]⟩
 s8:=fun h=>by rw[hf 72 (by decide),I.s8 h]<;>rfl
 s9:=fun h=>by rw[hf 73 (by decide),I.s9 h]<;>rfl
 s10:=fun h g=>⟨by rw[hf 74 (by decide),(I.s10 h g).1]<;>rfl,by rw[hh 71 (by decide),(I.s10 h g).2]⟩
 s11:=fun h g=>⟨by rw[hf 75 (by decide),(I.s11 h g).1]<;>rfl,by rw[hh 75 (by decide),(I.s11 h g).2]⟩
 s12:=fun h=>by rw[hf 76 (by decide),I.s12 h]<;>rfl
 s13:=fun h=>by rw[hf 77 (by decide),I.s13 h]<;>rfl
 s14:=fun h=>by rw[hf 78 (by decide),I.s14 h]<;>rfl
 s15:=fun h=>by rw[hf 79 (by decide),I.s15 h]<;>rfl
 s16:=fun _ h=>by cases h
 s17:=fun _=>new
theorem Q9g{C:Ctx}(hF:F.length<=8)(hps:ps.length<=8):∀(l:Nat->Bool)(i:Nat)(g:GOp),g9_5[i]? =some g->l i=false->(∀k∈Qb0.getD i [],l k=true)->(∀j,l j=true->∀k∈Qb0.getD j [],l k=true)->
  ∀fr hp,Qas F ps n cs H G f l fr hp->Qcp C g.g g.o fr hp (fun fr hp=>∃fr0 hp0,Wk fr hp fr0 hp0/\Qas F ps n cs H G f (fun k=>k==i||l k) fr0 hp0):=by
 intro l i g hg h0 R D fr hp I
 match i,hg,h0,R with
 |0,hg,h0,R=>
  obtain rfl:=Option.some.inj hg
  simp only[Qcp,opV,ev,List.map_cons,List.map_nil]
  unfold bsK
  refine⟨by decide,fun p hp=>by simp at hp,_,_,Wk.refl _ _,I.k0 h0 R D (fun s hs=>if_neg hs) (fun β hb=>(if_neg hb).trans rfl) ⟨if_pos rfl,if_pos rfl⟩⟩
 |1,hg,h0,R=>
  obtain rfl:=Option.some.inj hg
  simp only[Qcp,opV,ev,List.map_cons,List.map_nil]
  rw[I.f4]
  exact⟨_,_,Wk.refl _ _,I.k1 h0 R D (fun s hs=>if_neg hs) (fun β=>rfl) (if_pos rfl)⟩
 |2,hg,h0,R=>
  obtain rfl:=Option.some.inj hg
  simp only[Qcp,opV,ev,List.map_cons,List.map_nil]
  rw[I.s1 (R 1 (by decide))]
  unfold ldK
  simp only[]
  rw[I.h4]
  exact⟨by simp,by simp,by simp,_,_,Wk.refl _ _,I.k2 h0 R D (fun s hs=>if_neg hs) (fun β=>rfl) (if_pos rfl)⟩
 |3,hg,h0,R=>
  obtain rfl:=Option.some.inj hg
  simp only[Qcp,opV,ev,List.map_cons,List.map_nil]
  obtain⟨e1,e2⟩:=I.s0 (R 0 (by decide)) h0
  rw[e1,I.s2 (R 2 (by decide))]
  unfold Qd2
  simp only[Qdh]
  rw[e2]
  refine⟨by decide,.inl trivial,.inl ⟨by decide,rfl,rfl,rfl,by simp,by simp;omega,by simp;omega,_,_,Wk.refl _ _,I.k3 h0 R D (fun s hs=>if_neg hs) (fun β hb=>if_neg hb) ⟨(if_pos rfl).trans (by simp),(if_pos rfl).trans (by simp)⟩⟩⟩
 |4,hg,h0,R=>
  obtain rfl:=Option.some.inj hg
  change ∃fr0 hp0,Wk (upd fr 68 (fr 3)) hp fr0 hp0/\_
  exact⟨_,_,Wk.refl _ _,I.k4 h0 R D (fun s hs=>if_neg hs) (fun β=>rfl) ((if_pos rfl).trans I.f3)⟩
 |5,hg,h0,R=>
  obtain rfl:=Option.some.inj hg
  simp only[Qcp,opV,ev,List.map_cons,List.map_nil]
  unfold bsK
  rw[I.s4 (R 4 (by decide))]
  refine⟨by decide,fun p hp=>by simp at hp;subst hp;exact⟨rfl,rfl⟩,_,_,Wk.refl _ _,I.k5 h0 R D (fun s hs=>if_neg hs) (fun β hb=>(if_neg hb).trans rfl) ⟨if_pos rfl,if_pos rfl⟩⟩
 | 6,hg,h0,R=>
  obtain rfl:=Option.some.inj hg
  simp only[Qcp,opV,ev,List.map_cons,List.map_nil]
  obtain⟨e1,e2⟩:=I.s3 (R 3 (by decide)) h0
  obtain⟨e3,e4⟩:=I.s5 (R 5 (by decide)) h0
  rw[e1,e3]
  unfold Qd2
  simp only[Qdh]
  rw[e4]
  simp only[Option.map_some]
  rw[e2]
  refine⟨by decide,.inl trivial,.inl ⟨by decide,rfl,rfl,rfl,by simp,by simp;omega,by simp;omega,_,_,Qvh 70 ?_,I.k6 h0 R D (fun s hs=> ?_) (fun β hb=> ?_) ?_⟩⟩
  ·simp[upd,Q8,Qay,Qn,isY];rfl
  ·simp[upd,hs,Qav]
  ·rw[show(upd (Qav _ fr) _ _ _).refs=_ from congrArg PV.refs (if_pos rfl)]
   simp[FW.Qaf,Qn,hb,PV.refs,PV.ref1]
  ·simp[upd,Q8,Qay,Qn,isY,List.take_of_length_le]
 |7,hg,h0,R=>
  obtain rfl:=Option.some.inj hg
  simp only[Qcp,opV,ev,List.map_cons,List.map_nil]
  unfold bsK
  refine⟨by decide,fun p hp=>by simp at hp,_,_,Wk.refl _ _,I.k7 h0 R D (fun s hs=>if_neg hs) (fun β hb=>(if_neg hb).trans rfl) ⟨if_pos rfl,if_pos rfl⟩⟩
 |8,hg,h0,R=>
  obtain rfl:=Option.some.inj hg
  simp only[Qcp,opV,ev,List.map_cons,List.map_nil]
  rw[I.f4]
  exact⟨_,_,Wk.refl _ _,I.k8 h0 R D (fun s hs=>if_neg hs) (fun β=>rfl) (if_pos rfl)⟩
 |9,hg,h0,R=>
  obtain rfl:=Option.some.inj hg
  simp only[Qcp,opV,ev,List.map_cons,List.map_nil]
  rw[I.s8 (R 8 (by decide))]
  unfold ldK
  simp only[]
  rw[I.h4]
  exact⟨by simp,by simp,by simp,_,_,Wk.refl _ _,I.k9 h0 R D (fun s hs=>if_neg hs) (fun β=>rfl) (if_pos rfl)⟩
 |10,hg,h0,R=>
  obtain rfl:=Option.some.inj hg
  simp only[Qcp,opV,ev,List.map_cons,List.map_nil]
  obtain⟨e1,e2⟩:=I.s7 (R 7 (by decide)) h0
  rw[e1,I.s9 (R 9 (by decide))]
  unfold Qd2
  simp only[Qdh]
  rw[e2]
  refine⟨by decide,.inl trivial,.inl ⟨by decide,rfl,rfl,rfl,by simp,by simp[Qeh];omega,by simp[Qeh];omega,_,_,Wk.refl _ _,I.k10 h0 R D (fun s hs=>if_neg hs) (fun β hb=>if_neg hb) ⟨(if_pos rfl).trans (by simp[Qeh]),(if_pos rfl).trans (by simp[Qeh])⟩⟩⟩
 |11,hg,h0,R=>
  obtain rfl:=Option.some.inj hg
  simp only[Qcp,opV,ev,List.map_cons,List.map_nil]
  unfold bsK
  refine⟨by decide,fun p hp=>by simp at hp;subst hp;exact⟨rfl,rfl⟩,_,_,Wk.refl _ _,I.k11 h0 R D (fun s hs=>if_neg hs) (fun β hb=>(if_neg hb).trans rfl) ⟨if_pos rfl,if_pos rfl⟩⟩
 | 12,hg,h0,R=>
  obtain rfl:=Option.some.inj hg
  simp only[Qcp,opV,ev,List.map_cons,List.map_nil]
  obtain⟨e1,e2⟩:=I.s10 (R 10 (by decide)) h0
  obtain⟨e3,e4⟩:=I.s11 (R 11 (by decide)) h0
  rw[e1,e3]
  unfold Qd2
  simp only[Qdh]
  rw[e4]
  simp only[Option.map_some]
  rw[e2]
  refine⟨by decide,.inl trivial,.inl ⟨by decide,rfl,rfl,rfl,by simp,by simp;omega,by simp;omega,_,_,Qvh 76 ?_,I.k12 h0 R D (fun s hs=> ?_) (fun β hb=> ?_) ?_⟩⟩
  ·simp[upd,Q8,Qay,Qn,isY];rfl
  ·simp[upd,hs,Qav]
  ·rw[show(upd (Qav _ fr) _ _ _).refs=_ from congrArg PV.refs (if_pos rfl)]
   simp[FW.Qaf,Qn,hb,PV.refs,PV.ref1]
  ·simp[upd,Q8,Qay,Qn,isY,Qeh,List.take_of_length_le]
 |13,hg,h0,R=>
  obtain rfl:=Option.some.inj hg
  simp only[Qcp,opV,ev,List.map_cons,List.map_nil]
  rw[I.f4]
  exact⟨_,_,Wk.refl _ _,I.k13 h0 R D (fun s hs=>if_neg hs) (fun β=>rfl) (if_pos rfl)⟩
 |14,hg,h0,R=>
  obtain rfl:=Option.some.inj hg
  simp only[Qcp,opV,ev,List.map_cons,List.map_nil]
  rw[I.s13 (R 13 (by decide))]
  unfold ldK
  simp only[]
  rw[I.h4]
  exact⟨by simp,by simp,by simp,_,_,Wk.refl _ _,I.k14 h0 R D (fun s hs=>if_neg hs) (fun β=>rfl) (if_pos rfl)⟩
 |15,hg,h0,R=>
  obtain rfl:=Option.some.inj hg
  simp only[Qcp,opV,ev,List.map_cons,List.map_nil]
  rw[I.s6 (R 6 (by decide)),I.s12 (R 12 (by decide)),I.s14 (R 14 (by decide))]
  unfold Qga Qqg
  rw[if_neg (by simp[PV.isNst])]
  refine⟨fun p hp=> ?_,_,_,Wk.refl _ _,I.k15 h0 R D (fun s hs=>if_neg hs) (fun β=>rfl) ((if_pos rfl).trans rfl)⟩
  simp at hp
  rcases hp with rfl|rfl|rfl<;>exact⟨rfl,rfl,by simp⟩
 |16,hg,h0,R=>
  obtain rfl:=Option.some.inj hg
  simp only[Qcp,opV,ev,List.map_cons,List.map_nil]
  unfold Qd1
  refine⟨rfl,rfl,by decide,_,_,Wk.refl _ _,I.k16 h0 R D (fun s hs=>if_neg hs) (fun β hb=>(if_neg hb).trans rfl) ⟨if_pos rfl,if_pos rfl⟩⟩
 |17,hg,h0,R=>
  obtain rfl:=Option.some.inj hg
  simp only[Qcp,opV,ev,List.map_cons,List.map_nil]
  obtain⟨e1,e2⟩:=I.s16 (R 16 (by decide)) h0
  rw[e1,I.s15 (R 15 (by decide))]
  unfold stK
  have e3:FW.Qaf hp (PV.agg [.sl 1 ((F++[f]).map PV.poly),PV.mono (ps++[1]),.int .i64 n,.nilS]).refs 9=some ⟨4,79,[.agg [.nilS,.nilS,.int .i64 0,.nilS]],false⟩:=e2
  simp only[]
  rw[e3]
  refine⟨rfl,rfl,rfl,by decide,by decide,_,_,Wk.refl _ _,I.k17 h0 R D (fun s hs=>rfl) (fun β hb=>(if_neg hb).trans rfl) ⟨e1,(if_pos rfl).trans rfl⟩⟩
 |i+18,hg,h0,R=>cases hg
end Go.Proofs.YtonfajmchebkeaaGreat
namespace Go.Proofs.YtonfajmchebkeaaGreat
open Go Go.FW
set_option linter.unusedSimpArgs false
set_option linter.unusedVariables false
set_option maxRecDepth 100000
theorem Qq3(ls:List (List RTm)):(tms ls).length=ls.length:=List.length_map _
theorem Q5r{c:Qgi}{k:Nat}(hb:RC k c)(h:Qjc c=true):Qo2 c=true/\c.ps.length=(tms c.fs).length/\(∀f∈tms c.fs,f≠[])/\(∀x∈c.ps,0<=x/\x<=4)/\∀x∈(tms c.fs).zip c.ps,Qo4 x:=by
 simp only[Qjc,Bool.and_eq_true,decide_eq_true_eq,List.all_eq_true,List.mem_range]at h
 obtain⟨h1,h2,h3⟩:=h
 obtain⟨_,q1,_⟩:=Qxe hb h1
 have key:∀i (hi:i<c.ps.length) (hf:i<(tms c.fs).length),0<=c.ps[i]/\c.ps[i]<=4/\(tms c.fs)[i]≠[]:=fun i hi hf=>by
  have h4:=h3 i hi
  have hif:i<c.fs.length:=by rwa[Qq3]at hf
  have e2:c.ps.getD i 0=c.ps[i]:=by simp[hi]
  have e3:c.fs.getD i []=c.fs[i]:=by simp[hif]
  simp only[Qma,decide_eq_true_eq,e2,e3]at h4
  refine⟨h4.1,h4.2.1,fun e=>h4.2.2 ?_⟩
  have e4:(tms c.fs)[i]=c.fs[i].map RTm.tm:=by simp[tms]
  rw[e4]at e
  exact List.map_eq_nil_iff.1 e
 refine⟨h1,by rw[Qq3];exact h2,fun f hf=> ?_,fun x hx=> ?_,fun x hx=> ?_⟩
 ·obtain⟨i,hi,rfl⟩:=List.getElem_of_mem hf
  exact(key i (by rw[h2];rwa[Qq3]at hi) hi).2.2
 ·obtain⟨i,hi,rfl⟩:=List.getElem_of_mem hx
  have:=key i hi (by rw[Qq3];omega)
  exact⟨this.1,this.2.1⟩
 ·obtain⟨i,hi,rfl⟩:=List.getElem_of_mem hx
  have hz:((tms c.fs).zip c.ps).length=min (tms c.fs).length c.ps.length:=List.length_zip
  rw[List.getElem_zip]
  have:=key i (by omega) (by omega)
  exact⟨q1 _ (List.getElem_mem _),this.2.2,this.1,this.2.1⟩
end Go.Proofs.YtonfajmchebkeaaGreat
namespace Go.Proofs.YtonfajmchebkeaaGreat
open Go Go.FW
set_option linter.unusedSimpArgs false
set_option linter.unusedVariables false
set_option maxRecDepth 100000
end Go.Proofs.YtonfajmchebkeaaGreat
namespace Go.FW
open Go
set_option maxRecDepth 100000
theorem Qmq:∀ {l:List (List Tm×Nat)} {p r:List Tm},Qfn l p=some r->r=Qdj l p
 | [],p,r,h=>(Option.some.inj h).symm
 | x::l,p,r,h=>by
  unfold Qfn at h
  cases hr:Qcm x.1 x.2 p with
  |none=>rw[hr]at h;cases h
  |some s=>
   rw[hr]at h
   rw[Qmq h,Qig hr];rfl
theorem Qaj4{o:Option (List Tm)}(h:(Qgd o).2=0):o=some (Qgd o).1:=by
 cases o with
 |none=>cases h
 |some r=>rfl
theorem Q5s{fs:List (List Tm)}{ps:List Int}(h:(Qda fs ps).2=0):fs.length=ps.length/\Qg3 ps=true/\(Qda fs ps).1=Qdj (Qb6 fs ps) (Qbj 1):=by
 unfold Qda at h⊢
 split at h
 ·rename_i h1
  rw[if_pos h1]
  split at h
  ·rename_i h2
   rw[if_pos h2]
   exact⟨h1,h2,Qmq (Qaj4 h)⟩
  ·cases h
 ·cases h
theorem Qaex {fs:List (List Tm)} {ps:List Int} {n:Int} {cs hs:List (List Tm)} {g:List Tm} (h:Qfo fs ps n cs hs g=0):
  fs.length=ps.length/\Qg3 ps=true/\cs.length=hs.length/\1<=n/\n<=64/\(∀f∈fs,f≠[])/\Qdk g (Qdj (Qb6 fs ps) (Qbj 1)) n.toNat=Qcf (cs.zip hs) (cs.zip hs).length:=by
 unfold Qfo at h
 split at h
 ·rename_i h0
  obtain⟨a1,a2,a3⟩:=Q5s h0
  split at h
  ·cases h
  ·rename_i h1
   split at h
   ·cases h
   ·rename_i h2
    split at h
    ·rename_i h3
     split at h
     ·cases h
     ·rename_i l hr
      split at h
      ·rename_i h4
       split at h
       ·rename_i h5
        obtain⟨_,_,b3,_⟩:=Qsp h4
        refine⟨a1,a2,h3,by omega,by omega,fun f hf e=>h1 (List.any_eq_true.2 ⟨f,hf,by rw[e];rfl⟩),?_⟩
        rw[<-a3,<-Qig hr,h5,b3]
       ·cases h
      ·rename_i h4;exact absurd h h4
    ·cases h
 ·rename_i h0;exact absurd h h0
end Go.FW
