/- Part 11 of the proof of DiscoverHolds: K24, K18, K19, K20, K21, K17, K22, K25, K26, J2, J3, J4, J5, J6, J7, J8, J9, FwWF, FwWG. Own lemmas; no conditions. -/
import Derived.Test.YtmkijkjaeljieaaGreatDiscoverHoldsPart10
set_option maxHeartbeats 1000000
set_option linter.unusedSimpArgs false
set_option linter.unusedVariables false
set_option linter.unnecessarySimpa false
set_option maxRecDepth 100000
namespace Go.Proofs.YtmkijkjaeljieaaGreat
open Go Go.FW
def Io(cs:List Cd)(args:List PV):List (Nat×PV):=[(1,.sl 2 (cs.map PV.aD)),(5,.sl 1 args)]
def Kf(cs:List Cd)(args:List PV)(a0 a1 a2:Nat)(c0 c1 c2:Cd):WT:=[(133,0,.sl 2 (cs.map PV.aD)),(134,1,.sl 1 args),(135,2,.pt [.int .i64 (a0:Nat)]),(136,3,.int .i64 (a0:Nat)),(137,4,.pt [PV.ay c0.1,PV.ay c0.2]),(138,5,PV.aD c0),(139,6,.sl 2 (cs.map PV.aD)),(140,7,.sl 1 args),(141,8,.pt [.int .i64 (a1:Nat)]),(142,9,.int .i64 (a1:Nat)),(143,10,.pt [PV.ay c1.1,PV.ay c1.2]),(144,11,PV.aD c1),(145,12,.sl 2 (cs.map PV.aD)),(146,13,.sl 1 args),(147,14,.pt [.int .i64 (a2:Nat)]),(148,15,.int .i64 (a2:Nat)),(149,16,.pt [PV.ay c2.1,PV.ay c2.2]),(150,17,PV.aD c2),(6,18,.mp 6 0 0),(7,19,.mp 7 0 0),(8,20,.mp 8 0 0)]
def AF(c0 c1 c2:Cd):WB:=[(6,18,21,⟨2,98,[.agg [.ab,.ab]],false⟩,⟨2,98,[PV.aD c0],false⟩),(7,19,22,⟨2,98,[.agg [.ab,.ab]],false⟩,⟨2,98,[PV.aD c1],false⟩),(8,20,23,⟨2,98,[.agg [.ab,.ab]],false⟩,⟨2,98,[PV.aD c2],false⟩)]
theorem ahG{C:Ctx}{cs:List Cd}{args:List PV}{a0 a1 a2:Nat}{c0 c1 c2:Cd}(sg:args[0]? =some (.int .i64 (a0:Nat)))(tO:(cs.map PV.aD)[a0]? =some (PV.aD c0))(BB:args[1]? =some (.int .i64 (a1:Nat)))(mM:(cs.map PV.aD)[a1]? =some (PV.aD c1))(oH:args[2]? =some (.int .i64 (a2:Nat)))(jJ:(cs.map PV.aD)[a2]? =some (PV.aD c2)):∀(l:Nat->Bool)(i:Nat)(g:n5),Dt[i]? =some g->l i=false->(∀k∈Ik.getD i [],l k=true)->(∀j,l j=true->∀k∈Ik.getD j [],l k=true)->
  ∀fr hp,cm (Io cs args) (Kf cs args a0 a1 a2 c0 c1 c2) (AF c0 c1 c2) l fr hp->fl C g.g g.o fr hp (fun fr hp=>∃aO aA,Wk fr hp aO aA/\cm (Io cs args) (Kf cs args a0 a1 a2 c0 c1 c2) (AF c0 c1 c2) (fun k=>k==i||l k) aO aA):=by
 intro l i g hg h0 R D fr hp I
 match i,hg,h0,R with
 |0,rfl,h0,R=>exact I.dq
 |1,rfl,h0,R=>exact I.dq
 |2,rfl,h0,R=>exact I.dN R sg
 |3,rfl,h0,R=>exact I.iO R
 |4,rfl,h0,R=>exact I.iN R tO
 |5,rfl,h0,R=>exact I.iP R
 |6,rfl,h0,R=>exact I.dq
 |7,rfl,h0,R=>exact I.dq
 |8,rfl,h0,R=>exact I.dN R BB
 |9,rfl,h0,R=>exact I.iO R
 |10,rfl,h0,R=>exact I.iN R mM
 |11,rfl,h0,R=>exact I.iP R
 |12,rfl,h0,R=>exact I.dq
 |13,rfl,h0,R=>exact I.dq
 |14,rfl,h0,R=>exact I.dN R oH
 |15,rfl,h0,R=>exact I.iO R
 |16,rfl,h0,R=>exact I.iN R jJ
 |17,rfl,h0,R=>exact I.iP R
 |18,rfl,h0,R=>exact I.al D h0
 |19,rfl,h0,R=>exact I.al D h0
 |20,rfl,h0,R=>exact I.al D h0
 |21,rfl,h0,R=>exact I.zQ R h0
 |22,rfl,h0,R=>exact I.zQ R h0
 |23,rfl,h0,R=>exact I.zQ R h0
 |i+24,hg,h0,R=>cases hg
def Ip(cs:List Cd)(args:List PV):List (Nat×PV):=[(1,.sl 2 (cs.map PV.aD)),(5,.sl 1 args)]
def Kg(cs:List Cd)(args:List PV)(a0 a1 a2 a3:Nat)(c0 c1 c2 c3:Cd):WT:=[(176,0,.sl 2 (cs.map PV.aD)),(177,1,.sl 1 args),(178,2,.pt [.int .i64 (a0:Nat)]),(179,3,.int .i64 (a0:Nat)),(180,4,.pt [PV.ay c0.1,PV.ay c0.2]),(181,5,PV.aD c0),(182,6,.sl 2 (cs.map PV.aD)),(183,7,.sl 1 args),(184,8,.pt [.int .i64 (a1:Nat)]),(185,9,.int .i64 (a1:Nat)),(186,10,.pt [PV.ay c1.1,PV.ay c1.2]),(187,11,PV.aD c1),(188,12,.sl 2 (cs.map PV.aD)),(189,13,.sl 1 args),(190,14,.pt [.int .i64 (a2:Nat)]),(191,15,.int .i64 (a2:Nat)),(192,16,.pt [PV.ay c2.1,PV.ay c2.2]),(193,17,PV.aD c2),(194,18,.sl 2 (cs.map PV.aD)),(195,19,.sl 1 args),(196,20,.pt [.int .i64 (a3:Nat)]),(197,21,.int .i64 (a3:Nat)),(198,22,.pt [PV.ay c3.1,PV.ay c3.2]),(199,23,PV.aD c3),(9,24,.mp 9 0 0),(10,25,.mp 10 0 0),(11,26,.mp 11 0 0),(12,27,.mp 12 0 0)]
def AG(c0 c1 c2 c3:Cd):WB:=[(9,24,28,⟨2,98,[.agg [.ab,.ab]],false⟩,⟨2,98,[PV.aD c0],false⟩),(10,25,29,⟨2,98,[.agg [.ab,.ab]],false⟩,⟨2,98,[PV.aD c1],false⟩),(11,26,30,⟨2,98,[.agg [.ab,.ab]],false⟩,⟨2,98,[PV.aD c2],false⟩),(12,27,31,⟨2,98,[.agg [.ab,.ab]],false⟩,⟨2,98,[PV.aD c3],false⟩)]
theorem ahH{C:Ctx}{cs:List Cd}{args:List PV}{a0 a1 a2 a3:Nat}{c0 c1 c2 c3:Cd}(sg:args[0]? =some (.int .i64 (a0:Nat)))(tO:(cs.map PV.aD)[a0]? =some (PV.aD c0))(BB:args[1]? =some (.int .i64 (a1:Nat)))(mM:(cs.map PV.aD)[a1]? =some (PV.aD c1))(oH:args[2]? =some (.int .i64 (a2:Nat)))(jJ:(cs.map PV.aD)[a2]? =some (PV.aD c2))(I7:args[3]? =some (.int .i64 (a3:Nat)))(I':(cs.map PV.aD)[a3]? =some (PV.aD c3)):∀(l:Nat->Bool)(i:Nat)(g:n5),Du[i]? =some g->l i=false->(∀k∈Il.getD i [],l k=true)->(∀j,l j=true->∀k∈Il.getD j [],l k=true)->
  ∀fr hp,cm (Ip cs args) (Kg cs args a0 a1 a2 a3 c0 c1 c2 c3) (AG c0 c1 c2 c3) l fr hp->fl C g.g g.o fr hp (fun fr hp=>∃aO aA,Wk fr hp aO aA/\cm (Ip cs args) (Kg cs args a0 a1 a2 a3 c0 c1 c2 c3) (AG c0 c1 c2 c3) (fun k=>k==i||l k) aO aA):=by
 intro l i g hg h0 R D fr hp I
 match i,hg,h0,R with
 |0,rfl,h0,R=>exact I.dq
 |1,rfl,h0,R=>exact I.dq
 |2,rfl,h0,R=>exact I.dN R sg
 |3,rfl,h0,R=>exact I.iO R
 |4,rfl,h0,R=>exact I.iN R tO
 |5,rfl,h0,R=>exact I.iP R
 |6,rfl,h0,R=>exact I.dq
 |7,rfl,h0,R=>exact I.dq
 |8,rfl,h0,R=>exact I.dN R BB
 |9,rfl,h0,R=>exact I.iO R
 |10,rfl,h0,R=>exact I.iN R mM
 |11,rfl,h0,R=>exact I.iP R
 |12,rfl,h0,R=>exact I.dq
 |13,rfl,h0,R=>exact I.dq
 |14,rfl,h0,R=>exact I.dN R oH
 |15,rfl,h0,R=>exact I.iO R
 |16,rfl,h0,R=>exact I.iN R jJ
 |17,rfl,h0,R=>exact I.iP R
 |18,rfl,h0,R=>exact I.dq
 |19,rfl,h0,R=>exact I.dq
 |20,rfl,h0,R=>exact I.dN R I7
 |21,rfl,h0,R=>exact I.iO R
 |22,rfl,h0,R=>exact I.iN R I'
 |23,rfl,h0,R=>exact I.iP R
 |24,rfl,h0,R=>exact I.al D h0
 |25,rfl,h0,R=>exact I.al D h0
 |26,rfl,h0,R=>exact I.al D h0
 |27,rfl,h0,R=>exact I.al D h0
 |28,rfl,h0,R=>exact I.zQ R h0
 |29,rfl,h0,R=>exact I.zQ R h0
 |30,rfl,h0,R=>exact I.zQ R h0
 |31,rfl,h0,R=>exact I.zQ R h0
 |i+32,hg,h0,R=>cases hg
def Iq(cs:List Cd)(args:List PV):List (Nat×PV):=[(1,.sl 2 (cs.map PV.aD)),(5,.sl 1 args)]
def Kh(cs:List Cd)(args:List PV)(a0 a1 a2 a3 a4 a5 a6 a7:Nat)(c0 c1 c2 c3 c4 c5 c6 c7:Cd)(q0 q1 q2 q3 q4:List Tm):WT:=[(224,0,.sl 2 (cs.map PV.aD)),(225,1,.sl 1 args),(226,2,.pt [.int .i64 (a0:Nat)]),(227,3,.int .i64 (a0:Nat)),(228,4,.pt [PV.ay c0.1,PV.ay c0.2]),(229,5,PV.aD c0),(230,6,.sl 2 (cs.map PV.aD)),(231,7,.sl 1 args),(232,8,.pt [.int .i64 (a1:Nat)]),(233,9,.int .i64 (a1:Nat)),(234,10,.pt [PV.ay c1.1,PV.ay c1.2]),(235,11,PV.aD c1),(236,12,.sl 2 (cs.map PV.aD)),(237,13,.sl 1 args),(238,14,.pt [.int .i64 (a2:Nat)]),(239,15,.int .i64 (a2:Nat)),(240,16,.pt [PV.ay c2.1,PV.ay c2.2]),(241,17,PV.aD c2),(242,18,.sl 2 (cs.map PV.aD)),(243,19,.sl 1 args),(244,20,.pt [.int .i64 (a3:Nat)]),(245,21,.int .i64 (a3:Nat)),(246,22,.pt [PV.ay c3.1,PV.ay c3.2]),(247,23,PV.aD c3),(248,24,PV.ay q0),(249,25,.sl 2 (cs.map PV.aD)),(250,26,.sl 1 args),(251,27,.pt [.int .i64 (a0:Nat)]),(252,28,.int .i64 (a0:Nat)),(253,29,.pt [PV.ay c0.1,PV.ay c0.2]),(254,30,PV.aD c0),(255,31,.sl 2 (cs.map PV.aD)),(256,32,.sl 1 args),(257,33,.pt [.int .i64 (a1:Nat)]),(258,34,.int .i64 (a1:Nat)),(259,35,.pt [PV.ay c1.1,PV.ay c1.2]),(260,36,PV.aD c1),(261,37,.sl 2 (cs.map PV.aD)),(262,38,.sl 1 args),(263,39,.pt [.int .i64 (a2:Nat)]),(264,40,.int .i64 (a2:Nat)),(265,41,.pt [PV.ay c2.1,PV.ay c2.2]),(266,42,PV.aD c2),(267,43,.sl 2 (cs.map PV.aD)),(268,44,.sl 1 args),(269,45,.pt [.int .i64 (a3:Nat)]),(270,46,.int .i64 (a3:Nat)),(271,47,.pt [PV.ay c3.1,PV.ay c3.2]),(272,48,PV.aD c3),(273,49,PV.ay q1),(274,50,.sl 2 (cs.map PV.aD)),(275,51,.sl 1 args),(276,52,.pt [.int .i64 (a4:Nat)]),(277,53,.int .i64 (a4:Nat)),(278,54,.pt [PV.ay c4.1,PV.ay c4.2]),(279,55,PV.aD c4),(280,56,.sl 2 (cs.map PV.aD)),(281,57,.sl 1 args),(282,58,.pt [.int .i64 (a5:Nat)]),(283,59,.int .i64 (a5:Nat)),(284,60,.pt [PV.ay c5.1,PV.ay c5.2]),(285,61,PV.aD c5),(286,62,.sl 2 (cs.map PV.aD)),(287,63,.sl 1 args),(288,64,.pt [.int .i64 (a6:Nat)]),(289,65,.int .i64 (a6:Nat)),(290,66,.pt [PV.ay c6.1,PV.ay c6.2]),(291,67,PV.aD c6),(292,68,.sl 2 (cs.map PV.aD)),(293,69,.sl 1 args),(294,70,.pt [.int .i64 (a7:Nat)]),(295,71,.int .i64 (a7:Nat)),(296,72,.pt [PV.ay c7.1,PV.ay c7.2]),(297,73,PV.aD c7),(298,74,PV.ay q2),(299,75,.sl 2 (cs.map PV.aD)),(300,76,.sl 1 args),(301,77,.pt [.int .i64 (a4:Nat)]),(302,78,.int .i64 (a4:Nat)),(303,79,.pt [PV.ay c4.1,PV.ay c4.2]),(304,80,PV.aD c4),(305,81,.sl 2 (cs.map PV.aD)),(306,82,.sl 1 args),(307,83,.pt [.int .i64 (a5:Nat)]),(308,84,.int .i64 (a5:Nat)),(309,85,.pt [PV.ay c5.1,PV.ay c5.2]),(310,86,PV.aD c5),(311,87,.sl 2 (cs.map PV.aD)),(312,88,.sl 1 args),(313,89,.pt [.int .i64 (a6:Nat)]),(314,90,.int .i64 (a6:Nat)),(315,91,.pt [PV.ay c6.1,PV.ay c6.2]),(316,92,PV.aD c6),(317,93,.sl 2 (cs.map PV.aD)),(318,94,.sl 1 args),(319,95,.pt [.int .i64 (a7:Nat)]),(320,96,.int .i64 (a7:Nat)),(321,97,.pt [PV.ay c7.1,PV.ay c7.2]),(322,98,PV.aD c7),(323,99,PV.ay q3),(324,100,PV.ay q4),(325,101,.ax 325 0 1),(4,102,.ax 325 0 1)]
def Ki(c0 c1 c2 c3 c4 c5 c6 c7:Cd)(q0 q1 q2 q3 q4:List Tm):WB:=[(325,101,101,⟨1,61,[PV.ay q4],false⟩,⟨1,61,[PV.ay q4],false⟩)]
theorem ahI{C:Ctx}{cs:List Cd}{args:List PV}{a0 a1 a2 a3 a4 a5 a6 a7:Nat}{c0 c1 c2 c3 c4 c5 c6 c7:Cd}{q0 q1 q2 q3 q4:List Tm}(sg:args[0]? =some (.int .i64 (a0:Nat)))(tO:(cs.map PV.aD)[a0]? =some (PV.aD c0))(BB:args[1]? =some (.int .i64 (a1:Nat)))(mM:(cs.map PV.aD)[a1]? =some (PV.aD c1))(oH:args[2]? =some (.int .i64 (a2:Nat)))(jJ:(cs.map PV.aD)[a2]? =some (PV.aD c2))(I7:args[3]? =some (.int .i64 (a3:Nat)))(I':(cs.map PV.aD)[a3]? =some (PV.aD c3))(XG:args[4]? =some (.int .i64 (a4:Nat)))(XT:(cs.map PV.aD)[a4]? =some (PV.aD c4))(XH:args[5]? =some (.int .i64 (a5:Nat)))(XU:(cs.map PV.aD)[a5]? =some (PV.aD c5))(xq:args[6]? =some (.int .i64 (a6:Nat)))(XV:(cs.map PV.aD)[a6]? =some (PV.aD c6))(XI:args[7]? =some (.int .i64 (a7:Nat)))(XW:(cs.map PV.aD)[a7]? =some (PV.aD c7))(hP:C.P=Tryz.prog)(w0:AC 40 [PV.aD c0,PV.aD c1,PV.aD c2,PV.aD c3] (· =PV.ay q0))(w1:AC 74 [PV.aD c0,PV.aD c1,PV.aD c2,PV.aD c3] (· =PV.ay q1))(w2:AC 40 [PV.aD c4,PV.aD c5,PV.aD c6,PV.aD c7] (· =PV.ay q2))(w3:AC 74 [PV.aD c4,PV.aD c5,PV.aD c6,PV.aD c7] (· =PV.ay q3))(w4:AC 80 [PV.ay q0,PV.ay q1,PV.ay q2,PV.ay q3] (· =PV.ay q4)):∀(l:Nat->Bool)(i:Nat)(g:n5),Ko[i]? =some g->l i=false->(∀k∈Im.getD i [],l k=true)->(∀j,l j=true->∀k∈Im.getD j [],l k=true)->
  ∀fr hp,cm (Iq cs args) (Kh cs args a0 a1 a2 a3 a4 a5 a6 a7 c0 c1 c2 c3 c4 c5 c6 c7 q0 q1 q2 q3 q4) (Ki c0 c1 c2 c3 c4 c5 c6 c7 q0 q1 q2 q3 q4) l fr hp->fl C g.g g.o fr hp (fun fr hp=>∃aO aA,Wk fr hp aO aA/\cm (Iq cs args) (Kh cs args a0 a1 a2 a3 a4 a5 a6 a7 c0 c1 c2 c3 c4 c5 c6 c7 q0 q1 q2 q3 q4) (Ki c0 c1 c2 c3 c4 c5 c6 c7 q0 q1 q2 q3 q4) (fun k=>k==i||l k) aO aA):=by
 intro l i g hg h0 R D fr hp I
 match i,hg,h0,R with
 |0,rfl,h0,R=>exact I.dq
 |1,rfl,h0,R=>exact I.dq
 |2,rfl,h0,R=>exact I.dN R sg
 |3,rfl,h0,R=>exact I.iO R
 |4,rfl,h0,R=>exact I.iN R tO
 |5,rfl,h0,R=>exact I.iP R
 |6,rfl,h0,R=>exact I.dq
 |7,rfl,h0,R=>exact I.dq
 |8,rfl,h0,R=>exact I.dN R BB
 |9,rfl,h0,R=>exact I.iO R
 |10,rfl,h0,R=>exact I.iN R mM
 |11,rfl,h0,R=>exact I.iP R
 |12,rfl,h0,R=>exact I.dq
 |13,rfl,h0,R=>exact I.dq
 |14,rfl,h0,R=>exact I.dN R oH
 |15,rfl,h0,R=>exact I.iO R
 |16,rfl,h0,R=>exact I.iN R jJ
 |17,rfl,h0,R=>exact I.iP R
 |18,rfl,h0,R=>exact I.dq
 |19,rfl,h0,R=>exact I.dq
 |20,rfl,h0,R=>exact I.dN R I7
 |21,rfl,h0,R=>exact I.iO R
 |22,rfl,h0,R=>exact I.iN R I'
 |23,rfl,h0,R=>exact I.iP R
 |24,rfl,h0,R=>exact I.ca hP R w0
 |25,rfl,h0,R=>exact I.dq
 |26,rfl,h0,R=>exact I.dq
 |27,rfl,h0,R=>exact I.dN R sg
 |28,rfl,h0,R=>exact I.iO R
 |29,rfl,h0,R=>exact I.iN R tO
 |30,rfl,h0,R=>exact I.iP R
 |31,rfl,h0,R=>exact I.dq
 |32,rfl,h0,R=>exact I.dq
 |33,rfl,h0,R=>exact I.dN R BB
 |34,rfl,h0,R=>exact I.iO R
 |35,rfl,h0,R=>exact I.iN R mM
 |36,rfl,h0,R=>exact I.iP R
 |37,rfl,h0,R=>exact I.dq
 |38,rfl,h0,R=>exact I.dq
 |39,rfl,h0,R=>exact I.dN R oH
 |40,rfl,h0,R=>exact I.iO R
 |41,rfl,h0,R=>exact I.iN R jJ
 |42,rfl,h0,R=>exact I.iP R
 |43,rfl,h0,R=>exact I.dq
 |44,rfl,h0,R=>exact I.dq
 |45,rfl,h0,R=>exact I.dN R I7
 |46,rfl,h0,R=>exact I.iO R
 |47,rfl,h0,R=>exact I.iN R I'
 |48,rfl,h0,R=>exact I.iP R
 |49,rfl,h0,R=>exact I.ca hP R w1
 |50,rfl,h0,R=>exact I.dq
 |51,rfl,h0,R=>exact I.dq
 |52,rfl,h0,R=>exact I.dN R XG
 |53,rfl,h0,R=>exact I.iO R
 |54,rfl,h0,R=>exact I.iN R XT
 |55,rfl,h0,R=>exact I.iP R
 |56,rfl,h0,R=>exact I.dq
 |57,rfl,h0,R=>exact I.dq
 |58,rfl,h0,R=>exact I.dN R XH
 |59,rfl,h0,R=>exact I.iO R
 |60,rfl,h0,R=>exact I.iN R XU
 |61,rfl,h0,R=>exact I.iP R
 |62,rfl,h0,R=>exact I.dq
 |63,rfl,h0,R=>exact I.dq
 |64,rfl,h0,R=>exact I.dN R xq
 |65,rfl,h0,R=>exact I.iO R
 |66,rfl,h0,R=>exact I.iN R XV
 |67,rfl,h0,R=>exact I.iP R
 |68,rfl,h0,R=>exact I.dq
 |69,rfl,h0,R=>exact I.dq
 |70,rfl,h0,R=>exact I.dN R XI
 |71,rfl,h0,R=>exact I.iO R
 |72,rfl,h0,R=>exact I.iN R XW
 |73,rfl,h0,R=>exact I.iP R
 |74,rfl,h0,R=>exact I.ca hP R w2
 |75,rfl,h0,R=>exact I.dq
 |76,rfl,h0,R=>exact I.dq
 |77,rfl,h0,R=>exact I.dN R XG
 |78,rfl,h0,R=>exact I.iO R
 |79,rfl,h0,R=>exact I.iN R XT
 |80,rfl,h0,R=>exact I.iP R
 |81,rfl,h0,R=>exact I.dq
 |82,rfl,h0,R=>exact I.dq
 |83,rfl,h0,R=>exact I.dN R XH
 |84,rfl,h0,R=>exact I.iO R
 |85,rfl,h0,R=>exact I.iN R XU
 |86,rfl,h0,R=>exact I.iP R
 |87,rfl,h0,R=>exact I.dq
 |88,rfl,h0,R=>exact I.dq
 |89,rfl,h0,R=>exact I.dN R xq
 |90,rfl,h0,R=>exact I.iO R
 |91,rfl,h0,R=>exact I.iN R XV
 |92,rfl,h0,R=>exact I.iP R
 |93,rfl,h0,R=>exact I.dq
 |94,rfl,h0,R=>exact I.dq
 |95,rfl,h0,R=>exact I.dN R XI
 |96,rfl,h0,R=>exact I.iO R
 |97,rfl,h0,R=>exact I.iN R XW
 |98,rfl,h0,R=>exact I.iP R
 |99,rfl,h0,R=>exact I.ca hP R w3
 |100,rfl,h0,R=>exact I.ca hP R w4
 |101,rfl,h0,R=>exact I.b1 R D h0
 |102,rfl,h0,R=>exact I.mv1 R
 |i+103,hg,h0,R=>cases hg
open Tryz
theorem aid{f:Qq}{n:Int}(hf:jD f):AC 124 [PV.bI f,.int .i64 n] (· = .int .i64 (cL f n)):=by
 have hr:=Q4i hf.r Oz;have hz:=alJ hf.r;have fV:=hf.l;obtain⟨k,args,n0,a,d⟩:=f;simp only at hr hz fV;have hA:=ah0 (k:=k);refine aw Qf func124 ako fun C hP=>?_;refine aq hP hA ?_;refine Sz0 ?_;refine Qa (fun h0=>?_) (fun h0=>?_)
 ·refine Sz0 ?_;exact Qc (by simp[cL,h0]) rfl
 refine Sz0 ?_;refine Qa (fun hl=>?_) (fun hl=>?_)
 ·refine Sz0 ?_;exact Qc (by simp[cL,h0,hl]) rfl
 replace hl:(args.length:Int)=cr k:=by omega
 refine Sz0 ?_;refine Qm okB [(4,4),(7,7),(21,32)] [] (fun m J hp=>∃i,m=args.length-i/\i<=args.length/\(∀j (h:j<args.length),j<i->0<=args[j]/\args[j]<n)/\J 21= .int .i64 (i:Nat)/\hp 2=some ⟨5,59,[PV.bI ⟨k,args,n0,a,d⟩],false⟩) args.length ?_ ?_
 ·refine⟨0,rfl,by omega,by omega,?_⟩;refine Sz0 ?_;rfl
 rintro _ J h ⟨i,rfl,hi,h1,ku,cN⟩;refine Sz1 ku ?_;refine Qa (fun hg=>?_) (fun hg=>?_)
 ·have aE:i<args.length:=by omega
  have h2:(args[i]<0∨n<=args[i])->cL ⟨k,args,n0,a,d⟩ n=2:=fun h=>Tp (f:=⟨k,args,n0,a,d⟩) h0 hl aE h;have bD:0<=args[i]/\args[i]<n->∀j (h:j<args.length),j<i+1->0<=args[j]/\args[j]<n:=fun h j hj hZ=>by
   by_cases e:j=i
   ·subst e;exact h
   ·exact h1 j hj Oz
  generalize hx:args[i]=x at *
  refine Sz2 ku hx ?_;refine Qp (fun h3=>?_) (fun h3=>?_)
  ·refine Sz0 ?_;exact Qc (by rw[h2 (.inl h3)]) rfl
  refine Sz0 ?_;refine Qa (fun h4=>?_) (fun h4=>?_)
  ·refine Sz0 ?_;exact Qc (by rw[h2 (.inr h4)]) rfl
  refine Sz1 ku ?_;refine Qh (args.length-(i+1)) Oz ⟨i+1,rfl,by omega,bD ⟨by omega,by omega⟩,?_⟩;exact Tz1 cN
 obtain rfl:i=args.length:=by omega
 have dS:=Tq (f:=⟨k,args,n0,a,d⟩) (n:=n) h0 hl (fun j hj=>h1 j hj hj);refine Sz1 cN ?_;by_cases h9:k=9
 ·subst h9;refine pP cN hP hr ?_;cases hq:iX n0 a d
  ·refine Sz1 cN ?_;exact Qc (by rw[dS];simp[hq]) rfl
  ·refine Sz1 cN ?_;exact Qc (by rw[dS];simp[hq]) rfl
 ·have d9:decide (k=9)=false:=decide_eq_false h9;have DW:decide (¬k=9)=true:=decide_eq_true h9;refine eF cN d9 DW hP hz ?_;cases hq:mq n0 a d
  ·refine Sz1 cN ?_;exact Qc (by rw[dS];simp[hq,h9]) rfl
  ·refine Sz1 cN ?_;exact Qc (by rw[dS];simp[hq,h9]) rfl
abbrev C3(c:Cd):Prop:=CQ 7 128 3 c
theorem C3.cb{c:Cd}(h:C3 c):CB c:=h.mono Oz Oz Oz
theorem H6{a b c d:Cd}(ha:C3 a)(hb:C3 b)(hc:C3 c)(hd:C3 d):PQ 392 14450 6 (lS a b c d):=
 (((hb.x.sub ha.x).mul (hd.y.sub hc.y)).sub ((hb.y.sub ha.y).mul (hd.x.sub hc.x))).mono Oz Oz Oz
theorem Gn{a b c d:Cd}(ha:C3 a)(hb:C3 b)(hc:C3 c)(hd:C3 d):PQ 392 14450 6 (eD a b c d):=
 (((hb.x.sub ha.x).mul (hd.x.sub hc.x)).add ((hb.y.sub ha.y).mul (hd.y.sub hc.y))).mono Oz Oz Oz
theorem Tu{p q:List Tm}(hp:PQ 392 14450 6 p)(hq:PQ 392 14450 6 q):PQ 153664 11328800 12 (cB p q):=(hp.mul hq).mono Oz Oz Oz
def rO(a b c d e f g h:Cd):List Tm:=bF (cB (lS a b c d) (eD e f g h)) (cB (lS e f g h) (eD a b c d))
def jS(k:Int)(p:Nat->Cd)(r:Rat):List (List Tm):=
 if k=1 then [lS (p 0) (p 1) (p 0) (p 2)]else if k=2 then [lS (p 0) (p 1) (p 2) (p 3)]else if k=3 then [eD (p 0) (p 1) (p 2) (p 3)]
 else if k=4 then [bF (eD (p 0) (p 1) (p 0) (p 1)) (eD (p 2) (p 3) (p 2) (p 3))]
 else if k=5 then [bF (Qu (p 1).1 (p 2).1) (Qu (p 0).1 (p 0).1),bF (Qu (p 1).2 (p 2).2) (Qu (p 0).2 (p 0).2)]
 else if k=6 then [rO (p 1) (p 0) (p 1) (p 2) (p 3) (p 0) (p 3) (p 2)]
 else if k=7 then [rO (p 0) (p 1) (p 2) (p 3) (p 4) (p 5) (p 6) (p 7)]
 else if k=8 then [bF (p 0).1 (p 1).1,bF (p 0).2 (p 1).2]
 else [bF (eD (p 0) (p 1) (p 0) (p 1)) (kB (eD (p 2) (p 3) (p 2) (p 3)) r)]
abbrev PV.jn(l:List (List Tm)):PV:=.sl 1 (l.map PV.ay)
theorem lk{p q p' q':PV}{R:PV->Prop}(h:R (.aK [p',q']))(d1:p.aG=true)(d2:q.aG=true)(h1:PV.le p p')(h2:PV.le q q'):DJ R p q:=by obtain⟨g1,r,g2,g3⟩:=bO (r:=.aK [p',q']) rfl d1 d2 h1 h2;subst g3;exact⟨g1,_,g2,h⟩
set_option maxHeartbeats 1000000 in
theorem OY(hN:rp){S:List Q3}{G:List Qq}(hF:om S G)(hS:S.length<2^40)(hG:G.length<2^40)(hb:∀s∈S,lA s)(hg:∀g∈G,jD g):
  AC 17 [PV.df S G] (· = .aK [PV.frame (bb S S.length).1 (bb S S.length).2.1,.int .i64 0]):=by
 have hR:=Lz hN hS hG hb hg;have hSl:=hF.l;refine pk Qf func17 rfl anU Nz fun C hP=>?_;simp only[WS];refine eY ?_;refine Sz0 ?_;refine gP hP hR rfl rfl rfl ?_;rintro _ ⟨e,rfl,vC⟩;obtain rfl:e=0:=vC.2 hF.o;refine Sz0 ?_;refine dn (rK 5 2000020 a9 Oz rfl Oz) ?_;refine Sz0 ?_;refine dn (rD (γ:=2000020) (e:=2) (ty:=33) (xs:=[.agg [.ab,.ab]]) (fz:=false) Tz0 (by simp) Oz (fun x hx=>by rw[Kay.1 hx];rfl)) ?_;refine Sz0 ?_;refine dn (P0 (γ:=2000020) (e:=2) (ty:=33) (cs:=[.ab,.ab]) (cs':=[.ax 2000000 0 0,.ab]) 2000000 2 98 Tz0 a9 Oz Oz rfl (by simp)) ?_;refine Sz0 ?_;refine dn (Rz (γ:=2000020) (e:=2) (ty:=33) (cs:=[.ax 2000000 0 0,.ab]) (cs':=[.ax 2000000 0 0,.ax 2000001 0 0]) 2000001 3 143 Tz0 a9 Oz Oz rfl (by simp)) ?_;refine Sz0 ?_;refine HC kv [(3,3),(5,10),(20,62),(2000020,2000021)] [8,9,10,54,55] (fun q J hp=>∃i,q=S.length-i/\i<=S.length/\J 5= .np 2000020 0 0/\J 6= .int .i64 ((bb S i).2.2:Nat)/\J 20= .int .i64 (i:Nat)/\J 2000020= .aJ 2000020 2 33 [GA i (bb S i).2.1.length]/\hp 2000020=some ⟨2,33,[],false⟩/\hp 2000021=none/\
   hp 2000000=some (BC (bb S i).1)/\hp 2000001=some (BD (bb S i).2.1)/\hp 1=some ⟨2,25,[PV.df S G],false⟩/\hp 2=some ⟨2,33,[.agg [.ab,.ab]],false⟩) S.length ?_ ?_
 ·refine⟨0,rfl,by omega,?_⟩;refine Sz0 ?_;exact⟨rfl,rfl,rfl,rfl,rfl⟩
 rintro _ J h ⟨i,rfl,hi,j5,j6,gB,g5,k5,kn,k0,k1,kf,kr⟩;refine Sz1 gB ?_;refine Qa (fun hc=>?_) (fun hc=>?_)
 ·have aE:i<S.length:=by omega
  have hd:S.getD i cM=S[i]:=by rw[Kac,Kad aE];rfl
  have cF:=rB S i;obtain⟨cT,pW⟩:=AE S i;have jK:∀c∈(bb S i).1,CB c:=fun c hc=>by obtain⟨n,hn,rfl⟩:=KaG hc;obtain⟨w,_,w8,_,hw⟩:=Ds hF hb i hi n Oz;rw[Kac,Kad hn]at hw;exact Tr hw w8
  have nS:=aoA (S:=S) (G:=G) (b:=(bb S i).2.2) (vs:=(bb S i).2.1) aE Oz (hF.f.s i aE) cF jK Oz Oz (fun _=>⟨(hF.s _ (Kag aE)).1,(hF.s _ (Kag aE)).2,(hb _ (Kag aE)).r⟩);have yV:CB (jx S[i].k (rv S[i].n S[i].a S[i].d) (de (bb S i).1 S[i].args) (bb S i).2.1.length (bb S i).2.2):=by obtain⟨w,_,w8,_,hw⟩:=Ds hF hb (i+1) Oz i Oz;rw[bb,hd,Kac]at hw;simp only at hw;rw[Kbm Oz,cF,Kbw]at hw;exact Tr hw w8
  have iK:=LA S[i].k (i:Nat) (bb S i).2.2;have NT:bb S (i+1)=((bb S i).1++[jx S[i].k (rv S[i].n S[i].a S[i].d) (de (bb S i).1 S[i].args) (bb S i).2.1.length (bb S i).2.2],(bb S i).2.1++iY S[i].k (i:Nat) (bb S i).2.2,if S[i].k=1 then(bb S i).2.2+1 else(bb S i).2.2):=by rw[bb,hd]
  rw[rV,cF]at nS;obtain⟨F,MZ⟩:∃F,bb S i=F:=⟨_,rfl⟩
  rw[MZ]at g5 k0 k1 j6 cT pW jK nS yV iK NT cF;generalize jx S[i].k (rv S[i].n S[i].a S[i].d) (de F.1 S[i].args) F.2.1.length F.2.2=c at *
  generalize iY S[i].k (i:Nat) F.2.2=nv at *
  generalize hx:S[i]=s at *
  refine Sz6 gB j5 j6 g5 kf hx ?_;refine dn (Ao (γ:=2000020) (e:=2) (ty:=33) (cs:=[.ax 2000000 0 i,.ax 2000001 0 F.2.1.length]) (Tz1 g5)) ?_;refine Sz5 gB j5 j6 k5 kf ?_;refine rA hP nS (Tz1 k0) (Tz1 k1) rfl rfl rfl (by simp) ?_;rw[Ti,Tj (fun x hx=>by rcases Ay.1 hx with rfl|rfl<;>omega)];refine Sz2 j5 k5 ?_;refine dn (rK 9 2000021 (mE kn) Oz rfl Oz) ?_;refine Sz1 kn ?_;refine dn (rD (γ:=2000021) (e:=2) (ty:=33) (xs:=[.agg [.ab,.ab]]) (fz:=false) (Tz1 kn) (by simp) Oz (fun x hx=>by rw[Kay.1 hx];rfl)) ?_;rw[aks rfl Oz];have d1:decide (64<((F.2.1++nv).length:Int))=false:=decide_eq_false (by rw[Kap];omega);have d2:decide (4000<(c.1.length:Int))=false:=decide_eq_false (by have:=yV.x.l;omega);have d3:decide (4000<(c.2.length:Int))=false:=decide_eq_false (by have:=yV.y.l;omega);refine Sz3 d1 d2 d3 ?_;refine dn (aku 2000021) ?_;rw[ao0 Oz];generalize hJ:iZ (one 2000021) _=J';have w5:J' 5= .np 2000020 0 0:=by rw[<-hJ];simp+decide (disch:=try exact D4 g5 j5 j6 gB) only[go_sem,g5,j5,j6,gB]<;>rfl
  have w6:J' 6= .int .i64 (F.2.2:Nat):=by rw[<-hJ];simp+decide (disch:=try exact D4 g5 j5 j6 gB) only[go_sem,g5,j5,j6,gB]<;>rfl
  have w8:J' 8= .mp 8 0 0:=by rw[<-hJ];simp+decide (disch:=try exact D4 g5 j5 j6 gB) only[go_sem,g5,j5,j6,gB]<;>rfl
  have w10:J' 10= .mp 10 0 0:=by rw[<-hJ];simp+decide (disch:=try exact D4 g5 j5 j6 gB) only[go_sem,g5,j5,j6,gB]<;>rfl
  have w20:J' 20= .int .i64 (i:Nat):=by rw[<-hJ];simp+decide (disch:=try exact D4 g5 j5 j6 gB) only[go_sem,g5,j5,j6,gB]<;>rfl
  have w50:J' 50= .aP [.ax 2000000 0 i,.ax 2000001 0 (F.2.1++nv).length]:=by rw[<-hJ];simp+decide (disch:=try exact D4 g5 j5 j6 gB) only[go_sem,g5,j5,j6,gB]<;>rfl
  have awY:J' 2000020= .aJ 2000020 2 33 [.aP [.undef,.undef]]:=by rw[<-hJ];simp+decide (disch:=try exact D4 g5 j5 j6 gB) only[go_sem,g5,j5,j6,gB]<;>rfl
  generalize hH:MH (one 2000021) _=H';have v1:H' 1=some ⟨2,25,[PV.df S G],false⟩:=by rw[<-hH];simp+decide (disch:=try exact D6 kf kr k5 k0 k1 kn) only[go_sem,kf,kr,k5,k0,k1,kn]<;>rfl
  have v2:H' 2=some ⟨2,33,[.agg [.ab,.ab]],false⟩:=by rw[<-hH];simp+decide (disch:=try exact D6 kf kr k5 k0 k1 kn) only[go_sem,kf,kr,k5,k0,k1,kn]<;>rfl
  have v8:H' 8=some ⟨6,96,[PV.qq s],false⟩:=by rw[<-hH];simp+decide (disch:=try exact D6 kf kr k5 k0 k1 kn) only[go_sem,kf,kr,k5,k0,k1,kn]<;>rfl
  have v10:H' 10=some ⟨2,98,[PV.aD c],false⟩:=by rw[<-hH];simp+decide (disch:=try exact D6 kf kr k5 k0 k1 kn) only[go_sem,kf,kr,k5,k0,k1,kn]<;>rfl
  have awU:H' 2000000=some (BC F.1):=by rw[<-hH];simp+decide (disch:=try exact D6 kf kr k5 k0 k1 kn) only[go_sem,kf,kr,k5,k0,k1,kn]<;>rfl
  have abk:H' 2000001=some (BD (F.2.1++nv)):=by rw[<-hH];simp+decide (disch:=try exact D6 kf kr k5 k0 k1 kn) only[go_sem,kf,kr,k5,k0,k1,kn]<;>rfl
  have J5:H' 2000020=some ⟨2,33,[],false⟩:=by rw[<-hH];simp+decide (disch:=try exact D6 kf kr k5 k0 k1 kn) only[go_sem,kf,kr,k5,k0,k1,kn]<;>rfl
  have abl:H' 2000021=none:=by rw[<-hH];simp+decide (disch:=try exact D6 kf kr k5 k0 k1 kn) only[go_sem,kf,kr,k5,k0,k1,kn]<;>rfl
  clear hJ hH;refine Sz6 w5 w50 awY J5 w10 v10 ?_;rw[G3 (f:=PV.aD) (y:=c) (xs:=F.1) (ty':=98) (fz:=false) (mE awU) a9 Oz cF.symm Oz Oz Oz];refine Sz4 w5 J5 w8 v8 ?_;refine Qa (fun hk=>?_) (fun hk=>?_)
  ·refine Sz2 w6 w20 ?_;refine CN (S.length-(i+1)) Oz ⟨i+1,rfl,by omega,?_⟩;rw[NT,if_pos hk];exact Tz7 w5 w6 J5 abl abk v1 v2
  ·refine Sz2 w6 w20 ?_;refine CN (S.length-(i+1)) Oz ⟨i+1,rfl,by omega,?_⟩;rw[NT,if_neg hk];exact Tz7 w5 w6 J5 abl abk v1 v2
 obtain rfl:i=S.length:=by omega
 refine Sz3 j5 g5 k5 ?_;have fY:=rB S S.length;obtain⟨F,MZ⟩:∃F,bb S S.length=F:=⟨_,rfl⟩
 rw[MZ]at k0 k1 fY⊢;refine Sb 63 1 (p:=.aP [.ms 2000000 S.length,.ms 2000001 F.2.1.length]) (D:=PV.frame F.1 F.2.1) a9 ?_ (fun l hl=>?_)
 ·refine⟨fun c hc=>?_,?_,?_⟩
  ·simp only[KaH,Kbh,or_false]at hc;rcases hc with rfl|rfl<;>rfl
  ·simp[Gx,pS,k0,k1,BC,BD,PV.frame];exact⟨Kah (by simp[fY]),Kah (by simp)⟩
  ·simp[Ce,ug]
 have z2:FW.Q6 h l 2=some ⟨2,33,[.agg [.ab,.ab]],false⟩:=by rw[UN hl Oz,kr]
 refine Sz1 z2 ?_;refine mA (iW ?_);refine Sz0 ?_;have hh:=Qe (.agg [.sl 2 (F.1.map PV.aD),.sl 3 (F.2.1.map PV.fvar)]);exact lk rfl rfl rfl hh (Qe _)
def jy(cs:List Cd)(f:Qq):List (List Tm)×Int:=
 if cL f cs.length=0 then
  if(jS f.k (fun i=>(de cs f.args).getD i ([],[])) (rv f.n f.a f.d)).any (fun p=>decide (4000<p.length))then([],4)
  else(jS f.k (fun i=>(de cs f.args).getD i ([],[])) (rv f.n f.a f.d),0)
 else([],cL f cs.length)
structure SD(cs:List Cd)(f:Qq):Prop where
 b:jD f
 l:cs.length<=8
 c:∀c∈cs,CB c
 t:cL f cs.length=0->f.k=6∨f.k=7->∀c∈de cs f.args,C3 c
 r:cL f cs.length=0->f.k=9->PV.rr f.n f.a f.d=PV.rat (rv f.n f.a f.d)/\rs (rv f.n f.a f.d)<=1000
theorem PU{cs:List Cd}{l:List Int}(h:∀a∈l,0<=a/\a<cs.length):∀c∈de cs l,c∈cs:=fun c hm=>by obtain⟨a,ha,rfl⟩:=KaA.1 hm;have:=h a ha;rw[Kac,Kad (show a.toNat<cs.length by omega)];exact Kag _
theorem Wy{p q r s:List Tm}(hp:PQ 392 14450 6 p)(hq:PQ 392 14450 6 q)(hr:PQ 392 14450 6 r)(hs:PQ 392 14450 6 s):AC 80 [PV.ay p,PV.ay q,PV.ay r,PV.ay s] (· =PV.ay (bF (cB p s) (cB r q))):=by
 have c1:=uR hp hs Oz Oz Oz;have c2:=uR hr hq Oz Oz Oz;have c3:=jR (Tu hp hs) (Tu hr hq) Oz Oz Oz;refine aw Qf func80 anG fun C hP=>?_;refine Sz0 ?_
 repeat' first
  |refine eW ?_ ?_
  |refine Qo hP c1 ?_
  |refine Qo hP c2 ?_
  |simp+decide (disch:=try exact D0) only[go_sem]
 all_goals
  refine Qo hP c3 ?_;refine Sz0 ?_;exact Qc rfl rfl
theorem aie{p:List Tm}{a:Rat}{T K E:Nat}(hp:PQ T K E p)(ha:rs a+1<=K)(hT:T<=2^36)(hK:K<=2^33)(hE:E<=2^38):AC 81 [PV.ay p,PV.rat a] (· =PV.ay (kB p a)):=
 TR hp.b hp.n.z ha hK hE (by have:=hp.l;omega)
def s0(cs:List Cd):List Int->List Cd->Prop
 |a::l,c::L=>(∃m:Nat,a=(m:Int)/\∃h:m<cs.length,cs[m]=c)/\s0 cs l L
 | [],[]=>True
 |_,_=>False
theorem Kj{cs:List Cd}:∀ {l:List Int},(∀a∈l,0<=a/\a<cs.length)->s0 cs l (de cs l)
 | [],_=>trivial
 |a::l,h=>by have h0:=h a Kbt;refine⟨⟨a.toNat,by omega,by omega,?_⟩,Kj fun x hx=>h x (KaZ _ hx)⟩;show cs[a.toNat]=cs.getD a.toNat ([],[]);rw[Kac,Kad (show a.toNat<cs.length by omega)];rfl
theorem nj{cs:List Cd}{m:Nat}{c:Cd}{h:m<cs.length}(e:cs[m]=c):(cs.map PV.aD)[m]? =some (PV.aD c):=by rw[Kao,Kad h,e];rfl
theorem dN{cs:List Cd}{l:List Int}{c:Cd}{L:List Cd}(h:s0 cs l (c::L)):∃(m:Nat)(r:List Int),l=(m:Int)::r/\(∃h:m<cs.length,cs[m]=c)/\s0 cs r L:=by
 cases l with
 |nil=>exact h.elim
 |cons a l=>obtain⟨⟨m,rfl,hm⟩,hr⟩:=h;exact⟨m,l,rfl,hm,hr⟩
theorem JG{cs:List Cd}{l:List Int}(h:s0 cs l []):l=[]:=by
 cases l with
 |nil=>rfl
 |cons a l=>exact h.elim
theorem ix2{cs:List Cd}{l:List Int}{x y:Cd}(h:s0 cs l [x,y]):∃m0 m1:Nat,l=[(m0:Int),(m1:Int)]/\(∃h:m0<cs.length,cs[m0]=x)/\(∃h:m1<cs.length,cs[m1]=y):=by obtain⟨m0,r0,rfl,h0,h⟩:=dN h;obtain⟨m1,r1,rfl,h1,h⟩:=dN h;obtain rfl:=JG h;exact⟨m0,m1,rfl,h0,h1⟩
theorem On{cs:List Cd}{l:List Int}{x y z:Cd}(h:s0 cs l [x,y,z]):∃m0 m1 m2:Nat,l=[(m0:Int),(m1:Int),(m2:Int)]/\(∃h:m0<cs.length,cs[m0]=x)/\(∃h:m1<cs.length,cs[m1]=y)/\(∃h:m2<cs.length,cs[m2]=z):=by obtain⟨m0,r0,rfl,h0,h⟩:=dN h;obtain⟨m1,r1,rfl,h1,h⟩:=dN h;obtain⟨m2,r2,rfl,h2,h⟩:=dN h;obtain rfl:=JG h;exact⟨m0,m1,m2,rfl,h0,h1,h2⟩
theorem BU{cs:List Cd}{l:List Int}{x y z w:Cd}(h:s0 cs l [x,y,z,w]):∃m0 m1 m2 m3:Nat,l=[(m0:Int),(m1:Int),(m2:Int),(m3:Int)]/\(∃h:m0<cs.length,cs[m0]=x)/\(∃h:m1<cs.length,cs[m1]=y)/\(∃h:m2<cs.length,cs[m2]=z)/\(∃h:m3<cs.length,cs[m3]=w):=by obtain⟨m0,r0,rfl,h0,h⟩:=dN h;obtain⟨m1,r1,rfl,h1,h⟩:=dN h;obtain⟨m2,r2,rfl,h2,h⟩:=dN h;obtain⟨m3,r3,rfl,h3,h⟩:=dN h;obtain rfl:=JG h;exact⟨m0,m1,m2,m3,rfl,h0,h1,h2,h3⟩
theorem ix8{cs:List Cd}{l:List Int}{x y z w s t u v:Cd}(h:s0 cs l [x,y,z,w,s,t,u,v]):∃m0 m1 m2 m3 m4 m5 m6 m7:Nat,l=[(m0:Int),(m1:Int),(m2:Int),(m3:Int),(m4:Int),(m5:Int),(m6:Int),(m7:Int)]/\(∃h:m0<cs.length,cs[m0]=x)/\(∃h:m1<cs.length,cs[m1]=y)/\(∃h:m2<cs.length,cs[m2]=z)/\(∃h:m3<cs.length,cs[m3]=w)/\(∃h:m4<cs.length,cs[m4]=s)/\(∃h:m5<cs.length,cs[m5]=t)/\(∃h:m6<cs.length,cs[m6]=u)/\(∃h:m7<cs.length,cs[m7]=v):=by obtain⟨m0,r0,rfl,h0,h⟩:=dN h;obtain⟨m1,r1,rfl,h1,h⟩:=dN h;obtain⟨m2,r2,rfl,h2,h⟩:=dN h;obtain⟨m3,r3,rfl,h3,h⟩:=dN h;obtain⟨m4,r4,rfl,h4,h⟩:=dN h;obtain⟨m5,r5,rfl,h5,h⟩:=dN h;obtain⟨m6,r6,rfl,h6,h⟩:=dN h;obtain⟨m7,r7,rfl,h7,h⟩:=dN h;obtain rfl:=JG h;exact⟨m0,m1,m2,m3,m4,m5,m6,m7,rfl,h0,h1,h2,h3,h4,h5,h6,h7⟩
theorem afN{k:Int}{args:List Int}{n:Bool}{a d:List Nat}{cs L:List Cd}(hk:cr k≠0)(hl:(L.length:Int)=cr k)(hI:s0 cs args L)(hc:∀c∈L,CB c)(h3:k=6∨k=7->∀c∈L,C3 c)(hr:k=9->PV.rr n a d=PV.rat (rv n a d)/\rs (rv n a d)<=1000):
  AC 42 [PV.bI ⟨k,args,n,a,d⟩,.sl 2 (cs.map PV.aD)] (· =PV.jn (jS k (fun i=>L.getD i ([],[])) (rv n a d))):=by
 have auh:k=1∨k=2∨k=3∨k=4∨k=5∨k=6∨k=7∨k=8∨k=9:=by
  rcases Ag k with h|h
  ·exact h
  ·exfalso;apply hk;unfold cr;repeat' split
   all_goals omega
 have e2:∀L:List Cd,L.length=2->∃x y,L=[x,y]:=fun L h=>by
  match L,h with
  | [x,y],_=>exact⟨x,y,rfl⟩
 have e3:∀L:List Cd,L.length=3->∃x y z,L=[x,y,z]:=fun L h=>by
  match L,h with
  | [x,y,z],_=>exact⟨x,y,z,rfl⟩
 have e4:∀L:List Cd,L.length=4->∃x y z w,L=[x,y,z,w]:=fun L h=>by
  match L,h with
  | [x,y,z,w],_=>exact⟨x,y,z,w,rfl⟩
 have e8:∀L:List Cd,L.length=8->∃x y z w s t u v,L=[x,y,z,w,s,t,u,v]:=fun L h=>by
  match L,h with
  | [x,y,z,w,s,t,u,v],_=>exact⟨x,y,z,w,s,t,u,v,rfl⟩
 rcases auh with rfl|rfl|rfl|rfl|rfl|rfl|rfl|rfl|rfl
 ·obtain⟨x,y,z,rfl⟩:=e3 L (by simp[cr]at hl;omega);have hx:=hc x (by simp);have hy:=hc y (by simp);have hz:=hc z (by simp);obtain⟨m0,m1,m2,rfl,⟨b0,i0⟩,⟨b1,i1⟩,⟨b2,i2⟩⟩:=On hI;have c1:=oa hx hy hx hz;show Qb _ _ [.agg [.int .i64 1,.sl 1 [.int .i64 (m0:Nat),.int .i64 (m1:Nat),.int .i64 (m2:Nat)],.bool n,PV.nat a,PV.nat d],_] _;refine aw Qf func42 uT fun C hP=>?_;refine Sz3 i0 i1 i2 ?_
  repeat' first
   |refine eW ?_ ?_
   |refine Qo hP c1 ?_
   |simp+decide (disch:=try exact D3 i0 i1 i2) only[go_sem,i0,i1,i2]
  all_goals exact ig a9 (by simp[jS,rO])
 ·obtain⟨x,y,z,w,rfl⟩:=e4 L (by simp[cr]at hl;omega);have hx:=hc x (by simp);have hy:=hc y (by simp);have hz:=hc z (by simp);have hw:=hc w (by simp);obtain⟨m0,m1,m2,m3,rfl,⟨b0,i0⟩,⟨b1,i1⟩,⟨b2,i2⟩,⟨b3,i3⟩⟩:=BU hI;have c1:=oa hx hy hz hw;show Qb _ _ [.agg [.int .i64 2,.sl 1 [.int .i64 (m0:Nat),.int .i64 (m1:Nat),.int .i64 (m2:Nat),.int .i64 (m3:Nat)],.bool n,PV.nat a,PV.nat d],_] _;refine aw Qf func42 uT fun C hP=>?_;refine Sz4 i0 i1 i2 i3 ?_
  repeat' first
   |refine eW ?_ ?_
   |refine Qo hP c1 ?_
   |simp+decide (disch:=try exact D4 i0 i1 i2 i3) only[go_sem,i0,i1,i2,i3]
  all_goals exact ig a9 (by simp[jS,rO])
 ·obtain⟨x,y,z,w,rfl⟩:=e4 L (by simp[cr]at hl;omega);have hx:=hc x (by simp);have hy:=hc y (by simp);have hz:=hc z (by simp);have hw:=hc w (by simp);obtain⟨m0,m1,m2,m3,rfl,⟨b0,i0⟩,⟨b1,i1⟩,⟨b2,i2⟩,⟨b3,i3⟩⟩:=BU hI;have c1:=uN hx hy hz hw;show Qb _ _ [.agg [.int .i64 3,.sl 1 [.int .i64 (m0:Nat),.int .i64 (m1:Nat),.int .i64 (m2:Nat),.int .i64 (m3:Nat)],.bool n,PV.nat a,PV.nat d],_] _;refine aw Qf func42 uT fun C hP=>?_;refine Sz4 i0 i1 i2 i3 ?_
  repeat' first
   |refine eW ?_ ?_
   |refine Qo hP c1 ?_
   |simp+decide (disch:=try exact D4 i0 i1 i2 i3) only[go_sem,i0,i1,i2,i3]
  all_goals exact ig a9 (by simp[jS,rO])
 ·obtain⟨x,y,z,w,rfl⟩:=e4 L (by simp[cr]at hl;omega);have hx:=hc x (by simp);have hy:=hc y (by simp);have hz:=hc z (by simp);have hw:=hc w (by simp);obtain⟨m0,m1,m2,m3,rfl,⟨b0,i0⟩,⟨b1,i1⟩,⟨b2,i2⟩,⟨b3,i3⟩⟩:=BU hI;have c1:=lh hx hy;have c2:=lh hz hw;have c3:=jR (Di hx hy hx hy) (Di hz hw hz hw) Oz Oz Oz;show Qb _ _ [.agg [.int .i64 4,.sl 1 [.int .i64 (m0:Nat),.int .i64 (m1:Nat),.int .i64 (m2:Nat),.int .i64 (m3:Nat)],.bool n,PV.nat a,PV.nat d],_] _;refine aw Qf func42 uT fun C hP=>?_;refine Sz4 i0 i1 i2 i3 ?_
  repeat' first
   |refine eW ?_ ?_
   |refine Qo hP c1 ?_
   |refine Qo hP c2 ?_
   |refine Qo hP c3 ?_
   |simp+decide (disch:=try exact D4 i0 i1 i2 i3) only[go_sem,i0,i1,i2,i3]
  all_goals exact ig a9 (by simp[jS,rO])
 ·obtain⟨x,y,z,rfl⟩:=e3 L (by simp[cr]at hl;omega);have hx:=hc x (by simp);have hy:=hc y (by simp);have hz:=hc z (by simp);obtain⟨m0,m1,m2,rfl,⟨b0,i0⟩,⟨b1,i1⟩,⟨b2,i2⟩⟩:=On hI;have p1:=hx.x.add hx.x;have p2:=hx.y.add hx.y;have p3:=hy.x.add hz.x;have p4:=hy.y.add hz.y;have c1:=th hx.x hx.x Oz Oz Oz;have c2:=th hx.y hx.y Oz Oz Oz;have c3:=th hy.x hz.x Oz Oz Oz;have c4:=th hy.y hz.y Oz Oz Oz;have c5:=jR p3 p1 Oz Oz Oz;have c6:=jR p4 p2 Oz Oz Oz;show Qb _ _ [.agg [.int .i64 5,.sl 1 [.int .i64 (m0:Nat),.int .i64 (m1:Nat),.int .i64 (m2:Nat)],.bool n,PV.nat a,PV.nat d],_] _;refine G' Qf func42 rfl (KF uT) Nz fun C hP hN=>?_;simp only[IC];refine eY ?_;refine Sz0 ?_;refine Kn Dt Ik (by rw[hP];exact Qf) (by rw[hP,hN];exact afh) afi (by decide) (cm (Io cs [.int .i64 (m0:Nat),.int .i64 (m1:Nat),.int .i64 (m2:Nat)]) (Kf cs [.int .i64 (m0:Nat),.int .i64 (m1:Nat),.int .i64 (m2:Nat)] m0 m1 m2 x y z) (AF x y z)) ?_ (ahG (args:=[.int .i64 (m0:Nat),.int .i64 (m1:Nat),.int .i64 (m2:Nat)]) rfl (nj i0) rfl (nj i1) rfl (nj i2)) (fun l fr hp bC I=>?_)
  ·refine⟨fun e he=>?_,fun e he h=>(by cases h),fun e he h=>(by cases h),fun e he h=>(by cases h)⟩;simp only[Io,KaH,Kbh,or_false]at he;rcases he with rfl|rfl
   ·exact Tz0
   ·simp+decide (disch:=try exact D0) only[go_sem]<;>rfl
  refine OX (I.fin (fun e he=>?_) (fun e he=>?_)) (Mq ?_)
  ·simp only[AF,KaH,Kbh,or_false]at he;rcases he with rfl|rfl|rfl
   all_goals exact bC _ (by simp[Dt,Du])
  ·simp only[AF,KaH,Kbh,or_false]at he;rcases he with rfl|rfl|rfl
   ·exact I.at (s:=6) rfl (bC 18 (by decide))
   ·exact I.at (s:=7) rfl (bC 19 (by decide))
   ·exact I.at (s:=8) rfl (bC 20 (by decide))
  simp only[vp,xC,AF];refine Sz0 ?_
  repeat' first
   |refine eW ?_ ?_
   |refine Qo hP c1 ?_
   |refine Qo hP c2 ?_
   |refine Qo hP c3 ?_
   |refine Qo hP c4 ?_
   |refine Qo hP c5 ?_
   |refine Qo hP c6 ?_
   |simp+decide (disch:=try exact D0) only[go_sem]
  all_goals
   refine Mg (Wk.refl _ _) ?_;refine Sz0 ?_;exact ig a9 (by simp[jS,rO])
 ·obtain⟨x,y,z,w,rfl⟩:=e4 L (by simp[cr]at hl;omega);have hx:=h3 (.inl rfl) x (by simp);have hy:=h3 (.inl rfl) y (by simp);have hz:=h3 (.inl rfl) z (by simp);have hw:=h3 (.inl rfl) w (by simp);obtain⟨m0,m1,m2,m3,rfl,⟨b0,i0⟩,⟨b1,i1⟩,⟨b2,i2⟩,⟨b3,i3⟩⟩:=BU hI;have c1:=oa hy.cb hx.cb hy.cb hz.cb;have c2:=uN hy.cb hx.cb hy.cb hz.cb;have c3:=oa hw.cb hx.cb hw.cb hz.cb;have c4:=uN hw.cb hx.cb hw.cb hz.cb;have c5:=Wy (H6 hy hx hy hz) (Gn hy hx hy hz) (H6 hw hx hw hz) (Gn hw hx hw hz);show Qb _ _ [.agg [.int .i64 6,.sl 1 [.int .i64 (m0:Nat),.int .i64 (m1:Nat),.int .i64 (m2:Nat),.int .i64 (m3:Nat)],.bool n,PV.nat a,PV.nat d],_] _;refine G' Qf func42 rfl (KF uT) Nz fun C hP hN=>?_;simp only[IC];refine eY ?_;refine Sz0 ?_;refine Kn Du Il (by rw[hP];exact Qf) (by rw[hP,hN];exact afj) afK (by decide) (cm (Ip cs [.int .i64 (m0:Nat),.int .i64 (m1:Nat),.int .i64 (m2:Nat),.int .i64 (m3:Nat)]) (Kg cs [.int .i64 (m0:Nat),.int .i64 (m1:Nat),.int .i64 (m2:Nat),.int .i64 (m3:Nat)] m0 m1 m2 m3 x y z w) (AG x y z w)) ?_ (ahH (args:=[.int .i64 (m0:Nat),.int .i64 (m1:Nat),.int .i64 (m2:Nat),.int .i64 (m3:Nat)]) rfl (nj i0) rfl (nj i1) rfl (nj i2) rfl (nj i3)) (fun l fr hp bC I=>?_)
  ·refine⟨fun e he=>?_,fun e he h=>(by cases h),fun e he h=>(by cases h),fun e he h=>(by cases h)⟩;simp only[Ip,KaH,Kbh,or_false]at he;rcases he with rfl|rfl
   ·exact Tz0
   ·simp+decide (disch:=try exact D0) only[go_sem]<;>rfl
  refine OX (I.fin (fun e he=>?_) (fun e he=>?_)) (Mq ?_)
  ·simp only[AG,KaH,Kbh,or_false]at he;rcases he with rfl|rfl|rfl|rfl
   all_goals exact bC _ (by simp[Dt,Du])
  ·simp only[AG,KaH,Kbh,or_false]at he;rcases he with rfl|rfl|rfl|rfl
   ·exact I.at (s:=9) rfl (bC 24 (by decide))
   ·exact I.at (s:=10) rfl (bC 25 (by decide))
   ·exact I.at (s:=11) rfl (bC 26 (by decide))
   ·exact I.at (s:=12) rfl (bC 27 (by decide))
  simp only[vp,xC,AG];refine Sz0 ?_
  repeat' first
   |refine eW ?_ ?_
   |refine Qo hP c1 ?_
   |refine Qo hP c2 ?_
   |refine Qo hP c3 ?_
   |refine Qo hP c4 ?_
   |refine Qo hP c5 ?_
   |simp+decide (disch:=try exact D0) only[go_sem]
  all_goals
   refine Mg (Wk.refl _ _) ?_;refine Sz0 ?_;exact ig a9 (by simp[jS,rO])
 ·obtain⟨x,y,z,w,s,t,u,v,rfl⟩:=e8 L (by simp[cr]at hl;omega);have hx:=h3 (.inr rfl) x (by simp);have hy:=h3 (.inr rfl) y (by simp);have hz:=h3 (.inr rfl) z (by simp);have hw:=h3 (.inr rfl) w (by simp);have hs:=h3 (.inr rfl) s (by simp);have ht:=h3 (.inr rfl) t (by simp);have hu:=h3 (.inr rfl) u (by simp);have hv:=h3 (.inr rfl) v (by simp);obtain⟨m0,m1,m2,m3,m4,m5,m6,m7,rfl,⟨b0,i0⟩,⟨b1,i1⟩,⟨b2,i2⟩,⟨b3,i3⟩,⟨b4,i4⟩,⟨b5,i5⟩,⟨b6,i6⟩,⟨b7,i7⟩⟩:=ix8 hI;have c1:=oa hx.cb hy.cb hz.cb hw.cb;have c2:=uN hx.cb hy.cb hz.cb hw.cb;have c3:=oa hs.cb ht.cb hu.cb hv.cb;have c4:=uN hs.cb ht.cb hu.cb hv.cb;have c5:=Wy (H6 hx hy hz hw) (Gn hx hy hz hw) (H6 hs ht hu hv) (Gn hs ht hu hv);show Qb _ _ [.agg [.int .i64 7,.sl 1 [.int .i64 (m0:Nat),.int .i64 (m1:Nat),.int .i64 (m2:Nat),.int .i64 (m3:Nat),.int .i64 (m4:Nat),.int .i64 (m5:Nat),.int .i64 (m6:Nat),.int .i64 (m7:Nat)],.bool n,PV.nat a,PV.nat d],_] _;refine G' Qf func42 rfl (KF uT) Nz fun C hP hN=>?_;simp only[IC];refine eY ?_;refine Sz0 ?_;refine Kn Ko Im (by rw[hP];exact Qf) (by rw[hP,hN];exact afL) afM (by decide) (cm (Iq cs [.int .i64 (m0:Nat),.int .i64 (m1:Nat),.int .i64 (m2:Nat),.int .i64 (m3:Nat),.int .i64 (m4:Nat),.int .i64 (m5:Nat),.int .i64 (m6:Nat),.int .i64 (m7:Nat)]) (Kh cs [.int .i64 (m0:Nat),.int .i64 (m1:Nat),.int .i64 (m2:Nat),.int .i64 (m3:Nat),.int .i64 (m4:Nat),.int .i64 (m5:Nat),.int .i64 (m6:Nat),.int .i64 (m7:Nat)] m0 m1 m2 m3 m4 m5 m6 m7 x y z w s t u v _ _ _ _ _) (Ki x y z w s t u v _ _ _ _ _)) ?_ (ahI (args:=[.int .i64 (m0:Nat),.int .i64 (m1:Nat),.int .i64 (m2:Nat),.int .i64 (m3:Nat),.int .i64 (m4:Nat),.int .i64 (m5:Nat),.int .i64 (m6:Nat),.int .i64 (m7:Nat)]) rfl (nj i0) rfl (nj i1) rfl (nj i2) rfl (nj i3) rfl (nj i4) rfl (nj i5) rfl (nj i6) rfl (nj i7) hP c1 c2 c3 c4 c5) (fun l fr hp bC I=>?_)
  ·refine⟨fun e he=>?_,fun e he h=>(by cases h),fun e he h=>(by cases h),fun e he h=>(by cases h)⟩;simp only[Iq,KaH,Kbh,or_false]at he;rcases he with rfl|rfl
   ·exact Tz0
   ·simp+decide (disch:=try exact D0) only[go_sem]<;>rfl
  refine OX (aoE (s:=4) (O:=325) (n:=1) (I.at (s:=4) rfl (bC 102 (by decide))) (I.s _ (Kay.2 rfl) (bC 101 (by decide)))) (Mq ?_);refine Sz0 ?_;refine Mg (Wk.refl _ _) ?_;refine Sz0 ?_;exact ig a9 (by simp[jS,rO])
 ·obtain⟨x,y,rfl⟩:=e2 L (by simp[cr]at hl;omega);have hx:=hc x (by simp);have hy:=hc y (by simp);obtain⟨m0,m1,rfl,⟨b0,i0⟩,⟨b1,i1⟩⟩:=ix2 hI;have c1:=jR hx.x hy.x Oz Oz Oz;have c2:=jR hx.y hy.y Oz Oz Oz;show Qb _ _ [.agg [.int .i64 8,.sl 1 [.int .i64 (m0:Nat),.int .i64 (m1:Nat)],.bool n,PV.nat a,PV.nat d],_] _;refine aw Qf func42 uT fun C hP=>?_;refine Sz2 i0 i1 ?_
  repeat' first
   |refine eW ?_ ?_
   |refine Qo hP c1 ?_
   |refine Qo hP c2 ?_
   |simp+decide (disch:=try exact D2 i0 i1) only[go_sem,i0,i1]
  all_goals exact ig a9 (by simp[jS,rO])
 ·obtain⟨x,y,z,w,rfl⟩:=e4 L (by simp[cr]at hl;omega);have hx:=hc x (by simp);have hy:=hc y (by simp);have hz:=hc z (by simp);have hw:=hc w (by simp);obtain⟨m0,m1,m2,m3,rfl,⟨b0,i0⟩,⟨b1,i1⟩,⟨b2,i2⟩,⟨b3,i3⟩⟩:=BU hI;obtain⟨sD,lH⟩:=hr rfl;have c1:=lh hx hy;have c2:=lh hz hw;have c3:=aie (a:=rv n a d) (Di hz hw hz hw) Oz Oz Oz Oz;rw[<-sD]at c3;have c4:=jR ((Di hx hy hx hy).mono Oz Oz Oz) ((Di hz hw hz hw).scale (a:=rv n a d) (L:=2^20) Oz) (T:=524288) (K:=2^29+4098+2^20) (E:=200) Oz Oz Oz;show Qb _ _ [.agg [.int .i64 9,.sl 1 [.int .i64 (m0:Nat),.int .i64 (m1:Nat),.int .i64 (m2:Nat),.int .i64 (m3:Nat)],.bool n,PV.nat a,PV.nat d],_] _;refine aw Qf func42 uT fun C hP=>?_;refine Sz4 i0 i1 i2 i3 ?_
  repeat' first
   |refine eW ?_ ?_
   |refine Qo hP c1 ?_
   |refine Qo hP c2 ?_
   |refine Qo hP c3 ?_
   |refine Qo hP c4 ?_
   |simp+decide (disch:=try exact D4 i0 i1 i2 i3) only[go_sem,i0,i1,i2,i3]
  all_goals exact ig a9 (by simp[jS,rO])
theorem afO{cs:List Cd}{vs:List Vr}{f:Qq}(h:SD cs f):AC 20 [PV.bI f,PV.frame cs vs] (· = .aK [PV.jn (jy cs f).1,.int .i64 (jy cs f).2]):=by
 have hR:=Ly (n:=cs.length) h.b;have tT:=h.l;have fV:=h.b.l;refine aw Qf func20 anH fun C hP=>?_;refine aq hP hR ?_;by_cases h0:cL f cs.length=0
 ·have hA:f.args.length<=8/\(f.args.length:Int)=cr f.k/\cr f.k≠0/\∀a∈f.args,0<=a/\a<cs.length:=by
   obtain⟨k0,k1,k2,k3⟩:=ym h0;refine⟨?_,k1,k0,k2⟩;unfold cr at k1
   repeat' split at k1
   all_goals omega
  obtain⟨ha8,fV,hak,XK⟩:=hA;have Ek:(de cs f.args).length=f.args.length:=by simp[de]
  have ej:=afN (k:=f.k) (args:=f.args) (n:=f.n) (a:=f.a) (d:=f.d) (L:=de cs f.args) hak Oz (Kj XK) (fun c hc=>h.c c (PU XK c hc)) (h.t h0) (h.r h0);have d0:decide (¬cL f cs.length=0)=false:=by simp[h0]
  refine pP d0 hP ej ?_;have hG:jy cs f=if(jS f.k (fun i=>(de cs f.args).getD i ([],[])) (rv f.n f.a f.d)).any (fun p=>decide (4000<p.length))then([],4)
   else(jS f.k (fun i=>(de cs f.args).getD i ([],[])) (rv f.n f.a f.d),0):=by unfold jy;rw[if_pos h0]
  have By:(jS f.k (fun i=>(de cs f.args).getD i ([],[])) (rv f.n f.a f.d)).length<=2:=by
   unfold jS;repeat' split
   all_goals simp
  generalize jS f.k (fun i=>(de cs f.args).getD i ([],[])) (rv f.n f.a f.d)=L at *
  refine Sz0 ?_;refine Qm kv [(4,5),(8,8),(21,32)] [] (fun q J hp=>∃i,q=L.length-i/\i<=L.length/\(∀n (h:n<L.length),n<i->¬4000<L[n].length)/\J 8= .int .i64 (i:Nat)) L.length ?_ ?_
  ·refine⟨0,rfl,by omega,by omega,?_⟩;refine Sz0 ?_;rfl
  rintro _ J2 qg ⟨i,rfl,hi,hle,j8⟩;refine Sz1 j8 ?_;refine Qa (fun hg=>?_) (fun hg=>?_)
  ·have aE:i<L.length:=by omega
   have bD:¬4000<L[i].length->∀n (h:n<L.length),n<i+1->¬4000<L[n].length:=fun h n hn mS=>by
    by_cases e:n=i
    ·subst e;exact h
    ·exact hle n hn Oz
   have at1:4000<L[i].length->L.any (fun p=>decide (4000<p.length))=true:=fun h=>KaU.2 ⟨_,Kag aE,decide_eq_true h⟩;generalize hx:L[i]=x at *
   refine Sz2 j8 hx ?_;refine Qa (fun h4=>?_) (fun h4=>?_)
   ·refine Sz0 ?_;exact bO (by rw[hG,if_pos (at1 Oz)]) rfl rfl (p':=PV.jn []) trivial (Qe _)
   refine Sz1 j8 ?_;refine Qh (L.length-(i+1)) Oz ⟨i+1,rfl,by omega,bD Oz,?_⟩;exact Tz0
  obtain rfl:i=L.length:=by omega
  have nR:L.any (fun p=>decide (4000<p.length))=false:=by rw[KcI];intro p hp;obtain⟨n,hn,rfl⟩:=KaG hp;simpa using hle n hn hn
  refine Sz0 ?_;exact bO (by rw[hG,nR,if_neg (by simp)]) rfl rfl (Qe _) (Qe _)
 ·have d0:decide (¬cL f cs.length=0)=true:=decide_eq_true h0;have hG:jy cs f=([],cL f cs.length):=by unfold jy;rw[if_neg h0]
  refine Sz1 d0 ?_;exact bO (by rw[hG]) rfl rfl (p':=PV.jn []) trivial (Qe _)
theorem Vs{p:List Tm}{T K E:Nat}(hp:PQ T K E p)(hT:T<=2^30)(hK:K<=2^32)(hE:E<=2^38):AC 136 [PV.ay p] (· =PV.ay (Bc p)):=by have h:=th hp hp hT hK hE;refine aw Qf func136 alG fun C hP=>?_;refine aq hP h ?_;refine Sz0 ?_;exact Qc rfl rfl
def iU(vs:List Vr)(i:Int):Nat:=(vs.findIdx? fun v=>decide (v.2.1=i)).getD 0
theorem Q8u{vs:List Vr}{i:Int}{n:Nat}(h:n<vs.length)(h1:vs[n].2.1=i)(h2:∀m (h:m<vs.length),m<n->vs[m].2.1≠i):iU vs i=n:=by unfold iU;rw[List.findIdx?_eq_some_iff_getElem.2 ⟨h,decide_eq_true h1,fun j hj=>by simpa using h2 j Oz hj⟩];rfl
theorem Q4x{vs:List Vr}{i:Int}(h:∀m (h:m<vs.length),vs[m].2.1≠i):iU vs i=0:=by unfold iU;rw[List.findIdx?_eq_none_iff.2 fun x hx=>by obtain⟨m,hm,rfl⟩:=KaG hx;simpa using h m hm];rfl
theorem afP{cs:List Cd}{vs:List Vr}{i:Int}(hl:vs.length<=64):AC 77 [PV.frame cs vs,.int .i64 i] (· = .int .i64 (iU vs i:Nat)):=by
 refine aw Qf func77 aoj fun C hP=>?_;refine Sz0 ?_;refine Qm okB [(4,21)] [] (fun q J hp=>∃n,q=vs.length-n/\n<=vs.length/\(∀m (h:m<vs.length),m<n->vs[m].2.1≠i)/\J 5= .int .i64 (n:Nat)/\hp 2=some ⟨2,33,[PV.frame cs vs],false⟩) vs.length ?_ ?_
 ·refine⟨0,rfl,by omega,by omega,?_⟩;refine Sz0 ?_;rfl
 rintro _ J h ⟨n,rfl,hn,nR,j5,b2⟩;refine Sz2 j5 b2 ?_;refine Qa (fun hc=>?_) (fun hc=>?_)
 ·have vH:n<vs.length:=by omega
  have auJ:=fun e=>Q8u (i:=i) vH e nR;have bD:vs[n].2.1≠i->∀m (h:m<vs.length),m<n+1->vs[m].2.1≠i:=fun h m hm ZM=>by
   by_cases e:m=n
   ·subst e;exact h
   ·exact nR m hm Oz
  generalize hx:vs[n]=x at *
  refine Sz3 j5 b2 hx ?_;refine Qa (fun he=>?_) (fun he=>?_)
  ·refine Sz1 j5 ?_;exact Qc (by rw[auJ he]) rfl
  refine Sz1 j5 ?_;refine Qh (vs.length-(n+1)) Oz ⟨n+1,rfl,by omega,bD he,?_⟩;exact Tz1 b2
 obtain rfl:n=vs.length:=by omega
 refine Sz0 ?_;exact Qc (by rw[Q4x fun m hm=>nR m hm hm];rfl) rfl
theorem afQ{vs:List Vr}{i:Int}:iU vs i<vs.length∨iU vs i=0:=by
 unfold iU;cases h:vs.findIdx? fun v=>decide (v.2.1=i)with
 |none=>exact .inr rfl
 |some n=>exact .inl (List.findIdx?_eq_some_iff_getElem.1 h).1
theorem Wz{cs:List Cd}{vs:List Vr}{i:Int}(hl:vs.length<=64):AC 41 [PV.frame cs vs,.int .i64 i] (· = .aK [PV.ay (yn (cq (iU vs i:Nat))),PV.ay (cq (iU vs i:Nat))]):=by
 have ao:=afQ (vs:=vs) (i:=i);have c1:=afP (cs:=cs) (i:=i) hl;have c2:=Uw (v:=iU vs i) Oz;have c3:AC 79 [.int .i64 1] (· =PV.rat ((1:Int):Rat)):=Ab Oz Oz;have c4:AC 51 [PV.rat ((1:Int):Rat)] (· =PV.ay (dz 1)):=Q8o (a:=((1:Int):Rat)) (k:=4) (by decide+kernel) Oz;have q:=QZ.var (v:=iU vs i);have c5:=uR q.q q.q Oz Oz Oz;have q2:=q.mul q;have c6:=th (T:=1) (K:=8) (E:=2) (QZ.one.q.mono Oz Oz Oz) (q2.q.mono Oz Oz Oz) Oz Oz Oz;unfold yn;generalize cq ((iU vs i:Nat):Int)=t at *
 generalize cB t t=t2 at *
 generalize((1:Int):Rat)=o at *
 refine aw Qf func41 aoi fun C hP=>?_;refine aq hP c1 ?_;refine aq hP c2 ?_;refine aq hP c3 ?_;refine aq hP c4 ?_;refine aq hP c5 ?_;refine aq hP c6 ?_;refine Sz0 ?_;exact bO rfl rfl rfl (Qe _) (Qe _)
theorem kD{p q:List Tm}{T K E a b S L F c d:Nat}(hp:QZ T K E a b p)(hq:QZ S L F c d q)(h1:T<=2^30)(h2:S<=2^30)(h3:K+2<=2^31)(h4:L+2<=2^31)(h5:E<=2^38)(h6:F<=2^38):AC 50 [PV.ay p,PV.ay q] (· =PV.ay (bF p q)):=
 jR (T:=max T S) (K:=max K L) (E:=max E F) (hp.q.mono Oz Oz Oz) (hq.q.mono Oz Oz Oz) Oz Oz Oz
theorem SE{p q:List Tm}{T K E a b S L F c d:Nat}(hp:QZ T K E a b p)(hq:QZ S L F c d q)(h1:T<=2^30)(h2:S<=2^30)(h3:K<=2^32)(h4:L<=2^32)(h5:E<=2^38)(h6:F<=2^38):AC 78 [PV.ay p,PV.ay q] (· =PV.ay (Qu p q)):=
 th (T:=max T S) (K:=max K L) (E:=max E F) (hp.q.mono Oz Oz Oz) (hq.q.mono Oz Oz Oz) Oz Oz Oz
theorem wD{p q:List Tm}{T K E a b S L F c d:Nat}(hp:QZ T K E a b p)(hq:QZ S L F c d q)(h1:T<=1024)(h2:S<=1024)(h3:K<=1000000)(h4:L<=1000000)(h5:E<=2^20)(h6:F<=2^20):AC 75 [PV.ay p,PV.ay q] (· =PV.ay (cB p q)):=
 uR (T:=1024) (K:=1000000) (E:=2^20) (hp.q.mono Oz Oz Oz) (hq.q.mono Oz Oz Oz) Oz Oz Oz
theorem Q27{cs:List Cd}{vs:List Vr}{i:Int}{o a p:Cd}(hl:vs.length<=64)(ho:CW o)(ha:CW a)(hp:CW p):AC 107 [PV.frame cs vs,.int .i64 i,PV.aD o,PV.aD a,PV.aD p] (· =PV.jn (Ga (cq (iU vs i:Nat)) o a p)):=by
 have c1:=Wz (cs:=cs) (i:=i) hl;have ht:=QZ.var (v:=iU vs i);unfold Ga Gb;generalize cq ((iU vs i:Nat):Int)=t at *
 have u1:=Q1.of ho.x ha.x;have u2:=Q1.of ho.y ha.y;have u3:=ht.mul u2;have u4:=u1.add u3;have hs:=Ts ht ho ha;have bo:=H5 ht;have v1:=Q1.of hp.x ha.x;have v2:=Q1.of hp.y ha.y;have w1:=bo.mul v1;have w2:=bo.mul v2;have w3:=ht.mul hs;have d1:=kD ho.x ha.x Oz Oz Oz Oz Oz Oz;have d2:=kD ho.y ha.y Oz Oz Oz Oz Oz Oz;have d3:=wD ht u2 Oz Oz Oz Oz Oz Oz;have d4:=SE u1 u3 Oz Oz Oz Oz Oz Oz;have d5:=Vs u4.q Oz Oz Oz;have d6:=kD hp.x ha.x Oz Oz Oz Oz Oz Oz;have d7:=wD bo v1 Oz Oz Oz Oz Oz Oz;have d8:=kD w1 hs Oz Oz Oz Oz Oz Oz;have d9:=kD hp.y ha.y Oz Oz Oz Oz Oz Oz;have d10:=wD bo v2 Oz Oz Oz Oz Oz Oz;have d11:=wD ht hs Oz Oz Oz Oz Oz Oz;have d12:=kD w2 w3 Oz Oz Oz Oz Oz Oz;unfold Gb at d8 d11 d12;refine aw Qf func107 alH fun C hP=>?_;refine aq hP c1 ?_;refine Sz0 ?_
 repeat' first
  |refine eW ?_ ?_
  |refine Qo hP d1 ?_
  |refine Qo hP d2 ?_
  |refine Qo hP d3 ?_
  |refine Qo hP d4 ?_
  |refine Qo hP d5 ?_
  |refine Qo hP d6 ?_
  |refine Qo hP d7 ?_
  |refine Qo hP d8 ?_
  |refine Qo hP d9 ?_
  |refine Qo hP d10 ?_
  |refine Qo hP d11 ?_
  |refine Qo hP d12 ?_
  |simp+decide (disch:=try exact D0) only[go_sem]
 all_goals exact ig a9 rfl
theorem afR{p q o x:Cd}(hp:CW p)(hq:CW q)(ho:CW o)(hx:CW x):AC 108 [PV.aD p,PV.aD q,PV.aD o,PV.aD x] (· =PV.jn (Ch p q o x)):=by
 have n:=eP hp hq hp hq;have d:=eP hp ho hp hq;have s:QZ 1024 30980 16 15426 285 (Bc (eD p o p q)):=d.add d;have v1:=Q1.of hx.x hp.x;have v2:=Q1.of hx.y hp.y;have w1:=Q1.of hq.x hp.x;have w2:=Q1.of hq.y hp.y;have a1:=n.mul v1;have a2:=n.mul v2;have b1:=s.mul w1;have b2:=s.mul w2;have c1:=lh hp.cb hq.cb;have c2:=uN hp.cb ho.cb hp.cb hq.cb;have c3:=Vs d.q Oz Oz Oz;have c4:=kD hx.x hp.x Oz Oz Oz Oz Oz Oz;have c5:=kD hx.y hp.y Oz Oz Oz Oz Oz Oz;have c6:=kD hq.x hp.x Oz Oz Oz Oz Oz Oz;have c7:=kD hq.y hp.y Oz Oz Oz Oz Oz Oz;have c8:=wD n v1 Oz Oz Oz Oz Oz Oz;have c9:=wD n v2 Oz Oz Oz Oz Oz Oz;have Bm:=wD s w1 Oz Oz Oz Oz Oz Oz;have wY:=wD s w2 Oz Oz Oz Oz Oz Oz;have wZ:=kD a1 b1 Oz Oz Oz Oz Oz Oz;have c13:=kD a2 b2 Oz Oz Oz Oz Oz Oz;unfold Ch;refine aw Qf func108 alI fun C hP=>?_;refine Sz0 ?_
 repeat' first
  |refine eW ?_ ?_
  |refine Qo hP c1 ?_
  |refine Qo hP c2 ?_
  |refine Qo hP c3 ?_
  |refine Qo hP c4 ?_
  |refine Qo hP c5 ?_
  |refine Qo hP c6 ?_
  |refine Qo hP c7 ?_
  |refine Qo hP c8 ?_
  |refine Qo hP c9 ?_
  |refine Qo hP Bm ?_
  |refine Qo hP wY ?_
  |refine Qo hP wZ ?_
  |refine Qo hP c13 ?_
  |simp+decide (disch:=try exact D0) only[go_sem]
 all_goals exact ig a9 rfl
theorem aif{k:Int}{t:List Tm}{a b c d x:Cd}(h:k≠6/\k≠7/\k≠8/\k≠9/\k≠10/\k≠11/\k≠12/\k≠13/\k≠14):r9 k t a b c d x=[]:=by obtain⟨h1,h2,h3,h4,h5,h6,h7,h8,h9⟩:=h;simp[r9,h1,h2,h3,h4,h5,h6,h7,h8,h9]
theorem Qzz{S:List Q3}{G:List Qq}{cs:List Cd}{vs:List Vr}{i:Nat}{a b c d x:Cd}(hS:S.length<=8)(hi:i<S.length)(hl:vs.length<=64)(ha:CW a)(hb:CW b)(hc:CW c)(hd:CW d)(hx:CW x):
  AC 67 [PV.df S G,PV.frame cs vs,.int .i64 (i:Nat),PV.aD a,PV.aD b,PV.aD c,PV.aD d,PV.aD x] (· =PV.jn (r9 S[i].k (cq (iU vs (i:Nat):Nat)) a b c d x)):=by
 obtain⟨s,hs⟩:∃s,S[i]=s:=⟨_,rfl⟩
 rw[hs];obtain⟨k,nm,args,n0,an,ad⟩:=s;show Qb _ _ _ (· =PV.jn (r9 k _ a b c d x));by_cases hk:k=6∨k=7∨k=8∨k=9∨k=10∨k=11∨k=12∨k=13∨k=14
 ·rcases hk with rfl|rfl|rfl|rfl|rfl|rfl|rfl|rfl|rfl
  ·have c1:=Q27 (cs:=cs) (vs:=vs) (i:=(i:Nat)) hl ha hb hx;refine aw Qf func67 tf fun C hP=>?_;refine Sz1 hs ?_
   repeat' first
    |refine eW ?_ ?_
    |refine Qo hP c1 ?_
    |simp+decide (disch:=try exact D1 hs) only[go_sem,hs]
   all_goals exact Qc rfl rfl
  ·have c1:=oa hb.cb hc.cb hb.cb hx.cb;have c2:=uN hb.cb hc.cb ha.cb hx.cb;refine aw Qf func67 tf fun C hP=>?_;refine Sz1 hs ?_
   repeat' first
    |refine eW ?_ ?_
    |refine Qo hP c1 ?_
    |refine Qo hP c2 ?_
    |simp+decide (disch:=try exact D1 hs) only[go_sem,hs]
   all_goals exact ig a9 rfl
  ·have c1:=uN hb.cb hc.cb ha.cb hx.cb;have c2:=oa hb.cb hc.cb hb.cb ha.cb;have c3:=oa hb.cb hc.cb hb.cb hx.cb;have c4:=SE (te hb hc hb ha) (te hb hc hb hx) Oz Oz Oz Oz Oz Oz;refine aw Qf func67 tf fun C hP=>?_;refine Sz1 hs ?_
   repeat' first
    |refine eW ?_ ?_
    |refine Qo hP c1 ?_
    |refine Qo hP c2 ?_
    |refine Qo hP c3 ?_
    |refine Qo hP c4 ?_
    |simp+decide (disch:=try exact D1 hs) only[go_sem,hs]
   all_goals exact ig a9 rfl
  ·have c1:=oa ha.cb hb.cb ha.cb hx.cb;have c2:=oa hc.cb hd.cb hc.cb hx.cb;refine aw Qf func67 tf fun C hP=>?_;refine Sz1 hs ?_
   repeat' first
    |refine eW ?_ ?_
    |refine Qo hP c1 ?_
    |refine Qo hP c2 ?_
    |simp+decide (disch:=try exact D1 hs) only[go_sem,hs]
   all_goals exact ig a9 rfl
  ·have c1:=afR ha hb hc hx;refine aw Qf func67 tf fun C hP=>?_;refine Sz1 hs ?_
   repeat' first
    |refine eW ?_ ?_
    |refine Qo hP c1 ?_
    |simp+decide (disch:=try exact D1 hs) only[go_sem,hs]
   all_goals exact Qc rfl rfl
  ·have c1:=lh ha.cb hx.cb;have c2:=lh hb.cb hx.cb;have c3:=kD (eP ha hx ha hx) (eP hb hx hb hx) Oz Oz Oz Oz Oz Oz;have c4:=lh hc.cb hx.cb;have c5:=kD (eP ha hx ha hx) (eP hc hx hc hx) Oz Oz Oz Oz Oz Oz;refine aw Qf func67 tf fun C hP=>?_;refine Sz1 hs ?_
   repeat' first
    |refine eW ?_ ?_
    |refine Qo hP c1 ?_
    |refine Qo hP c2 ?_
    |refine Qo hP c3 ?_
    |refine Qo hP c4 ?_
    |refine Qo hP c5 ?_
    |simp+decide (disch:=try exact D1 hs) only[go_sem,hs]
   all_goals exact ig a9 rfl
  ·have e1:=oa ha.cb hb.cb ha.cb hx.cb;have c1:=lh hc.cb hx.cb;have c2:=lh hc.cb hd.cb;have c3:=kD (eP hc hx hc hx) (eP hc hd hc hd) Oz Oz Oz Oz Oz Oz;refine aw Qf func67 tf fun C hP=>?_;refine Sz1 hs ?_
   repeat' first
    |refine eW ?_ ?_
    |refine Qo hP e1 ?_
    |refine Qo hP c1 ?_
    |refine Qo hP c2 ?_
    |refine Qo hP c3 ?_
    |simp+decide (disch:=try exact D1 hs) only[go_sem,hs]
   all_goals exact ig a9 rfl
  ·have c1:=lh ha.cb hx.cb;have c2:=lh ha.cb hb.cb;have c3:=kD (eP ha hx ha hx) (eP ha hb ha hb) Oz Oz Oz Oz Oz Oz;have c4:=lh hc.cb hx.cb;have c5:=lh hc.cb hd.cb;have c6:=kD (eP hc hx hc hx) (eP hc hd hc hd) Oz Oz Oz Oz Oz Oz;refine aw Qf func67 tf fun C hP=>?_;refine Sz1 hs ?_
   repeat' first
    |refine eW ?_ ?_
    |refine Qo hP c1 ?_
    |refine Qo hP c2 ?_
    |refine Qo hP c3 ?_
    |refine Qo hP c4 ?_
    |refine Qo hP c5 ?_
    |refine Qo hP c6 ?_
    |simp+decide (disch:=try exact D1 hs) only[go_sem,hs]
   all_goals exact ig a9 rfl
  ·have c1:=lh ha.cb hx.cb;have c2:=lh ha.cb hb.cb;have c3:=kD (eP ha hx ha hx) (eP ha hb ha hb) Oz Oz Oz Oz Oz Oz;have c4:=lh hb.cb hx.cb;have c5:=kD (eP hb hx hb hx) (eP ha hb ha hb) Oz Oz Oz Oz Oz Oz;refine aw Qf func67 tf fun C hP=>?_;refine Sz1 hs ?_
   repeat' first
    |refine eW ?_ ?_
    |refine Qo hP c1 ?_
    |refine Qo hP c2 ?_
    |refine Qo hP c3 ?_
    |refine Qo hP c4 ?_
    |refine Qo hP c5 ?_
    |simp+decide (disch:=try exact D1 hs) only[go_sem,hs]
   all_goals exact ig a9 rfl
 ·have hn:k≠6/\k≠7/\k≠8/\k≠9/\k≠10/\k≠11/\k≠12/\k≠13/\k≠14:=by omega
  have dd:decide (k=6)=false/\decide (k=7)=false/\decide (k=8)=false/\decide (k=9)=false/\decide (k=10)=false/\decide (k=11)=false/\decide (k=12)=false/\decide (k=13)=false/\decide (k=14)=false:=by obtain⟨h1,h2,h3,h4,h5,h6,h7,h8,h9⟩:=hn;exact⟨decide_eq_false h1,decide_eq_false h2,decide_eq_false h3,decide_eq_false h4,decide_eq_false h5,decide_eq_false h6,decide_eq_false h7,decide_eq_false h8,decide_eq_false h9⟩
  rw[aif hn];refine aw Qf func67 tf fun C hP=>?_;refine Sz2 hs dd ?_;exact⟨rfl,PV.jn [],trivial,rfl⟩
def cS(cs:List Cd)(l:List Int)(k:Nat):Cd:=(de cs l).getD k ([],[])
def tn(S:List Q3)(cs:List Cd)(vs:List Vr)(i:Nat):List (List Tm):=
 r9 (S.getD i cM).k (cq (iU vs (i:Nat):Nat)) (cS cs (S.getD i cM).args 0) (cS cs (S.getD i cM).args 1) (cS cs (S.getD i cM).args 2) (cS cs (S.getD i cM).args 3) (cs.getD i ([],[]))
theorem Ir{cs:List Cd}{l:List Int}(h:∀c∈cs,CW c)(hr:∀a∈l,0<=a/\a<cs.length)(k:Nat):CW (cS cs l k):=by
 unfold cS;rw[Kac];cases e:(de cs l)[k]? with
 |none=>exact CW.nil
 |some c=>exact h c (PU hr c (Kai e))
theorem alU{cs:List Cd}{l:List Int}{k:Nat}(h:l.length<=k):cS cs l k=([],[]):=by unfold cS;rw[Kac,Kb8 (by simpa[de]using h)];rfl
theorem aoF{cs:List Cd}{l:List Int}{k m:Nat}(h:k<l.length)(hm:l[k]=(m:Int))(hc:m<cs.length):cS cs l k=cs[m]:=by unfold cS de;rw[Kac,Kao,Kad h,hm];show cs.getD _ _=_;rw[Kbs,Kac,Kad hc];rfl
def GD(p:Nat->Cd)(j i:Nat):PV:=if i<j then PV.ay (p i).1 else .ab
def GF(p:Nat->Cd)(j i:Nat):PV:=if i<j then PV.ay (p i).2 else .ab
def rP(p:Nat->Cd)(j:Nat):PV:=.agg [GD p j 0,GF p j 0,GD p j 1,GF p j 1,GD p j 2,GF p j 2,GD p j 3,GF p j 3]
theorem tj{c:Cd}(h:c=([],[])):PV.le (.agg [.ab,.ab]) (PV.aD c):=by subst h;exact⟨trivial,trivial,trivial⟩
theorem aih{S:List Q3}{G:List Qq}{cs:List Cd}{vs:List Vr}{i:Nat}(hS:S.length<=8)(hi:i<S.length)(hl:vs.length<=64)(cF:cs.length=S.length)(hC:∀c∈cs,CW c)(hr:∀a∈S[i].args,0<=a/\a<(i:Nat))(fV:S[i].args.length<=4):
  AC 35 [PV.df S G,PV.frame cs vs,.int .i64 (i:Nat)] (· = .aK [PV.jn (tn S cs vs i),.int .i64 0]):=by
 have fL:∀a∈S[i].args,0<=a/\a<cs.length:=fun a ha=>by have:=hr a ha;omega
 have mN:=Ir hC fL;have kk:S.getD i cM=S[i]:=by rw[Kac,Kad hi];rfl
 have Zp:i<cs.length:=by omega
 have EB:cs.getD i ([],[])=cs[i]:=by rw[Kac,Kad Zp];rfl
 have heq:=Qzz (G:=G) (cs:=cs) (vs:=vs) hS hi hl (mN 0) (mN 1) (mN 2) (mN 3) (hC _ (Kag Zp));have fq:tn S cs vs i=r9 S[i].k (cq (iU vs (i:Nat):Nat)) (cS cs S[i].args 0) (cS cs S[i].args 1) (cS cs S[i].args 2) (cS cs S[i].args 3) cs[i]:=by unfold tn;rw[kk,EB]
 rw[fq];generalize hE:r9 S[i].k (cq (iU vs (i:Nat):Nat)) (cS cs S[i].args 0) (cS cs S[i].args 1) (cS cs S[i].args 2) (cS cs S[i].args 3) cs[i]=E at *
 clear fq kk EB hE;have ct:∀k (h:k<S[i].args.length),∃m:Nat,S[i].args[k]=(m:Int)/\∃hm:m<cs.length,cS cs S[i].args k=cs[m]:=fun k h=>by
  have:=fL _ (Kag h);obtain⟨m,hm⟩:∃m:Nat,S[i].args[k]=(m:Int):=⟨S[i].args[k].toNat,by omega⟩
  exact⟨m,hm,by omega,aoF h hm Oz⟩
 generalize aA:cS cs S[i].args=p at *
 have nL:∀k,S[i].args.length<=k->p k=([],[]):=fun k h=>by rw[<-aA];exact alU h
 clear mN hr fL aA;obtain⟨s,hs⟩:∃s,S[i]=s:=⟨_,rfl⟩
 rw[hs]at fV ct nL;obtain⟨k,nm,args,n0,an,ad⟩:=s;simp only at fV ct nL;refine aw Qf func35 aok fun C hP=>?_;refine Sz0 ?_;refine Qp (fun h=>absurd h Oz) (fun _=>?_);refine Sz0 ?_;refine Qp (fun h=>absurd h Oz) (fun _=>?_);refine Sz0 ?_;refine Qa (fun h=>absurd h Oz) (fun _=>?_);refine Sz0 ?_;refine Qm okB [(9,9),(26,55)] [] (fun q J hp=>∃j,q=args.length-j/\j<=args.length/\J 8= .mp 8 0 0/\J 9= .int .i64 (j:Nat)/\hp 3=some ⟨2,25,[PV.df S G],false⟩/\hp 4=some ⟨2,33,[PV.frame cs vs],false⟩/\hp 8=some ⟨8,128,[rP p j],false⟩) args.length ?_ ?_
 ·refine⟨0,rfl,by omega,?_⟩;refine Sz0 ?_;exact⟨rfl,rfl⟩
 rintro _ J h ⟨j,rfl,hj,j8,j9,b3,b4,b8⟩;refine Sz3 j9 b3 hs ?_;refine ic (fun hg=>?_) (fun hg=>?_)
 ·have aT:j<args.length:=by omega
  refine Sz1 j9 ?_;refine Qa (fun _=>?_) (fun jh=>absurd jh Oz);obtain⟨m,hm,xA,hpm⟩:=ct j aT;generalize hy:cs[m]=y at *
  have h4:j=0∨j=1∨j=2∨j=3:=by omega
  have a0:rP p 0= .agg [.ab,.ab,.ab,.ab,.ab,.ab,.ab,.ab]:=rfl;have a1:rP p 1= .agg [PV.ay (p 0).1,PV.ay (p 0).2,.ab,.ab,.ab,.ab,.ab,.ab]:=rfl;have a2:rP p 2= .agg [PV.ay (p 0).1,PV.ay (p 0).2,PV.ay (p 1).1,PV.ay (p 1).2,.ab,.ab,.ab,.ab]:=rfl;have a3:rP p 3= .agg [PV.ay (p 0).1,PV.ay (p 0).2,PV.ay (p 1).1,PV.ay (p 1).2,PV.ay (p 2).1,PV.ay (p 2).2,.ab,.ab]:=rfl;have a4:rP p 4= .agg [PV.ay (p 0).1,PV.ay (p 0).2,PV.ay (p 1).1,PV.ay (p 1).2,PV.ay (p 2).1,PV.ay (p 2).2,PV.ay (p 3).1,PV.ay (p 3).2]:=rfl;subst hpm;rcases h4 with rfl|rfl|rfl|rfl
  ·rw[a0]at b8;refine Sz8 j9 j8 b3 b4 b8 hs hm hy ?_;rw[wA (i:=0) Oz];simp only[Kb3,KcE,Nat.reduceMul,Ka1,KaP];refine Sz8 j9 j8 b3 b4 b8 hs hm hy ?_;refine Qh (args.length-1) Oz ⟨1,rfl,by omega,?_⟩;exact Tz4 j8 b3 b4 a1
  ·rw[a1]at b8;refine Sz8 j9 j8 b3 b4 b8 hs hm hy ?_;rw[wA (i:=1) Oz];simp only[Kb3,KcE,Nat.reduceMul,Ka1,KaP];refine Sz8 j9 j8 b3 b4 b8 hs hm hy ?_;refine Qh (args.length-2) Oz ⟨2,rfl,by omega,?_⟩;exact Tz4 j8 b3 b4 a2
  ·rw[a2]at b8;refine Sz8 j9 j8 b3 b4 b8 hs hm hy ?_;rw[wA (i:=2) Oz];simp only[Kb3,KcE,Nat.reduceMul,Ka1,KaP];refine Sz8 j9 j8 b3 b4 b8 hs hm hy ?_;refine Qh (args.length-3) Oz ⟨3,rfl,by omega,?_⟩;exact Tz4 j8 b3 b4 a3
  ·rw[a3]at b8;refine Sz8 j9 j8 b3 b4 b8 hs hm hy ?_;rw[wA (i:=3) Oz];simp only[Kb3,KcE,Nat.reduceMul,Ka1,KaP];refine Sz8 j9 j8 b3 b4 b8 hs hm hy ?_;refine Qh (args.length-4) Oz ⟨4,rfl,by omega,?_⟩;exact Tz4 j8 b3 b4 a4
 ·obtain rfl:j=args.length:=by omega
  obtain⟨x,hx⟩:∃x,cs[i]=x:=⟨_,rfl⟩
  rw[hx]at heq;have e0:∀fr hp K d,mD 4 2 (.mp 8 0 0) (.int .i64 0) d fr hp K=K (ae fr d (.mp 8 0 0)) hp:=fun _ _ _ _=>wA (i:=0) Oz;have e1:∀fr hp K d,mD 4 2 (.mp 8 0 0) (.int .i64 1) d fr hp K=K (ae fr d (.mp 8 0 2)) hp:=fun _ _ _ _=>wA (i:=1) Oz;have e2:∀fr hp K d,mD 4 2 (.mp 8 0 0) (.int .i64 2) d fr hp K=K (ae fr d (.mp 8 0 4)) hp:=fun _ _ _ _=>wA (i:=2) Oz;have e3:∀fr hp K d,mD 4 2 (.mp 8 0 0) (.int .i64 3) d fr hp K=K (ae fr d (.mp 8 0 6)) hp:=fun _ _ _ _=>wA (i:=3) Oz;have a0:rP p 0= .agg [.ab,.ab,.ab,.ab,.ab,.ab,.ab,.ab]:=rfl;have a1:rP p 1= .agg [PV.ay (p 0).1,PV.ay (p 0).2,.ab,.ab,.ab,.ab,.ab,.ab]:=rfl;have a2:rP p 2= .agg [PV.ay (p 0).1,PV.ay (p 0).2,PV.ay (p 1).1,PV.ay (p 1).2,.ab,.ab,.ab,.ab]:=rfl;have a3:rP p 3= .agg [PV.ay (p 0).1,PV.ay (p 0).2,PV.ay (p 1).1,PV.ay (p 1).2,PV.ay (p 2).1,PV.ay (p 2).2,.ab,.ab]:=rfl;have a4:rP p 4= .agg [PV.ay (p 0).1,PV.ay (p 0).2,PV.ay (p 1).1,PV.ay (p 1).2,PV.ay (p 2).1,PV.ay (p 2).2,PV.ay (p 3).1,PV.ay (p 3).2]:=rfl;have hL:args.length=0∨args.length=1∨args.length=2∨args.length=3∨args.length=4:=by omega
  clear ct hg hj;generalize hn:args.length=n at *
  rcases hL with rfl|rfl|rfl|rfl|rfl
  ·have hq:=heq.le (args':=[PV.df S G,PV.frame cs vs,.int .i64 (i:Nat),.agg [.ab,.ab],.agg [.ab,.ab],.agg [.ab,.ab],.agg [.ab,.ab],PV.aD x]) ⟨Qe _,Qe _,Qe _,tj (nL 0 Oz),tj (nL 1 Oz),tj (nL 2 Oz),tj (nL 3 Oz),Qe _,trivial⟩;rw[a0]at b8;refine Sz6 j8 b3 b4 b8 hs hn ?_;refine Sz9 j8 b3 b4 b8 e0 e1 e2 e3 hx ?_;refine Qo hP hq ?_;refine Sz0 ?_;exact bO rfl rfl rfl (Qe _) (Qe _)
  ·have hq:=heq.le (args':=[PV.df S G,PV.frame cs vs,.int .i64 (i:Nat),PV.aD (p 0),.agg [.ab,.ab],.agg [.ab,.ab],.agg [.ab,.ab],PV.aD x]) ⟨Qe _,Qe _,Qe _,Qe _,tj (nL 1 Oz),tj (nL 2 Oz),tj (nL 3 Oz),Qe _,trivial⟩;rw[a1]at b8;refine Sz6 j8 b3 b4 b8 hs hn ?_;refine Sz9 j8 b3 b4 b8 e0 e1 e2 e3 hx ?_;refine Qo hP hq ?_;refine Sz0 ?_;exact bO rfl rfl rfl (Qe _) (Qe _)
  ·have hq:=heq.le (args':=[PV.df S G,PV.frame cs vs,.int .i64 (i:Nat),PV.aD (p 0),PV.aD (p 1),.agg [.ab,.ab],.agg [.ab,.ab],PV.aD x]) ⟨Qe _,Qe _,Qe _,Qe _,Qe _,tj (nL 2 Oz),tj (nL 3 Oz),Qe _,trivial⟩;rw[a2]at b8;refine Sz6 j8 b3 b4 b8 hs hn ?_;refine Sz9 j8 b3 b4 b8 e0 e1 e2 e3 hx ?_;refine Qo hP hq ?_;refine Sz0 ?_;exact bO rfl rfl rfl (Qe _) (Qe _)
  ·have hq:=heq.le (args':=[PV.df S G,PV.frame cs vs,.int .i64 (i:Nat),PV.aD (p 0),PV.aD (p 1),PV.aD (p 2),.agg [.ab,.ab],PV.aD x]) ⟨Qe _,Qe _,Qe _,Qe _,Qe _,Qe _,tj (nL 3 Oz),Qe _,trivial⟩;rw[a3]at b8;refine Sz6 j8 b3 b4 b8 hs hn ?_;refine Sz9 j8 b3 b4 b8 e0 e1 e2 e3 hx ?_;refine Qo hP hq ?_;refine Sz0 ?_;exact bO rfl rfl rfl (Qe _) (Qe _)
  ·have hq:=heq.le (args':=[PV.df S G,PV.frame cs vs,.int .i64 (i:Nat),PV.aD (p 0),PV.aD (p 1),PV.aD (p 2),PV.aD (p 3),PV.aD x]) ⟨Qe _,Qe _,Qe _,Qe _,Qe _,Qe _,Qe _,Qe _,trivial⟩;rw[a4]at b8;refine Sz6 j8 b3 b4 b8 hs hn ?_;refine Sz9 j8 b3 b4 b8 e0 e1 e2 e3 hx ?_;refine Qo hP hq ?_;refine Sz0 ?_;exact bO rfl rfl rfl (Qe _) (Qe _)
abbrev eK(S:List Q3):List Cd:=(bb S S.length).1
abbrev dZ(S:List Q3):List Vr:=(bb S S.length).2.1
def iE(S:List Q3):Nat->List (List Tm)
 |0=>[]
 |n+1=>iE S n++tn S (eK S) (dZ S) n
theorem aii{S:List Q3}{cs:List Cd}{vs:List Vr}{i:Nat}(hl:vs.length<=64)(hC:∀c∈cs,CW c)(hr:∀a∈(S.getD i cM).args,0<=a/\a<cs.length):∀q∈tn S cs vs i,HQ q:=by
 have hc:=Ir hC hr;refine atV QZ.var (hc 0) (hc 1) (hc 2) (hc 3) ?_;rw[Kac];cases e:cs[i]? with
 |none=>exact CW.nil
 |some c=>exact hC c (Kai e)
theorem RF{k:Int}{t:List Tm}{a b c d x:Cd}:(r9 k t a b c d x).length<=2:=by
 unfold r9 Ga Ch
 repeat' split
 all_goals simp
theorem AH{S:List Q3}{G:List Qq}(hF:om S G)(hb:∀s∈S,lA s):∀c∈eK S,CW c:=fun c hc=>by have hl:=rB S S.length;obtain⟨n,hn,rfl⟩:=KaG hc;obtain⟨w,_,w8,_,hw⟩:=Ds hF hb S.length (Kae _) n (by rw[<-hl];exact hn);rw[Kac,Kad hn]at hw;exact apC hw w8
theorem aoG{k:Int}:gV k<=4:=by
 unfold gV
 repeat' split
 all_goals omega
theorem aoH(hN:rp){S:List Q3}{G:List Qq}(hF:om S G)(hS:S.length<2^40)(hG:G.length<2^40)(hb:∀s∈S,lA s)(hg:∀g∈G,jD g):
  AC 16 [PV.df S G] (fun r=>∃(l:List (List Tm))(e:Int),r= .aK [PV.jn l,.int .i64 e]/\(e=0->l=iE S S.length)):=by
 have hO:=OY hN hF hS hG hb hg;have tM:=hF.l;have cF:(eK S).length=S.length:=rB S S.length;have cT:=(AE S S.length).1;have hC:=AH hF hb;have bq:∀i (hi:i<S.length),AC 35 [PV.df S G,PV.frame (eK S) (dZ S),.int .i64 (i:Nat)] (· = .aK [PV.jn (tn S (eK S) (dZ S) i),.int .i64 0]):=fun i hi=>by have ok:=hF.f.s i hi;have:=ok.l;have:= @aoG S[i].k;exact aih tM hi (by show(bb S S.length).2.1.length<=64;omega) cF hC ok.r Oz
 have bo:∀i,(tn S (eK S) (dZ S) i).length<=2:=fun i=>RF;have Zd:∀i,(iE S i).length<=2*i:=fun i=>by
  induction i with
  |zero=>simp[iE]
  |succ n ih=>rw[iE,Kap];have:=bo n;omega
 have avE:∀i,iE S (i+1)=iE S i++tn S (eK S) (dZ S) i:=fun i=>rfl;clear hC cT;generalize iE S=H at *
 generalize tn S (eK S) (dZ S)=st at *
 show Qb _ _ _ _;unfold eK dZ at *
 generalize(bb S S.length).1=C0 at *
 generalize(bb S S.length).2.1=V0 at *
 refine aw Qf func16 aol fun C hP=>?_;refine aq hP hO ?_;refine Sz0 ?_;refine jt 6 900 1 61 Oz Tz0 ?_;refine Qm okB [(2,3),(6,10),(19,47)] [47,900] (fun q J hp=>∃i,q=S.length-i/\i<=S.length/\J 6= .ms 900 (H i).length/\J 7= .int .i64 (i:Nat)/\hp 1=some ⟨2,25,[PV.df S G],false⟩/\hp 4=some ⟨2,33,[PV.frame C0 V0],false⟩/\hp 900=some ⟨1,61,(H i).map PV.ay,false⟩) S.length ?_ ?_
 ·refine⟨0,rfl,by omega,?_⟩;have h0:H 0=[]:=Kas.1 (by have:=Zd 0;omega);refine Sz1 h0 ?_;rfl
 rintro _ J h ⟨i,rfl,hi,j6,j7,b1,b4,b9⟩;refine Sz2 j7 b1 ?_;refine Qa (fun hc=>?_) (fun hc=>?_)
 ·have aE:i<S.length:=by omega
  have c1:=bq i aE;have l1:=bo i;have l2:=Zd i;have hs:=avE i;generalize st i=L at *
  refine eF j7 b1 b4 hP c1 ?_;refine Sz5 j6 j7 b1 b4 b9 ?_;refine Qm okB [(2,3),(10,10),(33,44)] [] (fun q J2 hp=>∃k,q=L.length-k/\k<=L.length/\J2 10= .int .i64 (k:Nat)/\hp 1=some ⟨2,25,[PV.df S G],false⟩/\hp 4=some ⟨2,33,[PV.frame C0 V0],false⟩/\hp 900=some ⟨1,61,(H i).map PV.ay,false⟩) L.length ?_ ?_
  ·refine⟨0,rfl,by omega,?_⟩;refine Sz3 b1 b4 b9 ?_;rfl
  rintro _ J2 h2 ⟨k,rfl,hk,xJ,rY,c4,c9⟩;refine Sz1 xJ ?_;refine Qa (fun jJ=>?_) (fun jJ=>?_)
  ·have cG:k<L.length:=by omega
   generalize hx:L[k]=x at *
   refine Sz2 xJ hx ?_;refine Qa (fun h4=>?_) (fun h4=>?_)
   ·refine Sz0 ?_;exact lk ⟨[],4,rfl,fun h=>by cases h⟩ rfl rfl (p':=PV.jn []) trivial (Qe _)
   refine Sz1 xJ ?_;refine Qh (L.length-(k+1)) Oz ⟨k+1,rfl,by omega,?_⟩;exact Tz3 rY c4 c9
  obtain rfl:k=L.length:=by omega
  refine Sz5 j6 j7 rY c4 c9 ?_;rw[ob (f:=PV.ay) (xs:=H i) (ys:=L) c9 rfl Oz Oz Oz];refine Sz1 j7 ?_;simp (disch:=decide) only[mu,uJ];refine Qh (S.length-(i+1)) Oz ⟨i+1,rfl,by omega,?_⟩;rw[hs,Kap,KbS];exact Tz3 j7 rY c4
 obtain rfl:i=S.length:=by omega
 refine Sz2 j6 b9 ?_;rw[HU _ 900 _ 1 61 _ false b9 (by decide),Kah (by simp)];exact lk ⟨_,0,rfl,fun _=>rfl⟩ rfl rfl (Qe _) (Qe _)
structure oC where
 k:Int
 args:List Int
 s:Int
abbrev PV.qp(c:oC):PV:=.agg [.int .i64 c.k,PV.mono c.args,.int .i64 c.s]
def ME:oC:=⟨0,[],0⟩
def lC(k:Int)(l:List Int)(i:Int):Option oC:=
 if k=6 then some ⟨4,[],i⟩else if k=7∨k=8 then some ⟨1,[l.getD 1 0,l.getD 2 0],i⟩else if k=9 then some ⟨3,[l.getD 0 0,l.getD 1 0,l.getD 2 0,l.getD 3 0],i⟩
 else if k=10∨k=12∨k=14 then some ⟨1,[l.getD 0 0,l.getD 1 0],i⟩else if k=11 then some ⟨2,[l.getD 0 0,l.getD 1 0,l.getD 2 0],i⟩
 else if k=13 then some ⟨1,[l.getD 0 0,l.getD 2 0],i⟩else none
theorem aij{k:Int}{l:List Int}{i:Int}(h:k≠6/\k≠7/\k≠8/\k≠9/\k≠10/\k≠11/\k≠12/\k≠13/\k≠14):lC k l i=none:=by obtain⟨h1,h2,h3,h4,h5,h6,h7,h8,h9⟩:=h;simp[lC,h1,h2,h3,h4,h5,h6,h7,h8,h9]
theorem PW{S:List Q3}{G:List Qq}{i:Nat}(hS:S.length<=8)(hi:i<S.length)(bd:uS i S[i]):
  AC 37 [PV.df S G,.int .i64 (i:Nat)] (· = .aK [PV.qp ((lC S[i].k S[i].args (i:Nat)).getD ME),.bool (lC S[i].k S[i].args (i:Nat)).isSome]):=by
 have hl:=bd.l;obtain⟨s,hs⟩:∃s,S[i]=s:=⟨_,rfl⟩
 rw[hs]at hl⊢;clear bd;obtain⟨k,nm,args,n0,an,ad⟩:=s;simp only at hl⊢;by_cases hk:k=6∨k=7∨k=8∨k=9∨k=10∨k=11∨k=12∨k=13∨k=14
 ·rcases hk with rfl|rfl|rfl|rfl|rfl|rfl|rfl|rfl|rfl
  ·skip
   refine pk Qf func37 rfl tg Nz fun C hP=>?_;simp only[r8];refine eY ?_;refine Sz1 hs ?_;refine mA (iW ?_);refine aY ?_;exact lk rfl rfl rfl ⟨rfl,trivial,rfl,trivial⟩ (Qe _)
  ·skip
   obtain⟨a,b,c,rfl⟩:∃a b c,args=[a,b,c]:=by
    match args,hl with
    | [a,b,c],_=>exact⟨a,b,c,rfl⟩
   have g0:([a,b,c]:List Int)[0]=a:=rfl;have g1:([a,b,c]:List Int)[1]=b:=rfl;have g2:([a,b,c]:List Int)[2]=c:=rfl;refine pk Qf func37 rfl tg Nz fun C hP=>?_;simp only[r8];refine eY ?_;refine Sz4 hs g0 g1 g2 ?_;refine dn (uK 32 pO) ?_;refine aY ?_;refine mA (iW ?_);refine aY ?_;exact lk rfl rfl rfl (Qe _) (Qe _)
  ·skip
   obtain⟨a,b,c,rfl⟩:∃a b c,args=[a,b,c]:=by
    match args,hl with
    | [a,b,c],_=>exact⟨a,b,c,rfl⟩
   have g0:([a,b,c]:List Int)[0]=a:=rfl;have g1:([a,b,c]:List Int)[1]=b:=rfl;have g2:([a,b,c]:List Int)[2]=c:=rfl;refine pk Qf func37 rfl tg Nz fun C hP=>?_;simp only[r8];refine eY ?_;refine Sz4 hs g0 g1 g2 ?_;refine dn (uK 32 pO) ?_;refine aY ?_;refine mA (iW ?_);refine aY ?_;exact lk rfl rfl rfl (Qe _) (Qe _)
  ·skip
   obtain⟨a,b,c,d,rfl⟩:∃a b c d,args=[a,b,c,d]:=by
    match args,hl with
    | [a,b,c,d],_=>exact⟨a,b,c,d,rfl⟩
   have e3:∀fr hp K dd,dt 1 (PV.mono [a,b,c,d]) (.int .i64 3) dd fr hp K=K (ae fr dd (.pt [.int .i64 d])) hp:=fun _ _ _ _=>Dv (xs:=[.int .i64 a,.int .i64 b,.int .i64 c,.int .i64 d]) (n:=3) rfl;have g0:([a,b,c,d]:List Int)[0]=a:=rfl;have g1:([a,b,c,d]:List Int)[1]=b:=rfl;have g2:([a,b,c,d]:List Int)[2]=c:=rfl;have g3:([a,b,c,d]:List Int)[3]=d:=rfl;refine pk Qf func37 rfl tg Nz fun C hP=>?_;simp only[r8];refine eY ?_;refine Sz6 hs g0 g1 g2 g3 e3 ?_;rw[wz rfl (fun p hp=>by simp only[KaH,Kbh,or_false]at hp;rcases hp with rfl|rfl|rfl|rfl<;>rfl) Oz];refine aY ?_;refine dn (uK 49 pO) ?_;refine aY ?_;refine mA (iW ?_);refine aY ?_;exact lk rfl rfl rfl (Qe _) (Qe _)
  ·skip
   obtain⟨a,b,c,rfl⟩:∃a b c,args=[a,b,c]:=by
    match args,hl with
    | [a,b,c],_=>exact⟨a,b,c,rfl⟩
   have g0:([a,b,c]:List Int)[0]=a:=rfl;have g1:([a,b,c]:List Int)[1]=b:=rfl;have g2:([a,b,c]:List Int)[2]=c:=rfl;refine pk Qf func37 rfl tg Nz fun C hP=>?_;simp only[r8];refine eY ?_;refine Sz4 hs g0 g1 g2 ?_;refine dn (uK 62 pO) ?_;refine aY ?_;refine mA (iW ?_);refine aY ?_;exact lk rfl rfl rfl (Qe _) (Qe _)
  ·skip
   obtain⟨a,b,c,rfl⟩:∃a b c,args=[a,b,c]:=by
    match args,hl with
    | [a,b,c],_=>exact⟨a,b,c,rfl⟩
   have g0:([a,b,c]:List Int)[0]=a:=rfl;have g1:([a,b,c]:List Int)[1]=b:=rfl;have g2:([a,b,c]:List Int)[2]=c:=rfl;refine pk Qf func37 rfl tg Nz fun C hP=>?_;simp only[r8];refine eY ?_;refine Sz4 hs g0 g1 g2 ?_;rw[wz rfl (fun p hp=>by simp only[KaH,Kbh,or_false]at hp;rcases hp with rfl|rfl|rfl<;>rfl) Oz];refine aY ?_;refine dn (uK 76 pO) ?_;refine aY ?_;refine mA (iW ?_);refine aY ?_;exact lk rfl rfl rfl (Qe _) (Qe _)
  ·skip
   obtain⟨a,b,c,d,rfl⟩:∃a b c d,args=[a,b,c,d]:=by
    match args,hl with
    | [a,b,c,d],_=>exact⟨a,b,c,d,rfl⟩
   have e3:∀fr hp K dd,dt 1 (PV.mono [a,b,c,d]) (.int .i64 3) dd fr hp K=K (ae fr dd (.pt [.int .i64 d])) hp:=fun _ _ _ _=>Dv (xs:=[.int .i64 a,.int .i64 b,.int .i64 c,.int .i64 d]) (n:=3) rfl;have g0:([a,b,c,d]:List Int)[0]=a:=rfl;have g1:([a,b,c,d]:List Int)[1]=b:=rfl;have g2:([a,b,c,d]:List Int)[2]=c:=rfl;have g3:([a,b,c,d]:List Int)[3]=d:=rfl;refine pk Qf func37 rfl tg Nz fun C hP=>?_;simp only[r8];refine eY ?_;refine Sz6 hs g0 g1 g2 g3 e3 ?_;refine dn (uK 62 pO) ?_;refine aY ?_;refine mA (iW ?_);refine aY ?_;exact lk rfl rfl rfl (Qe _) (Qe _)
  ·skip
   obtain⟨a,b,c,d,rfl⟩:∃a b c d,args=[a,b,c,d]:=by
    match args,hl with
    | [a,b,c,d],_=>exact⟨a,b,c,d,rfl⟩
   have e3:∀fr hp K dd,dt 1 (PV.mono [a,b,c,d]) (.int .i64 3) dd fr hp K=K (ae fr dd (.pt [.int .i64 d])) hp:=fun _ _ _ _=>Dv (xs:=[.int .i64 a,.int .i64 b,.int .i64 c,.int .i64 d]) (n:=3) rfl;have g0:([a,b,c,d]:List Int)[0]=a:=rfl;have g1:([a,b,c,d]:List Int)[1]=b:=rfl;have g2:([a,b,c,d]:List Int)[2]=c:=rfl;have g3:([a,b,c,d]:List Int)[3]=d:=rfl;refine pk Qf func37 rfl tg Nz fun C hP=>?_;simp only[r8];refine eY ?_;refine Sz6 hs g0 g1 g2 g3 e3 ?_;refine dn (uK 87 pO) ?_;refine aY ?_;refine mA (iW ?_);refine aY ?_;exact lk rfl rfl rfl (Qe _) (Qe _)
  ·skip
   obtain⟨a,b,rfl⟩:∃a b,args=[a,b]:=by
    match args,hl with
    | [a,b],_=>exact⟨a,b,rfl⟩
   have g0:([a,b]:List Int)[0]=a:=rfl;have g1:([a,b]:List Int)[1]=b:=rfl;refine pk Qf func37 rfl tg Nz fun C hP=>?_;simp only[r8];refine eY ?_;refine Sz3 hs g0 g1 ?_;refine dn (uK 62 pO) ?_;refine aY ?_;refine mA (iW ?_);refine aY ?_;exact lk rfl rfl rfl (Qe _) (Qe _)
 ·have hn:k≠6/\k≠7/\k≠8/\k≠9/\k≠10/\k≠11/\k≠12/\k≠13/\k≠14:=by omega
  have dd:decide (k=6)=false/\decide (k=7)=false/\decide (k=8)=false/\decide (k=9)=false/\decide (k=10)=false/\decide (k=11)=false/\decide (k=12)=false/\decide (k=13)=false/\decide (k=14)=false:=by obtain⟨h1,h2,h3,h4,h5,h6,h7,h8,h9⟩:=hn;exact⟨decide_eq_false h1,decide_eq_false h2,decide_eq_false h3,decide_eq_false h4,decide_eq_false h5,decide_eq_false h6,decide_eq_false h7,decide_eq_false h8,decide_eq_false h9⟩
  rw[aij hn];refine pk Qf func37 rfl tg Nz fun C hP=>?_;simp only[r8];refine eY ?_;refine Sz2 hs dd ?_;refine mA (iW ?_);refine aY ?_;exact lk rfl rfl rfl ⟨rfl,trivial,rfl,trivial⟩ (Qe _)
theorem aik{c:oC}(hl:c.args.length<=40):AC 73 [PV.qp c,PV.qp c] (· = .bool true):=by
 obtain⟨k,args,s⟩:=c;simp only at hl;have d1:decide (¬k=k)=false:=by simp
 have d2:decide (¬s=s)=false:=by simp
 have d3:decide (¬(args.length:Int)=(args.length:Int))=false:=by simp
 refine aw Qf func73 aom fun C hP=>?_;refine Sz3 d1 d2 d3 ?_;refine Qm okB [(4,5),(27,44)] [] (fun q J hp=>∃i,q=args.length-i/\i<=args.length/\J 5= .int .i64 (i:Nat)/\hp 2=some ⟨3,75,[PV.qp ⟨k,args,s⟩],false⟩/\hp 3=some ⟨3,75,[PV.qp ⟨k,args,s⟩],false⟩) args.length ?_ ?_
 ·refine⟨0,rfl,by omega,?_⟩;refine Sz0 ?_;rfl
 rintro _ J h ⟨i,rfl,hi,j5,b2,b3⟩;refine Sz2 j5 b2 ?_;refine Qa (fun hc=>?_) (fun hc=>?_)
 ·have aE:i<args.length:=by omega
  generalize hx:args[i]=x at *
  have d4:decide (¬x=x)=false:=by simp
  refine Sz5 j5 b2 b3 hx d4 ?_;refine Qh (args.length-(i+1)) Oz ⟨i+1,rfl,by omega,?_⟩;exact Tz2 b2 b3
 refine Sz0 ?_;exact Qc rfl rfl
theorem afS{S:List Q3}{G:List Qq}{i:Nat}{c:oC}(hS:S.length<=8)(hi:i<S.length)(bd:uS i S[i])(hc:lC S[i].k S[i].args (i:Nat)=some c)(hs:c.s=(i:Nat))(fV:c.args.length<=40):
  AC 38 [PV.qp c,PV.df S G] (· = .bool true):=by
 have c1:=PW (G:=G) hS hi bd;rw[hc]at c1;have c2:=aik fV;simp only[Ka9,Option.isSome_some]at c1;obtain⟨k,args,s⟩:=c;simp only at hs;subst hs;refine aw Qf func38 anO fun C hP=>?_;refine Sz0 ?_;refine Qp (fun h=>absurd h Oz) (fun _=>?_);refine Sz0 ?_;refine Qa (fun h=>absurd h Oz) (fun _=>?_);refine aq hP c1 ?_;refine aq hP c2 ?_;refine Sz0 ?_;exact Qc rfl rfl
def je(cs:List Cd)(vs:List Vr)(c:oC):List Tm:=
 if c.k=1 then eD (cS cs c.args 0) (cS cs c.args 1) (cS cs c.args 0) (cS cs c.args 1)else if c.k=2 then lS (cS cs c.args 0) (cS cs c.args 1) (cS cs c.args 0) (cS cs c.args 2)
 else if c.k=3 then lS (cS cs c.args 0) (cS cs c.args 1) (cS cs c.args 2) (cS cs c.args 3)else yn (cq (iU vs c.s:Nat))
structure abq(n:Nat)(i:Nat)(c:oC):Prop where
 s:c.s=(i:Nat)
 r:∀a∈c.args,0<=a/\a<(n:Nat)
 k:(c.k=4/\c.args=[])∨(c.k=1/\c.args.length=2)∨(c.k=2/\c.args.length=3)∨(c.k=3/\c.args.length=4)
theorem SF{S:List Q3}{i n:Nat}{c:oC}(hi:i<S.length)(kS:i<=n)(bd:uS i S[i])(hc:lC S[i].k S[i].args (i:Nat)=some c):abq n i c:=by
 have hl:=bd.l;have hr:=bd.r;generalize S[i]=s at *
 obtain⟨k,nm,args,n0,an,ad⟩:=s;simp only at hl hr hc;have gd:∀j,j<args.length->0<=args.getD j 0/\args.getD j 0<(n:Nat):=fun j hj=>by rw[Kac,Kad hj];have:=hr _ (Kag hj);simp only[Ka9];omega
 have ar:∀x:Int,gV k=x->(args.length:Int)=x:=fun x h=>by rw[hl,h]
 unfold lC at hc;split at hc
 ·cases hc;exact⟨rfl,fun a h=>(by cases h),.inl ⟨rfl,rfl⟩⟩
 split at hc
 ·rename_i h;have:=ar 3 (by unfold gV;rw[if_neg Oz,if_neg Oz,if_pos Oz]);cases hc;exact⟨rfl,fun a ha=>by simp at ha;rcases ha with rfl|rfl<;>exact gd _ Oz,.inr (.inl ⟨rfl,rfl⟩)⟩
 split at hc
 ·rename_i h;have:=ar 4 (by subst h;decide);cases hc;exact⟨rfl,fun a ha=>by simp at ha;rcases ha with rfl|rfl|rfl|rfl<;>exact gd _ Oz,.inr (.inr (.inr ⟨rfl,rfl⟩))⟩
 split at hc
 ·rename_i h;have:2<=args.length:=by
   rcases h with h|h|h
   ·have:=ar 3 (by subst h;decide);omega
   ·have:=ar 4 (by subst h;decide);omega
   ·have:=ar 2 (by subst h;decide);omega
  cases hc;exact⟨rfl,fun a ha=>by simp at ha;rcases ha with rfl|rfl<;>exact gd _ Oz,.inr (.inl ⟨rfl,rfl⟩)⟩
 split at hc
 ·rename_i h;have:=ar 3 (by subst h;decide);cases hc;exact⟨rfl,fun a ha=>by simp at ha;rcases ha with rfl|rfl|rfl<;>exact gd _ Oz,.inr (.inr (.inl ⟨rfl,rfl⟩))⟩
 split at hc
 ·rename_i h;have:=ar 4 (by subst h;decide);cases hc;exact⟨rfl,fun a ha=>by simp at ha;rcases ha with rfl|rfl<;>exact gd _ Oz,.inr (.inl ⟨rfl,rfl⟩)⟩
 ·cases hc
theorem ail{S:List Q3}{G:List Qq}{cs:List Cd}{vs:List Vr}{i:Nat}{c:oC}(hS:S.length<=8)(hi:i<S.length)(bd:uS i S[i])(hc:lC S[i].k S[i].args (i:Nat)=some c)(cF:cs.length=S.length)(hC:∀c∈cs,CW c)(hl:vs.length<=64):
  AC 19 [PV.qp c,PV.df S G,PV.frame cs vs] (· = .aK [PV.ay (je cs vs c),.int .i64 0]):=by
 obtain⟨h1,h2,h3⟩:=SF (n:=S.length) hi Oz bd hc;have hr:∀a∈c.args,0<=a/\a<cs.length:=fun a ha=>by have:=h2 a ha;omega
 have atY:c.args.length<=4:=by
  rcases h3 with⟨_,h⟩|h|h|h
  ·rw[h];simp
  all_goals omega
 have c1:=afS (G:=G) hS hi bd hc h1 Oz;have hI:=Kj hr;have mN:=Ir hC hr;clear hc h1 h2 hr bd;obtain⟨k,args,s⟩:=c;simp only at h3 hI mN atY;rcases h3 with⟨rfl,rfl⟩|⟨rfl,fV⟩|⟨rfl,fV⟩|⟨rfl,fV⟩
 ·have c2:=Wz (cs:=cs) (i:=s) hl;have hv:je cs vs ⟨4,[],s⟩=yn (cq (iU vs s:Nat)):=by simp only[je,Int.reduceEq,reduceIte]
  rw[hv];refine aw Qf func19 Ib fun C hP=>?_;refine aq hP c1 ?_;refine aq hP c2 ?_;refine Sz0 ?_;exact bO rfl rfl rfl (Qe _) (Qe _)
 ·have xz:(de cs args).length=2:=by simp[de,fV]
  obtain⟨L,hL⟩:∃L,de cs args=L:=⟨_,rfl⟩
  rw[hL]at hI xz;obtain⟨x,y,rfl⟩:∃x y,L=[x,y]:=by
   match L,xz with
   | [x,y],_=>exact⟨x,y,rfl⟩
  have d0:cS cs args 0=x:=by unfold cS;rw[hL];rfl
  have d1:cS cs args 1=y:=by unfold cS;rw[hL];rfl
  have hx:CW x:=by have:=mN 0;rwa[d0]at this
  have hy:CW y:=by have:=mN 1;rwa[d1]at this
  have hv:je cs vs ⟨1,args,s⟩=eD x y x y:=by simp only[je,Int.reduceEq,reduceIte];rw[d0,d1]
  rw[hv];clear hv hL d0 d1;obtain⟨m0,m1,rfl,⟨b0,i0⟩,⟨b1,i1⟩⟩:=ix2 hI;have c2:=lh hx.cb hy.cb;have rY:AC 38 [.agg [.int .i64 1,.sl 1 [.int .i64 (m0:Nat),.int .i64 (m1:Nat)],.int .i64 s],PV.df S G] (· = .bool true):=c1;show Qb _ _ [.agg [.int .i64 1,.sl 1 [.int .i64 (m0:Nat),.int .i64 (m1:Nat)],.int .i64 s],_,_] _;refine aw Qf func19 Ib fun C hP=>?_;refine aq hP rY ?_;refine cR i0 i1 hP c2 ?_;refine Sz0 ?_;exact bO rfl rfl rfl (Qe _) (Qe _)
 ·have xz:(de cs args).length=3:=by simp[de,fV]
  obtain⟨L,hL⟩:∃L,de cs args=L:=⟨_,rfl⟩
  rw[hL]at hI xz;obtain⟨x,y,z,rfl⟩:∃x y z,L=[x,y,z]:=by
   match L,xz with
   | [x,y,z],_=>exact⟨x,y,z,rfl⟩
  have d0:cS cs args 0=x:=by unfold cS;rw[hL];rfl
  have d1:cS cs args 1=y:=by unfold cS;rw[hL];rfl
  have d2:cS cs args 2=z:=by unfold cS;rw[hL];rfl
  have hx:CW x:=by have:=mN 0;rwa[d0]at this
  have hy:CW y:=by have:=mN 1;rwa[d1]at this
  have hz:CW z:=by have:=mN 2;rwa[d2]at this
  have hv:je cs vs ⟨2,args,s⟩=lS x y x z:=by simp only[je,Int.reduceEq,reduceIte];rw[d0,d1,d2]
  rw[hv];clear hv hL d0 d1 d2;obtain⟨m0,m1,m2,rfl,⟨b0,i0⟩,⟨b1,i1⟩,⟨b2,i2⟩⟩:=On hI;have c2:=oa hx.cb hy.cb hx.cb hz.cb;have rY:AC 38 [.agg [.int .i64 2,.sl 1 [.int .i64 (m0:Nat),.int .i64 (m1:Nat),.int .i64 (m2:Nat)],.int .i64 s],PV.df S G] (· = .bool true):=c1;show Qb _ _ [.agg [.int .i64 2,.sl 1 [.int .i64 (m0:Nat),.int .i64 (m1:Nat),.int .i64 (m2:Nat)],.int .i64 s],_,_] _;refine aw Qf func19 Ib fun C hP=>?_;refine aq hP rY ?_;refine eF i0 i1 i2 hP c2 ?_;refine Sz0 ?_;exact bO rfl rfl rfl (Qe _) (Qe _)
 ·have xz:(de cs args).length=4:=by simp[de,fV]
  obtain⟨L,hL⟩:∃L,de cs args=L:=⟨_,rfl⟩
  rw[hL]at hI xz;obtain⟨x,y,z,w,rfl⟩:∃x y z w,L=[x,y,z,w]:=by
   match L,xz with
   | [x,y,z,w],_=>exact⟨x,y,z,w,rfl⟩
  have d0:cS cs args 0=x:=by unfold cS;rw[hL];rfl
  have d1:cS cs args 1=y:=by unfold cS;rw[hL];rfl
  have d2:cS cs args 2=z:=by unfold cS;rw[hL];rfl
  have d3:cS cs args 3=w:=by unfold cS;rw[hL];rfl
  have hx:CW x:=by have:=mN 0;rwa[d0]at this
  have hy:CW y:=by have:=mN 1;rwa[d1]at this
  have hz:CW z:=by have:=mN 2;rwa[d2]at this
  have hw:CW w:=by have:=mN 3;rwa[d3]at this
  have hv:je cs vs ⟨3,args,s⟩=lS x y z w:=by simp only[je,Int.reduceEq,reduceIte];rw[d0,d1,d2,d3]
  rw[hv];clear hv hL d0 d1 d2 d3;obtain⟨m0,m1,m2,m3,rfl,⟨b0,i0⟩,⟨b1,i1⟩,⟨b2,i2⟩,⟨b3,i3⟩⟩:=BU hI;have c2:=oa hx.cb hy.cb hz.cb hw.cb;have rY:AC 38 [.agg [.int .i64 3,.sl 1 [.int .i64 (m0:Nat),.int .i64 (m1:Nat),.int .i64 (m2:Nat),.int .i64 (m3:Nat)],.int .i64 s],PV.df S G] (· = .bool true):=c1;show Qb _ _ [.agg [.int .i64 3,.sl 1 [.int .i64 (m0:Nat),.int .i64 (m1:Nat),.int .i64 (m2:Nat),.int .i64 (m3:Nat)],.int .i64 s],_,_] _;refine aw Qf func19 Ib fun C hP=>?_;refine aq hP rY ?_;refine jF i0 i1 i2 i3 hP c2 ?_;refine Sz0 ?_;exact bO rfl rfl rfl (Qe _) (Qe _)
theorem aoI{cs:List Cd}{vs:List Vr}{c:oC}(hC:∀c∈cs,CW c)(hr:∀a∈c.args,0<=a/\a<cs.length):HQ (je cs vs c):=by
 have h:=Ir hC hr;unfold je;split
 ·exact(eP (h 0) (h 1) (h 0) (h 1)).h
 split
 ·exact(te (h 0) (h 1) (h 0) (h 2)).h
 split
 ·exact(te (h 0) (h 1) (h 2) (h 3)).h
 ·exact .of (H5 QZ.var) Oz Oz Oz Oz Oz
def jA(S:List Q3):Nat->List oC
 |0=>[]
 |n+1=>jA S n++(lC (S.getD n cM).k (S.getD n cM).args (n:Nat)).toList
instance : Inhabited oC := ⟨ME⟩
theorem aoJ(hN:rp){S:List Q3}{G:List Qq}(hF:om S G)(hS:S.length<2^40)(hG:G.length<2^40)(hb:∀s∈S,lA s)(hg:∀g∈G,jD g):
  AC 18 [PV.df S G] (· = .aK [.sl 3 ((jA S S.length).map PV.qp),.int .i64 0]):=by
 have hO:=OY hN hF hS hG hb hg;have tM:=hF.l;have kk:∀i,i<S.length->jA S (i+1)=jA S i++(lC (S.getD i cM).k (S.getD i cM).args (i:Nat)).toList:=fun i _=>rfl;have bq:∀i (hi:i<S.length),AC 37 [PV.df S G,.int .i64 (i:Nat)] (· = .aK [PV.qp ((lC (S.getD i cM).k (S.getD i cM).args (i:Nat)).getD ME),.bool (lC (S.getD i cM).k (S.getD i cM).args (i:Nat)).isSome]):=fun i hi=>by
  have:S.getD i cM=S[i]:=by rw[Kac,Kad hi];rfl
  rw[this];exact PW tM hi (hF.f.s i hi)
 have qQ:∀i,(jA S i).length<=i:=fun i=>by
  induction i with
  |zero=>simp[jA]
  |succ n ih=>
   rw[jA,Kap];have:(lC (S.getD n cM).k (S.getD n cM).args (n:Nat)).toList.length<=1:=by cases lC (S.getD n cM).k (S.getD n cM).args (n:Nat)<;>simp
   omega
 generalize jA S=H at *
 generalize(bb S S.length).1=C0 at *
 generalize(bb S S.length).2.1=V0 at *
 refine pk Qf func18 rfl anQ Nz fun C hP=>?_;simp only[Bn];refine eY ?_;refine aq hP hO ?_;refine Sz0 ?_;refine jt 6 900 3 75 Oz Tz0 ?_;refine Qm okB [(6,9),(18,35)] [8,34,35,900] (fun q J hp=>∃i,q=S.length-i/\i<=S.length/\J 6= .ms 900 (H i).length/\J 7= .int .i64 (i:Nat)/\hp 1=some ⟨2,25,[PV.df S G],false⟩/\hp 900=some ⟨3,75,(H i).map PV.qp,false⟩) S.length ?_ ?_
 ·refine⟨0,rfl,by omega,?_⟩;have h0:H 0=[]:=Kas.1 (by have:=qQ 0;omega);refine Sz1 h0 ?_;rfl
 rintro _ J h ⟨i,rfl,hi,j6,j7,b1,b9⟩;refine Sz2 j7 b1 ?_;refine Qa (fun hc=>?_) (fun hc=>?_)
 ·have aE:i<S.length:=by omega
  have c1:=bq i aE;have hs:=kk i aE;have l2:=qQ i;generalize lC (S.getD i cM).k (S.getD i cM).args (i:Nat)=o at *
  cases o with
  |none=>simp only[Option.getD_none,Option.isSome_none,Option.toList_none,Kak]at c1 hs;refine cR j7 b1 hP c1 ?_;refine Sz1 j7 ?_;refine Qh (S.length-(i+1)) Oz ⟨i+1,rfl,by omega,?_⟩;exact Tz4 j6 hs b1 b9
  |some c=>simp only[Ka9,Option.isSome_some,Option.toList_some]at c1 hs;refine cR j7 b1 hP c1 ?_;refine Sz2 j6 j7 ?_;refine dn (Wk.refl _ _) ?_;refine Sz1 b9 ?_;rw[Qv (f:=PV.qp) (y:=c) (xs:=H i) (ty':=75) (fz:=false) (Tz1 b9) a9 Oz rfl Oz Oz];refine Sz1 j7 ?_;refine Qh (S.length-(i+1)) Oz ⟨i+1,rfl,by omega,?_⟩;rw[hs,Kap,KbS];exact Tz1 b1
 obtain rfl:i=S.length:=by omega
 refine Sz2 j6 b9 ?_;refine mA (iW ?_);refine Sz0 ?_;rw[HU _ 900 _ 3 75 _ false b9 (by decide),Kah (by simp)];exact lk rfl rfl rfl (Qe _) (Qe _)
theorem Q8x{S:List Q3}{G:List Qq}{f:Qq}(hF:om S G)(hb:∀s∈S,lA s)(hf:jD f)(hm:f∈G):SD (eK S) f:=by
 have hl:(eK S).length=S.length:=rB S S.length;refine⟨hf,by have:=hF.l;omega,fun c hc=>(AH hF hb c hc).cb,fun h0 MT c hc=>?_,fun h0 h9=>?_⟩
 ·rw[hl]at h0;obtain⟨_,_,hr,_⟩:=ym h0;obtain⟨a,ha,rfl⟩:=KaA.1 hc;have Fk:=hr a ha;obtain⟨w,w1,_,vO,hw⟩:=Ds hF hb S.length (Kae _) a.toNat Oz;have ht:=hF.t.g f hm MT a ha;rw[vO]at ht;exact hw.mono Oz Oz Oz
 ·rw[hl]at h0;obtain⟨_,_,_,hq⟩:=ym h0;rw[if_pos h9]at hq;have hs:=hF.g f hm;exact⟨Ix hf.r.la hf.r.ld hq,by have:=(show Raw 2 f.n f.a f.d from⟨hf.r.la,hf.r.ld,hs.1,hs.2,by omega⟩).rs;omega⟩
def pJ(S:List Q3):List (List Tm):=(jA S S.length).map (je (eK S) (dZ S))
def tv(S:List Q3)(G:List Qq):List (List (List Tm)):=G.map fun g=>(jy (eK S) g).1
abbrev PV.iA(S:List Q3)(G:List Qq)(C:List Cd)(V:List Vr)(H P:List (List Tm))(Q:List (List (List Tm))):PV:=
 .agg [.sl 6 (S.map PV.qq),.sl 5 (G.map PV.bI),.sl 2 (C.map PV.aD),.sl 3 (V.map PV.fvar),PV.jn H,PV.jn P,.sl 1 (Q.map PV.jn)]
abbrev Cg:PV:=PV.iA [] [] [] [] [] [] []
abbrev GG(S:List Q3)(G:List Qq):PV:=PV.iA S G (eK S) (dZ S) (iE S S.length) (pJ S) (tv S G)
theorem Mr:PV.le (.agg [.ab,.ab,.ab,.ab,.ab,.ab,.ab]) Cg:=⟨trivial,trivial,trivial,trivial,trivial,trivial,trivial,trivial⟩
def oB(S:List Q3)(G:List Qq)(C:List Cd)(V:List Vr)(H:List (List Tm))(p q:PV):List PV:=
 [.sl 6 (S.map PV.qq),.sl 5 (G.map PV.bI),.sl 2 (C.map PV.aD),.sl 3 (V.map PV.fvar),PV.jn H,p,q]
theorem HK(S:List Q3):∀i,(jA S i).length<=i
 |0=>by simp[jA]
 |n+1=>by
  have ih:=HK S n;rw[jA,Kap];have:(lC (S.getD n cM).k (S.getD n cM).args (n:Nat)).toList.length<=1:=by cases lC (S.getD n cM).k (S.getD n cM).args (n:Nat)<;>simp
  omega
theorem LY{S:List Q3}{c:oC}:∀ {n:Nat},n<=S.length->c∈jA S n->∃(i:Nat)(h:i<S.length),lC S[i].k S[i].args (i:Nat)=some c
 |0,_,h=>by cases h
 | n+1,hn,h=>by
  rw[jA,KaS]at h;rcases h with h|h
  ·exact LY Oz h
  ·have e:S.getD n cM=S[n]:=by rw[Kac,Kad (show n<S.length by omega)];rfl
   rw[e]at h;exact⟨n,by omega,by simpa using h⟩
theorem aim{S:List Q3}{G:List Qq}(hF:om S G)(hb:∀s∈S,lA s)(c:oC)(hm:c∈jA S S.length):AC 19 [PV.qp c,PV.df S G,PV.frame (eK S) (dZ S)] (· = .aK [PV.ay (je (eK S) (dZ S) c),.int .i64 0]):=by obtain⟨i,hi,hc⟩:=LY (Kae _) hm;have tM:=hF.l;exact ail tM hi (hF.f.s i hi) hc (rB S S.length) (AH hF hb) (by have:=(AE S S.length).1;show(bb S S.length).2.1.length<=64;omega)
set_option maxHeartbeats 1000000 in
theorem P9(hN:rp){S:List Q3}{G:List Qq}(hF:om S G)(hS:S.length<2^40)(hG:G.length<2^40)(hb:∀s∈S,lA s)(hg:∀g∈G,jD g):
  AC 7 [PV.df S G] (fun r=>∃(M:PV)(e:Int),r= .aK [M,.int .i64 e]/\((e=0/\M=GG S G)∨(e≠0/\M=Cg))):=by
 have hR:=Lz hN hS hG hb hg;have hH:=aoH hN hF hS hG hb hg;have hO:=OY hN hF hS hG hb hg;have hD:=aoJ hN hF hS hG hb hg;have Bw:=hF.gl;refine pk Qf func7 rfl apv Nz fun C hP=>?_;simp only[c7];refine eY ?_;refine Sz0 ?_;refine gP hP hR rfl rfl rfl ?_;rintro _ ⟨e,rfl,vC⟩;obtain rfl:e=0:=vC.2 hF.o;refine Sz0 ?_;refine gP hP hH rfl rfl rfl ?_;rintro _ ⟨H,e,rfl,M0⟩;by_cases he:¬e=0
 ·have d:decide (¬e=0)=true:=decide_eq_true he;refine Sz1 d ?_;refine mA (iW ?_);refine Sz0 ?_;exact lk ⟨Cg,e,rfl,.inr ⟨he,rfl⟩⟩ rfl rfl Mr (Qe _)
 obtain rfl:e=0:=by omega
 obtain rfl:=M0 rfl;refine aq hP hO ?_;refine Sz0 ?_;generalize Bx:iE S S.length=H0 at *
 have EB:(jA S S.length).length<=S.length:=HK S S.length;have ZU:∀k (h:k<(jA S S.length).length),AC 19 [PV.qp (jA S S.length)[k],PV.df S G,PV.frame (eK S) (dZ S)] (· = .aK [PV.ay (je (eK S) (dZ S) (jA S S.length)[k]),.int .i64 0]):=fun k h=>aim hF hb _ (Kag h);have EM:∀g∈G,AC 20 [PV.bI g,PV.frame (eK S) (dZ S)] (· = .aK [PV.jn (jy (eK S) g).1,.int .i64 (jy (eK S) g).2]):=fun g hm=>afO (Q8x hF hb (hg g hm) hm);have XX:pJ S=(jA S S.length).map (je (eK S) (dZ S)):=rfl;have YR:tv S G=G.map fun g=>(jy (eK S) g).1:=rfl;unfold GG;rw[Bx,XX,YR];clear XX YR Bx;show vc _ _ _ _ _;unfold eK dZ at *
 generalize jA S S.length=cd at *
 generalize(bb S S.length).1=C0 at *
 generalize(bb S S.length).2.1=V0 at *
 have hHP:=Kae 0;refine dn (rK 9 2000020 a9 Oz rfl Oz) ?_;refine Sz0 ?_;refine dn (rD (γ:=2000020) (e:=7) (ty:=37) (xs:=[.agg (oB S G C0 V0 H0 .ab .ab)]) (fz:=false) a9 (by simp) Oz (fun x hx=>by rw[Kay.1 hx];rfl)) ?_;refine Sz0 ?_;refine dn (P0 (γ:=2000020) (e:=7) (ty:=37) (cs:=oB S G C0 V0 H0 .ab .ab) (cs':=oB S G C0 V0 H0 (.ax 2000000 0 0) .ab) 2000000 1 61 a9 a9 Oz Oz rfl (by simp[oB])) ?_;refine Sz0 ?_;refine dn (Rz (γ:=2000020) (e:=7) (ty:=37) (cs:=oB S G C0 V0 H0 (.ax 2000000 0 0) .ab) (cs':=oB S G C0 V0 H0 (.ax 2000000 0 0) (.ax 2000001 0 0)) 2000001 1 34 a9 a9 Oz Oz rfl (by simp[oB])) ?_;refine aq hP hD ?_;refine Sz0 ?_;refine HC kv [(3,3),(9,9),(12,14),(47,72),(2000020,2000020)] [70,71] (fun q J hp=>∃k,q=cd.length-k/\k<=cd.length/\J 9= .np 2000020 0 0/\J 12= .int .i64 (k:Nat)/\J 2000020= .aJ 2000020 7 37 [.aP (oB S G C0 V0 H0 (.ax 2000000 0 k) (.ax 2000001 0 0))]/\hp 2000020=some ⟨7,37,[],false⟩/\
   hp 2000000=some ⟨1,61,((cd.take k).map (je C0 V0)).map PV.ay,false⟩/\hp 2000001=some ⟨1,34,[],false⟩/\hp 1=some ⟨2,25,[PV.df S G],false⟩/\hp 2=some ⟨7,37,[.agg [.ab,.ab,.ab,.ab,.ab,.ab,.ab]],false⟩/\hp 7=some ⟨2,33,[PV.frame C0 V0],false⟩) cd.length ?_ ?_
 ·refine⟨0,rfl,by omega,?_⟩;refine Sz0 ?_;rfl
 rintro _ J h ⟨k,rfl,hk,j9,qm,g5,k5,k0,k1,kf,kr,kx⟩;unfold oB at g5;refine Sz1 qm ?_;refine Qa (fun hc=>?_) (fun hc=>?_)
 ·have cG:k<cd.length:=by omega
  have cp:=ZU k cG;have cO:cd.take (k+1)=cd.take k++[cd[k]]:=Kar cG;have mT:k=((cd.take k).map (je C0 V0)).length:=by rw[KaJ,KaB];omega
  generalize hx:cd[k]=c at *
  refine jF qm kf kx hx hP cp ?_;obtain⟨p,aA⟩:∃p,je C0 V0 c=p:=⟨_,rfl⟩
  have zd:(cd.take (k+1)).map (je C0 V0)=(cd.take k).map (je C0 V0)++[p]:=by rw[cO,KbS,List.map_singleton,aA]
  rw[aA];refine Sz1 qm ?_;refine Qa (fun h4=>?_) (fun h4=>?_)
  ·refine Sz1 kr ?_;refine mA (iW ?_);refine Sz0 ?_;exact lk ⟨Cg,4,rfl,.inr ⟨by decide,rfl⟩⟩ rfl rfl Mr (Qe _)
  refine Sz3 j9 g5 k5 ?_;rw[G3 (f:=PV.ay) (y:=p) (xs:=(cd.take k).map (je C0 V0)) (ty':=61) (fz:=false) (mE k0) a9 Oz mT Oz Oz Oz];refine Sz4 j9 g5 k5 qm ?_;refine CN (cd.length-(k+1)) Oz ⟨k+1,rfl,by omega,?_⟩;rw[zd,KbS];unfold oB;exact Tz7 j9 g5 k5 k1 kf kr kx
 obtain rfl:k=cd.length:=by omega
 rw[Kba]at k0;clear ZU;generalize hPS:cd.map (je C0 V0)=PS at *
 have By:PS.length=cd.length:=by rw[<-hPS,KaJ]
 refine Sz0 ?_;refine HC kv [(3,3),(9,9),(15,17),(73,99),(2000020,2000020)] [97,98] (fun q J hp=>∃i,q=G.length-i/\i<=G.length/\J 9= .np 2000020 0 0/\J 15= .int .i64 (i:Nat)/\J 2000020= .aJ 2000020 7 37 [.aP (oB S G C0 V0 H0 (.ax 2000000 0 cd.length) (.ax 2000001 0 i))]/\hp 2000020=some ⟨7,37,[],false⟩/\
   hp 2000000=some ⟨1,61,PS.map PV.ay,false⟩/\hp 2000001=some ⟨1,34,((G.take i).map fun g=>(jy C0 g).1).map PV.jn,false⟩/\hp 1=some ⟨2,25,[PV.df S G],false⟩/\hp 2=some ⟨7,37,[.agg [.ab,.ab,.ab,.ab,.ab,.ab,.ab]],false⟩/\hp 7=some ⟨2,33,[PV.frame C0 V0],false⟩) G.length ?_ ?_
 ·refine⟨0,rfl,by omega,?_⟩;unfold oB;refine Sz8 j9 g5 k5 k0 k1 kf kr kx ?_;rfl
 rintro _ J2 h2 ⟨i,rfl,hi,i9,i15,Eb,Ov,k0',Ou,Ow,Ox,kx'⟩;unfold oB at Eb;clear g5 k5 k0 k1 kf kr kx j9 qm hc;refine Sz2 i15 Ow ?_;refine Qa (fun hc=>?_) (fun hc=>?_)
 ·have aE:i<G.length:=by omega
  have cp:=EM _ (Kag aE);have cO:G.take (i+1)=G.take i++[G[i]]:=Kar aE;have mT:i=((G.take i).map fun g=>(jy C0 g).1).length:=by rw[KaJ,KaB];omega
  generalize hx:G[i]=g at *
  refine jF i15 Ow kx' hx hP cp ?_;obtain⟨p,aA⟩:∃p,(jy C0 g).1=p:=⟨_,rfl⟩
  obtain⟨z,JF⟩:∃z,(jy C0 g).2=z:=⟨_,rfl⟩
  have zd:((G.take (i+1)).map fun g=>(jy C0 g).1)=((G.take i).map fun g=>(jy C0 g).1)++[p]:=by rw[cO,KbS,List.map_singleton,aA]
  rw[aA,JF];refine Sz1 i15 ?_;by_cases hz:¬z=0
  ·have d:decide (¬z=0)=true:=decide_eq_true hz;refine Sz2 d Ox ?_;refine mA (iW ?_);refine Sz0 ?_;exact lk ⟨Cg,z,rfl,.inr ⟨hz,rfl⟩⟩ rfl rfl Mr (Qe _)
  have d:decide (¬z=0)=false:=decide_eq_false hz;refine Sz4 d i9 Eb Ov ?_;rw[G3 (f:=PV.jn) (y:=p) (xs:=(G.take i).map fun g=>(jy C0 g).1) (ty':=34) (fz:=false) (mE Ou) a9 Oz mT Oz Oz Oz];refine Sz4 i9 Eb Ov i15 ?_;refine CN (G.length-(i+1)) Oz ⟨i+1,rfl,by omega,?_⟩;rw[zd,KbS];unfold oB;exact Tz7 i9 Eb Ov k0' Ow Ox kx'
 obtain rfl:i=G.length:=by omega
 rw[Kba]at Ou;refine Sz2 i9 Eb ?_;refine Sb 100 1 (p:=.aP [.sl 6 (S.map PV.qq),.sl 5 (G.map PV.bI),.sl 2 (C0.map PV.aD),.sl 3 (V0.map PV.fvar),PV.jn H0,.ms 2000000 cd.length,.ms 2000001 G.length]) (D:=PV.iA S G C0 V0 H0 PS (G.map fun g=>(jy C0 g).1)) a9 ?_ (fun l hl=>?_)
 ·refine⟨fun c hc=>?_,?_,?_⟩
  ·simp only[KaH,Kbh,or_false]at hc;rcases hc with rfl|rfl|rfl|rfl|rfl|rfl|rfl
   all_goals first|exact trivial|rfl
  ·simp[Gx,pS,k0',Ou,PV.iA];exact⟨Kah (by simp[By]),Kah (by simp)⟩
  ·simp[Ce,ug]
 have z2:FW.Q6 h2 l 2=some ⟨7,37,[.agg [.ab,.ab,.ab,.ab,.ab,.ab,.ab]],false⟩:=by rw[UN hl Oz,Ox]
 refine Sz1 z2 ?_;refine mA (iW ?_);refine Sz0 ?_;exact lk ⟨_,0,rfl,.inl ⟨rfl,rfl⟩⟩ rfl rfl (Qe _) (Qe _)
end Go.Proofs.YtmkijkjaeljieaaGreat
namespace Go.FW
open Go
structure Cf(j:Nat)(p:List Tm):Prop where
 d:∃D N:Nat,0<D/\0<N/\nl D<=31+120000*j/\nl N<=13+75000*j/\Dn D p/\n1 p<=(N:Rat)
 w:∀t∈p,ky t.2<=6560
 pos:Pos p
 ml:ML 4 p
 n:bN p
theorem Cf.mono{i j:Nat}{p:List Tm}(h:Cf i p)(Jk:i<=j):Cf j p:=by obtain⟨⟨D,N,h1,h2,h3,h4,h5,h6⟩,h7,h8,h9,du⟩:=h;exact⟨⟨D,N,h1,h2,by omega,by omega,h5,h6⟩,h7,h8,h9,du⟩
structure SG(hp:HP)(p:PV)(cs:List PV)(rs:List Nat):Prop where
 d:(Qr hp p).aG=true
 c:(Qr hp p).cells=cs
 r:p.refs=rs
 n:p.mh=false
theorem SG.flat{hp:HP}{p:PV}(h:p.flat=true):SG hp p p.cells []:=by obtain⟨s1,s2,s3⟩:=ru (hp:=hp) h;exact⟨by rw[s1];exact s3,by rw[s1],s2,Le h⟩
theorem aqs{fr:Fr}{hp:HP}{K:Qg}{e ty d:Nat}(h0:0<e):l7 e ty [] d fr hp K=K (ae (bZ d fr) d (.ms d 0)) (Qj hp d ⟨e,ty,[],false⟩):=by
 have e1:Q6 hp []=hp:=by funext O;simp[Q6]
 unfold l7 DU;rw[if_neg (by simp[ot])];simp only[KaN,KbG,KaR,e1];exact propext ⟨fun h=>h.2.2,fun h=>⟨h0,fun p hp=>(by cases hp),h⟩⟩
end Go.FW
