/- Part 12 of the proof of GoalsPolynomials: K24, K18, W1, W2, W3, W4, W5, FwUD. Own lemmas; no conditions. -/
import Derived.Test.YtonjiljafkiikaaGreatGoalsPolynomialsPart11
set_option maxHeartbeats 1000000
set_option linter.unusedSimpArgs false
set_option linter.unusedVariables false
set_option linter.unnecessarySimpa false
set_option maxRecDepth 100000
namespace Go.Proofs.YtonjiljafkiikaaGreat
open Go Go.FW
def yD(cs:List Cd)(args:List PV):List (Nat×PV):=[(1,.sl 2 (cs.map PV.ay)),(5,.sl 1 args)]
def CW(cs:List Cd)(args:List PV)(a0 a1 a2:Nat)(c0 c1 c2:Cd):WT:=[(133,0,.sl 2 (cs.map PV.ay)),(134,1,.sl 1 args),(135,2,.pt [.int .i64 (a0:Nat)]),(136,3,.int .i64 (a0:Nat)),(137,4,.pt [PV.ax c0.1,PV.ax c0.2]),(138,5,PV.ay c0),(139,6,.sl 2 (cs.map PV.ay)),(140,7,.sl 1 args),(141,8,.pt [.int .i64 (a1:Nat)]),(142,9,.int .i64 (a1:Nat)),(143,10,.pt [PV.ax c1.1,PV.ax c1.2]),(144,11,PV.ay c1),(145,12,.sl 2 (cs.map PV.ay)),(146,13,.sl 1 args),(147,14,.pt [.int .i64 (a2:Nat)]),(148,15,.int .i64 (a2:Nat)),(149,16,.pt [PV.ax c2.1,PV.ax c2.2]),(150,17,PV.ay c2),(6,18,.mp 6 0 0),(7,19,.mp 7 0 0),(8,20,.mp 8 0 0)]
def sB(c0 c1 c2:Cd):WB:=[(6,18,21,⟨2,82,[.agg [.aa,.aa]],false⟩,⟨2,82,[PV.ay c0],false⟩),(7,19,22,⟨2,82,[.agg [.aa,.aa]],false⟩,⟨2,82,[PV.ay c1],false⟩),(8,20,23,⟨2,82,[.agg [.aa,.aa]],false⟩,⟨2,82,[PV.ay c2],false⟩)]
theorem oX{A:List (List Nat)}{l:Nat->Bool}{s i:Nat}(D:∀j,l j=true->∀k∈A.getD j [],l k=true)(h0:l i=false)(h:i∈A.getD s []):l s=false:=by
 cases e:l s with
 |false=>rfl
 |true=>rw[D s e i h]at h0;cases h0
theorem adR{hp:HP}{q:List Tm}:uK hp 1 [PV.ax q]:=fun p h=>by rw[KaB.1 h];exact⟨rfl,rfl⟩
theorem SJ{C:Ctx}{cs:List Cd}{args:List PV}{a0 a1 a2:Nat}{c0 c1 c2:Cd}(my:args[0]? =some (.int .i64 (a0:Nat)))(nt:(cs.map PV.ay)[a0]? =some (PV.ay c0))(s7:args[1]? =some (.int .i64 (a1:Nat)))(jZ:(cs.map PV.ay)[a1]? =some (PV.ay c1))(jY:args[2]? =some (.int .i64 (a2:Nat)))(eG:(cs.map PV.ay)[a2]? =some (PV.ay c2)):∀(l:Nat->Bool)(i:Nat)(g:jF),uX[i]? =some g->l i=false->(∀k∈yA.getD i [],l k=true)->(∀j,l j=true->∀k∈yA.getD j [],l k=true)->
  ∀fr hp,cZ (yD cs args) (CW cs args a0 a1 a2 c0 c1 c2) (sB c0 c1 c2) l fr hp->fq C g.g g.o fr hp (fun fr hp=>∃aG au,Wk fr hp aG au/\cZ (yD cs args) (CW cs args a0 a1 a2 c0 c1 c2) (sB c0 c1 c2) (fun k=>k==i||l k) aG au):=by
 intro l i g hg h0 R D fr hp I
 match i,hg,h0,R with
 |0,hg,h0,R=>obtain rfl:=Kac hg;exact I.op (fun K=>congrArg (fun v=>K (ae fr 133 v) hp) (I.ch (s:=1) rfl)) rfl rfl rfl rfl
 |1,hg,h0,R=>obtain rfl:=Kac hg;exact I.op (fun K=>congrArg (fun v=>K (ae fr 134 v) hp) (I.ch (s:=5) rfl)) rfl rfl rfl rfl
 |2,hg,h0,R=>obtain rfl:=Kac hg;exact I.op (fun K=>by show aK 1 (fr 134) (.int .i64 (0:Nat)) 135 fr hp K=_;rw[I.at (s:=134) rfl (R 1 (by decide))];exact cf my) rfl rfl rfl rfl
 |3,hg,h0,R=>obtain rfl:=Kac hg;exact I.op (fun K=>by show bb 1 false (fr 135) 136 fr hp K=_;rw[I.at (s:=135) rfl (R 2 (by decide))];exact fb) rfl rfl rfl rfl
 |4,hg,h0,R=>obtain rfl:=Kac hg;exact I.op (fun K=>by show aK 2 (fr 133) (fr 136) 137 fr hp K=_;rw[I.at (s:=133) rfl (R 0 (by decide)),I.at (s:=136) rfl (R 3 (by decide))];exact cf nt) rfl rfl rfl rfl
 |5,hg,h0,R=>obtain rfl:=Kac hg;exact I.op (fun K=>by show bb 2 true (fr 137) 138 fr hp K=_;rw[I.at (s:=137) rfl (R 4 (by decide))];exact fc) rfl rfl rfl rfl
 |6,hg,h0,R=>obtain rfl:=Kac hg;exact I.op (fun K=>congrArg (fun v=>K (ae fr 139 v) hp) (I.ch (s:=1) rfl)) rfl rfl rfl rfl
 |7,hg,h0,R=>obtain rfl:=Kac hg;exact I.op (fun K=>congrArg (fun v=>K (ae fr 140 v) hp) (I.ch (s:=5) rfl)) rfl rfl rfl rfl
 |8,hg,h0,R=>obtain rfl:=Kac hg;exact I.op (fun K=>by show aK 1 (fr 140) (.int .i64 (1:Nat)) 141 fr hp K=_;rw[I.at (s:=140) rfl (R 7 (by decide))];exact cf s7) rfl rfl rfl rfl
 |9,hg,h0,R=>obtain rfl:=Kac hg;exact I.op (fun K=>by show bb 1 false (fr 141) 142 fr hp K=_;rw[I.at (s:=141) rfl (R 8 (by decide))];exact fb) rfl rfl rfl rfl
 |10,hg,h0,R=>obtain rfl:=Kac hg;exact I.op (fun K=>by show aK 2 (fr 139) (fr 142) 143 fr hp K=_;rw[I.at (s:=139) rfl (R 6 (by decide)),I.at (s:=142) rfl (R 9 (by decide))];exact cf jZ) rfl rfl rfl rfl
 |11,hg,h0,R=>obtain rfl:=Kac hg;exact I.op (fun K=>by show bb 2 true (fr 143) 144 fr hp K=_;rw[I.at (s:=143) rfl (R 10 (by decide))];exact fc) rfl rfl rfl rfl
 |12,hg,h0,R=>obtain rfl:=Kac hg;exact I.op (fun K=>congrArg (fun v=>K (ae fr 145 v) hp) (I.ch (s:=1) rfl)) rfl rfl rfl rfl
 |13,hg,h0,R=>obtain rfl:=Kac hg;exact I.op (fun K=>congrArg (fun v=>K (ae fr 146 v) hp) (I.ch (s:=5) rfl)) rfl rfl rfl rfl
 |14,hg,h0,R=>obtain rfl:=Kac hg;exact I.op (fun K=>by show aK 1 (fr 146) (.int .i64 (2:Nat)) 147 fr hp K=_;rw[I.at (s:=146) rfl (R 13 (by decide))];exact cf jY) rfl rfl rfl rfl
 |15,hg,h0,R=>obtain rfl:=Kac hg;exact I.op (fun K=>by show bb 1 false (fr 147) 148 fr hp K=_;rw[I.at (s:=147) rfl (R 14 (by decide))];exact fb) rfl rfl rfl rfl
 |16,hg,h0,R=>obtain rfl:=Kac hg;exact I.op (fun K=>by show aK 2 (fr 145) (fr 148) 149 fr hp K=_;rw[I.at (s:=145) rfl (R 12 (by decide)),I.at (s:=148) rfl (R 15 (by decide))];exact cf eG) rfl rfl rfl rfl
 |17,hg,h0,R=>obtain rfl:=Kac hg;exact I.op (fun K=>by show bb 2 true (fr 149) 150 fr hp K=_;rw[I.at (s:=149) rfl (R 16 (by decide))];exact fc) rfl rfl rfl rfl
 |18,hg,h0,R=>obtain rfl:=Kac hg;exact I.alloc (st:=21) ⟨rfl,by decide⟩ rfl rfl rfl rfl rfl (oX D h0 (by decide))
 |19,hg,h0,R=>obtain rfl:=Kac hg;exact I.alloc (st:=22) ⟨rfl,by decide⟩ rfl rfl rfl rfl rfl (oX D h0 (by decide))
 |20,hg,h0,R=>obtain rfl:=Kac hg;exact I.alloc (st:=23) ⟨rfl,by decide⟩ rfl rfl rfl rfl rfl (oX D h0 (by decide))
 |21,hg,h0,R=>obtain rfl:=Kac hg;exact I.st (β:=6) (a:=138) (al:=18) (I.at (s:=6) rfl (R 18 (by decide))) (I.at (s:=138) rfl (R 5 (by decide))) rfl (R 18 (by decide)) h0 rfl rfl rfl
 |22,hg,h0,R=>obtain rfl:=Kac hg;exact I.st (β:=7) (a:=144) (al:=19) (I.at (s:=7) rfl (R 19 (by decide))) (I.at (s:=144) rfl (R 11 (by decide))) rfl (R 19 (by decide)) h0 rfl rfl rfl
 |23,hg,h0,R=>obtain rfl:=Kac hg;exact I.st (β:=8) (a:=150) (al:=20) (I.at (s:=8) rfl (R 20 (by decide))) (I.at (s:=150) rfl (R 17 (by decide))) rfl (R 20 (by decide)) h0 rfl rfl rfl
 |i+24,hg,h0,R=>cases hg
def yw(cs:List Cd)(args:List PV):List (Nat×PV):=[(1,.sl 2 (cs.map PV.ay)),(5,.sl 1 args)]
def CX(cs:List Cd)(args:List PV)(a0 a1 a2 a3:Nat)(c0 c1 c2 c3:Cd):WT:=[(176,0,.sl 2 (cs.map PV.ay)),(177,1,.sl 1 args),(178,2,.pt [.int .i64 (a0:Nat)]),(179,3,.int .i64 (a0:Nat)),(180,4,.pt [PV.ax c0.1,PV.ax c0.2]),(181,5,PV.ay c0),(182,6,.sl 2 (cs.map PV.ay)),(183,7,.sl 1 args),(184,8,.pt [.int .i64 (a1:Nat)]),(185,9,.int .i64 (a1:Nat)),(186,10,.pt [PV.ax c1.1,PV.ax c1.2]),(187,11,PV.ay c1),(188,12,.sl 2 (cs.map PV.ay)),(189,13,.sl 1 args),(190,14,.pt [.int .i64 (a2:Nat)]),(191,15,.int .i64 (a2:Nat)),(192,16,.pt [PV.ax c2.1,PV.ax c2.2]),(193,17,PV.ay c2),(194,18,.sl 2 (cs.map PV.ay)),(195,19,.sl 1 args),(196,20,.pt [.int .i64 (a3:Nat)]),(197,21,.int .i64 (a3:Nat)),(198,22,.pt [PV.ax c3.1,PV.ax c3.2]),(199,23,PV.ay c3),(9,24,.mp 9 0 0),(10,25,.mp 10 0 0),(11,26,.mp 11 0 0),(12,27,.mp 12 0 0)]
def sE(c0 c1 c2 c3:Cd):WB:=[(9,24,28,⟨2,82,[.agg [.aa,.aa]],false⟩,⟨2,82,[PV.ay c0],false⟩),(10,25,29,⟨2,82,[.agg [.aa,.aa]],false⟩,⟨2,82,[PV.ay c1],false⟩),(11,26,30,⟨2,82,[.agg [.aa,.aa]],false⟩,⟨2,82,[PV.ay c2],false⟩),(12,27,31,⟨2,82,[.agg [.aa,.aa]],false⟩,⟨2,82,[PV.ay c3],false⟩)]
theorem SK{C:Ctx}{cs:List Cd}{args:List PV}{a0 a1 a2 a3:Nat}{c0 c1 c2 c3:Cd}(my:args[0]? =some (.int .i64 (a0:Nat)))(nt:(cs.map PV.ay)[a0]? =some (PV.ay c0))(s7:args[1]? =some (.int .i64 (a1:Nat)))(jZ:(cs.map PV.ay)[a1]? =some (PV.ay c1))(jY:args[2]? =some (.int .i64 (a2:Nat)))(eG:(cs.map PV.ay)[a2]? =some (PV.ay c2))(za:args[3]? =some (.int .i64 (a3:Nat)))(zc:(cs.map PV.ay)[a3]? =some (PV.ay c3)):∀(l:Nat->Bool)(i:Nat)(g:jF),uY[i]? =some g->l i=false->(∀k∈yB.getD i [],l k=true)->(∀j,l j=true->∀k∈yB.getD j [],l k=true)->
  ∀fr hp,cZ (yw cs args) (CX cs args a0 a1 a2 a3 c0 c1 c2 c3) (sE c0 c1 c2 c3) l fr hp->fq C g.g g.o fr hp (fun fr hp=>∃aG au,Wk fr hp aG au/\cZ (yw cs args) (CX cs args a0 a1 a2 a3 c0 c1 c2 c3) (sE c0 c1 c2 c3) (fun k=>k==i||l k) aG au):=by
 intro l i g hg h0 R D fr hp I
 match i,hg,h0,R with
 |0,hg,h0,R=>obtain rfl:=Kac hg;exact I.op (fun K=>congrArg (fun v=>K (ae fr 176 v) hp) (I.ch (s:=1) rfl)) rfl rfl rfl rfl
 |1,hg,h0,R=>obtain rfl:=Kac hg;exact I.op (fun K=>congrArg (fun v=>K (ae fr 177 v) hp) (I.ch (s:=5) rfl)) rfl rfl rfl rfl
 |2,hg,h0,R=>obtain rfl:=Kac hg;exact I.op (fun K=>by show aK 1 (fr 177) (.int .i64 (0:Nat)) 178 fr hp K=_;rw[I.at (s:=177) rfl (R 1 (by decide))];exact cf my) rfl rfl rfl rfl
 |3,hg,h0,R=>obtain rfl:=Kac hg;exact I.op (fun K=>by show bb 1 false (fr 178) 179 fr hp K=_;rw[I.at (s:=178) rfl (R 2 (by decide))];exact fb) rfl rfl rfl rfl
 |4,hg,h0,R=>obtain rfl:=Kac hg;exact I.op (fun K=>by show aK 2 (fr 176) (fr 179) 180 fr hp K=_;rw[I.at (s:=176) rfl (R 0 (by decide)),I.at (s:=179) rfl (R 3 (by decide))];exact cf nt) rfl rfl rfl rfl
 |5,hg,h0,R=>obtain rfl:=Kac hg;exact I.op (fun K=>by show bb 2 true (fr 180) 181 fr hp K=_;rw[I.at (s:=180) rfl (R 4 (by decide))];exact fc) rfl rfl rfl rfl
 |6,hg,h0,R=>obtain rfl:=Kac hg;exact I.op (fun K=>congrArg (fun v=>K (ae fr 182 v) hp) (I.ch (s:=1) rfl)) rfl rfl rfl rfl
 |7,hg,h0,R=>obtain rfl:=Kac hg;exact I.op (fun K=>congrArg (fun v=>K (ae fr 183 v) hp) (I.ch (s:=5) rfl)) rfl rfl rfl rfl
 |8,hg,h0,R=>obtain rfl:=Kac hg;exact I.op (fun K=>by show aK 1 (fr 183) (.int .i64 (1:Nat)) 184 fr hp K=_;rw[I.at (s:=183) rfl (R 7 (by decide))];exact cf s7) rfl rfl rfl rfl
 |9,hg,h0,R=>obtain rfl:=Kac hg;exact I.op (fun K=>by show bb 1 false (fr 184) 185 fr hp K=_;rw[I.at (s:=184) rfl (R 8 (by decide))];exact fb) rfl rfl rfl rfl
 |10,hg,h0,R=>obtain rfl:=Kac hg;exact I.op (fun K=>by show aK 2 (fr 182) (fr 185) 186 fr hp K=_;rw[I.at (s:=182) rfl (R 6 (by decide)),I.at (s:=185) rfl (R 9 (by decide))];exact cf jZ) rfl rfl rfl rfl
 |11,hg,h0,R=>obtain rfl:=Kac hg;exact I.op (fun K=>by show bb 2 true (fr 186) 187 fr hp K=_;rw[I.at (s:=186) rfl (R 10 (by decide))];exact fc) rfl rfl rfl rfl
 |12,hg,h0,R=>obtain rfl:=Kac hg;exact I.op (fun K=>congrArg (fun v=>K (ae fr 188 v) hp) (I.ch (s:=1) rfl)) rfl rfl rfl rfl
 |13,hg,h0,R=>obtain rfl:=Kac hg;exact I.op (fun K=>congrArg (fun v=>K (ae fr 189 v) hp) (I.ch (s:=5) rfl)) rfl rfl rfl rfl
 |14,hg,h0,R=>obtain rfl:=Kac hg;exact I.op (fun K=>by show aK 1 (fr 189) (.int .i64 (2:Nat)) 190 fr hp K=_;rw[I.at (s:=189) rfl (R 13 (by decide))];exact cf jY) rfl rfl rfl rfl
 |15,hg,h0,R=>obtain rfl:=Kac hg;exact I.op (fun K=>by show bb 1 false (fr 190) 191 fr hp K=_;rw[I.at (s:=190) rfl (R 14 (by decide))];exact fb) rfl rfl rfl rfl
 |16,hg,h0,R=>obtain rfl:=Kac hg;exact I.op (fun K=>by show aK 2 (fr 188) (fr 191) 192 fr hp K=_;rw[I.at (s:=188) rfl (R 12 (by decide)),I.at (s:=191) rfl (R 15 (by decide))];exact cf eG) rfl rfl rfl rfl
 |17,hg,h0,R=>obtain rfl:=Kac hg;exact I.op (fun K=>by show bb 2 true (fr 192) 193 fr hp K=_;rw[I.at (s:=192) rfl (R 16 (by decide))];exact fc) rfl rfl rfl rfl
 |18,hg,h0,R=>obtain rfl:=Kac hg;exact I.op (fun K=>congrArg (fun v=>K (ae fr 194 v) hp) (I.ch (s:=1) rfl)) rfl rfl rfl rfl
 |19,hg,h0,R=>obtain rfl:=Kac hg;exact I.op (fun K=>congrArg (fun v=>K (ae fr 195 v) hp) (I.ch (s:=5) rfl)) rfl rfl rfl rfl
 |20,hg,h0,R=>obtain rfl:=Kac hg;exact I.op (fun K=>by show aK 1 (fr 195) (.int .i64 (3:Nat)) 196 fr hp K=_;rw[I.at (s:=195) rfl (R 19 (by decide))];exact cf za) rfl rfl rfl rfl
 |21,hg,h0,R=>obtain rfl:=Kac hg;exact I.op (fun K=>by show bb 1 false (fr 196) 197 fr hp K=_;rw[I.at (s:=196) rfl (R 20 (by decide))];exact fb) rfl rfl rfl rfl
 |22,hg,h0,R=>obtain rfl:=Kac hg;exact I.op (fun K=>by show aK 2 (fr 194) (fr 197) 198 fr hp K=_;rw[I.at (s:=194) rfl (R 18 (by decide)),I.at (s:=197) rfl (R 21 (by decide))];exact cf zc) rfl rfl rfl rfl
 |23,hg,h0,R=>obtain rfl:=Kac hg;exact I.op (fun K=>by show bb 2 true (fr 198) 199 fr hp K=_;rw[I.at (s:=198) rfl (R 22 (by decide))];exact fc) rfl rfl rfl rfl
 |24,hg,h0,R=>obtain rfl:=Kac hg;exact I.alloc (st:=28) ⟨rfl,by decide⟩ rfl rfl rfl rfl rfl (oX D h0 (by decide))
 |25,hg,h0,R=>obtain rfl:=Kac hg;exact I.alloc (st:=29) ⟨rfl,by decide⟩ rfl rfl rfl rfl rfl (oX D h0 (by decide))
 |26,hg,h0,R=>obtain rfl:=Kac hg;exact I.alloc (st:=30) ⟨rfl,by decide⟩ rfl rfl rfl rfl rfl (oX D h0 (by decide))
 |27,hg,h0,R=>obtain rfl:=Kac hg;exact I.alloc (st:=31) ⟨rfl,by decide⟩ rfl rfl rfl rfl rfl (oX D h0 (by decide))
 |28,hg,h0,R=>obtain rfl:=Kac hg;exact I.st (β:=9) (a:=181) (al:=24) (I.at (s:=9) rfl (R 24 (by decide))) (I.at (s:=181) rfl (R 5 (by decide))) rfl (R 24 (by decide)) h0 rfl rfl rfl
 |29,hg,h0,R=>obtain rfl:=Kac hg;exact I.st (β:=10) (a:=187) (al:=25) (I.at (s:=10) rfl (R 25 (by decide))) (I.at (s:=187) rfl (R 11 (by decide))) rfl (R 25 (by decide)) h0 rfl rfl rfl
 |30,hg,h0,R=>obtain rfl:=Kac hg;exact I.st (β:=11) (a:=193) (al:=26) (I.at (s:=11) rfl (R 26 (by decide))) (I.at (s:=193) rfl (R 17 (by decide))) rfl (R 26 (by decide)) h0 rfl rfl rfl
 |31,hg,h0,R=>obtain rfl:=Kac hg;exact I.st (β:=12) (a:=199) (al:=27) (I.at (s:=12) rfl (R 27 (by decide))) (I.at (s:=199) rfl (R 23 (by decide))) rfl (R 27 (by decide)) h0 rfl rfl rfl
 |i+32,hg,h0,R=>cases hg
def yx(cs:List Cd)(args:List PV):List (Nat×PV):=[(1,.sl 2 (cs.map PV.ay)),(5,.sl 1 args)]
def CY(cs:List Cd)(args:List PV)(a0 a1 a2 a3 a4 a5 a6 a7:Nat)(c0 c1 c2 c3 c4 c5 c6 c7:Cd)(q0 q1 q2 q3 q4:List Tm):WT:=[(224,0,.sl 2 (cs.map PV.ay)),(225,1,.sl 1 args),(226,2,.pt [.int .i64 (a0:Nat)]),(227,3,.int .i64 (a0:Nat)),(228,4,.pt [PV.ax c0.1,PV.ax c0.2]),(229,5,PV.ay c0),(230,6,.sl 2 (cs.map PV.ay)),(231,7,.sl 1 args),(232,8,.pt [.int .i64 (a1:Nat)]),(233,9,.int .i64 (a1:Nat)),(234,10,.pt [PV.ax c1.1,PV.ax c1.2]),(235,11,PV.ay c1),(236,12,.sl 2 (cs.map PV.ay)),(237,13,.sl 1 args),(238,14,.pt [.int .i64 (a2:Nat)]),(239,15,.int .i64 (a2:Nat)),(240,16,.pt [PV.ax c2.1,PV.ax c2.2]),(241,17,PV.ay c2),(242,18,.sl 2 (cs.map PV.ay)),(243,19,.sl 1 args),(244,20,.pt [.int .i64 (a3:Nat)]),(245,21,.int .i64 (a3:Nat)),(246,22,.pt [PV.ax c3.1,PV.ax c3.2]),(247,23,PV.ay c3),(248,24,PV.ax q0),(249,25,.sl 2 (cs.map PV.ay)),(250,26,.sl 1 args),(251,27,.pt [.int .i64 (a0:Nat)]),(252,28,.int .i64 (a0:Nat)),(253,29,.pt [PV.ax c0.1,PV.ax c0.2]),(254,30,PV.ay c0),(255,31,.sl 2 (cs.map PV.ay)),(256,32,.sl 1 args),(257,33,.pt [.int .i64 (a1:Nat)]),(258,34,.int .i64 (a1:Nat)),(259,35,.pt [PV.ax c1.1,PV.ax c1.2]),(260,36,PV.ay c1),(261,37,.sl 2 (cs.map PV.ay)),(262,38,.sl 1 args),(263,39,.pt [.int .i64 (a2:Nat)]),(264,40,.int .i64 (a2:Nat)),(265,41,.pt [PV.ax c2.1,PV.ax c2.2]),(266,42,PV.ay c2),(267,43,.sl 2 (cs.map PV.ay)),(268,44,.sl 1 args),(269,45,.pt [.int .i64 (a3:Nat)]),(270,46,.int .i64 (a3:Nat)),(271,47,.pt [PV.ax c3.1,PV.ax c3.2]),(272,48,PV.ay c3),(273,49,PV.ax q1),(274,50,.sl 2 (cs.map PV.ay)),(275,51,.sl 1 args),(276,52,.pt [.int .i64 (a4:Nat)]),(277,53,.int .i64 (a4:Nat)),(278,54,.pt [PV.ax c4.1,PV.ax c4.2]),(279,55,PV.ay c4),(280,56,.sl 2 (cs.map PV.ay)),(281,57,.sl 1 args),(282,58,.pt [.int .i64 (a5:Nat)]),(283,59,.int .i64 (a5:Nat)),(284,60,.pt [PV.ax c5.1,PV.ax c5.2]),(285,61,PV.ay c5),(286,62,.sl 2 (cs.map PV.ay)),(287,63,.sl 1 args),(288,64,.pt [.int .i64 (a6:Nat)]),(289,65,.int .i64 (a6:Nat)),(290,66,.pt [PV.ax c6.1,PV.ax c6.2]),(291,67,PV.ay c6),(292,68,.sl 2 (cs.map PV.ay)),(293,69,.sl 1 args),(294,70,.pt [.int .i64 (a7:Nat)]),(295,71,.int .i64 (a7:Nat)),(296,72,.pt [PV.ax c7.1,PV.ax c7.2]),(297,73,PV.ay c7),(298,74,PV.ax q2),(299,75,.sl 2 (cs.map PV.ay)),(300,76,.sl 1 args),(301,77,.pt [.int .i64 (a4:Nat)]),(302,78,.int .i64 (a4:Nat)),(303,79,.pt [PV.ax c4.1,PV.ax c4.2]),(304,80,PV.ay c4),(305,81,.sl 2 (cs.map PV.ay)),(306,82,.sl 1 args),(307,83,.pt [.int .i64 (a5:Nat)]),(308,84,.int .i64 (a5:Nat)),(309,85,.pt [PV.ax c5.1,PV.ax c5.2]),(310,86,PV.ay c5),(311,87,.sl 2 (cs.map PV.ay)),(312,88,.sl 1 args),(313,89,.pt [.int .i64 (a6:Nat)]),(314,90,.int .i64 (a6:Nat)),(315,91,.pt [PV.ax c6.1,PV.ax c6.2]),(316,92,PV.ay c6),(317,93,.sl 2 (cs.map PV.ay)),(318,94,.sl 1 args),(319,95,.pt [.int .i64 (a7:Nat)]),(320,96,.int .i64 (a7:Nat)),(321,97,.pt [PV.ax c7.1,PV.ax c7.2]),(322,98,PV.ay c7),(323,99,PV.ax q3),(324,100,PV.ax q4),(325,101,.aq 325 0 1),(4,102,.aq 325 0 1)]
def CZ(c0 c1 c2 c3 c4 c5 c6 c7:Cd)(q0 q1 q2 q3 q4:List Tm):WB:=[(325,101,101,⟨1,51,[PV.ax q4],false⟩,⟨1,51,[PV.ax q4],false⟩)]
theorem SL{C:Ctx}{cs:List Cd}{args:List PV}{a0 a1 a2 a3 a4 a5 a6 a7:Nat}{c0 c1 c2 c3 c4 c5 c6 c7:Cd}{q0 q1 q2 q3 q4:List Tm}(my:args[0]? =some (.int .i64 (a0:Nat)))(nt:(cs.map PV.ay)[a0]? =some (PV.ay c0))(s7:args[1]? =some (.int .i64 (a1:Nat)))(jZ:(cs.map PV.ay)[a1]? =some (PV.ay c1))(jY:args[2]? =some (.int .i64 (a2:Nat)))(eG:(cs.map PV.ay)[a2]? =some (PV.ay c2))(za:args[3]? =some (.int .i64 (a3:Nat)))(zc:(cs.map PV.ay)[a3]? =some (PV.ay c3))(Lv:args[4]? =some (.int .i64 (a4:Nat)))(LI:(cs.map PV.ay)[a4]? =some (PV.ay c4))(Lw:args[5]? =some (.int .i64 (a5:Nat)))(LJ:(cs.map PV.ay)[a5]? =some (PV.ay c5))(Lx:args[6]? =some (.int .i64 (a6:Nat)))(LK:(cs.map PV.ay)[a6]? =some (PV.ay c6))(Ly:args[7]? =some (.int .i64 (a7:Nat)))(LL:(cs.map PV.ay)[a7]? =some (PV.ay c7))(hP:C.P=Tryz.prog)(w0:Qd Tryz.prog 69 [PV.ay c0,PV.ay c1,PV.ay c2,PV.ay c3] (· =PV.ax q0))(w1:Qd Tryz.prog 70 [PV.ay c0,PV.ay c1,PV.ay c2,PV.ay c3] (· =PV.ax q1))(w2:Qd Tryz.prog 69 [PV.ay c4,PV.ay c5,PV.ay c6,PV.ay c7] (· =PV.ax q2))(w3:Qd Tryz.prog 70 [PV.ay c4,PV.ay c5,PV.ay c6,PV.ay c7] (· =PV.ax q3))(w4:Qd Tryz.prog 73 [PV.ax q0,PV.ax q1,PV.ax q2,PV.ax q3] (· =PV.ax q4)):∀(l:Nat->Bool)(i:Nat)(g:jF),CS[i]? =some g->l i=false->(∀k∈yC.getD i [],l k=true)->(∀j,l j=true->∀k∈yC.getD j [],l k=true)->
  ∀fr hp,cZ (yx cs args) (CY cs args a0 a1 a2 a3 a4 a5 a6 a7 c0 c1 c2 c3 c4 c5 c6 c7 q0 q1 q2 q3 q4) (CZ c0 c1 c2 c3 c4 c5 c6 c7 q0 q1 q2 q3 q4) l fr hp->fq C g.g g.o fr hp (fun fr hp=>∃aG au,Wk fr hp aG au/\cZ (yx cs args) (CY cs args a0 a1 a2 a3 a4 a5 a6 a7 c0 c1 c2 c3 c4 c5 c6 c7 q0 q1 q2 q3 q4) (CZ c0 c1 c2 c3 c4 c5 c6 c7 q0 q1 q2 q3 q4) (fun k=>k==i||l k) aG au):=by
 intro l i g hg h0 R D fr hp I
 match i,hg,h0,R with
 |0,hg,h0,R=>obtain rfl:=Kac hg;exact I.op (fun K=>congrArg (fun v=>K (ae fr 224 v) hp) (I.ch (s:=1) rfl)) rfl rfl rfl rfl
 |1,hg,h0,R=>obtain rfl:=Kac hg;exact I.op (fun K=>congrArg (fun v=>K (ae fr 225 v) hp) (I.ch (s:=5) rfl)) rfl rfl rfl rfl
 |2,hg,h0,R=>obtain rfl:=Kac hg;exact I.op (fun K=>by show aK 1 (fr 225) (.int .i64 (0:Nat)) 226 fr hp K=_;rw[I.at (s:=225) rfl (R 1 (by decide))];exact cf my) rfl rfl rfl rfl
 |3,hg,h0,R=>obtain rfl:=Kac hg;exact I.op (fun K=>by show bb 1 false (fr 226) 227 fr hp K=_;rw[I.at (s:=226) rfl (R 2 (by decide))];exact fb) rfl rfl rfl rfl
 |4,hg,h0,R=>obtain rfl:=Kac hg;exact I.op (fun K=>by show aK 2 (fr 224) (fr 227) 228 fr hp K=_;rw[I.at (s:=224) rfl (R 0 (by decide)),I.at (s:=227) rfl (R 3 (by decide))];exact cf nt) rfl rfl rfl rfl
 |5,hg,h0,R=>obtain rfl:=Kac hg;exact I.op (fun K=>by show bb 2 true (fr 228) 229 fr hp K=_;rw[I.at (s:=228) rfl (R 4 (by decide))];exact fc) rfl rfl rfl rfl
 |6,hg,h0,R=>obtain rfl:=Kac hg;exact I.op (fun K=>congrArg (fun v=>K (ae fr 230 v) hp) (I.ch (s:=1) rfl)) rfl rfl rfl rfl
 |7,hg,h0,R=>obtain rfl:=Kac hg;exact I.op (fun K=>congrArg (fun v=>K (ae fr 231 v) hp) (I.ch (s:=5) rfl)) rfl rfl rfl rfl
 |8,hg,h0,R=>obtain rfl:=Kac hg;exact I.op (fun K=>by show aK 1 (fr 231) (.int .i64 (1:Nat)) 232 fr hp K=_;rw[I.at (s:=231) rfl (R 7 (by decide))];exact cf s7) rfl rfl rfl rfl
 |9,hg,h0,R=>obtain rfl:=Kac hg;exact I.op (fun K=>by show bb 1 false (fr 232) 233 fr hp K=_;rw[I.at (s:=232) rfl (R 8 (by decide))];exact fb) rfl rfl rfl rfl
 |10,hg,h0,R=>obtain rfl:=Kac hg;exact I.op (fun K=>by show aK 2 (fr 230) (fr 233) 234 fr hp K=_;rw[I.at (s:=230) rfl (R 6 (by decide)),I.at (s:=233) rfl (R 9 (by decide))];exact cf jZ) rfl rfl rfl rfl
 |11,hg,h0,R=>obtain rfl:=Kac hg;exact I.op (fun K=>by show bb 2 true (fr 234) 235 fr hp K=_;rw[I.at (s:=234) rfl (R 10 (by decide))];exact fc) rfl rfl rfl rfl
 |12,hg,h0,R=>obtain rfl:=Kac hg;exact I.op (fun K=>congrArg (fun v=>K (ae fr 236 v) hp) (I.ch (s:=1) rfl)) rfl rfl rfl rfl
 |13,hg,h0,R=>obtain rfl:=Kac hg;exact I.op (fun K=>congrArg (fun v=>K (ae fr 237 v) hp) (I.ch (s:=5) rfl)) rfl rfl rfl rfl
 |14,hg,h0,R=>obtain rfl:=Kac hg;exact I.op (fun K=>by show aK 1 (fr 237) (.int .i64 (2:Nat)) 238 fr hp K=_;rw[I.at (s:=237) rfl (R 13 (by decide))];exact cf jY) rfl rfl rfl rfl
 |15,hg,h0,R=>obtain rfl:=Kac hg;exact I.op (fun K=>by show bb 1 false (fr 238) 239 fr hp K=_;rw[I.at (s:=238) rfl (R 14 (by decide))];exact fb) rfl rfl rfl rfl
 |16,hg,h0,R=>obtain rfl:=Kac hg;exact I.op (fun K=>by show aK 2 (fr 236) (fr 239) 240 fr hp K=_;rw[I.at (s:=236) rfl (R 12 (by decide)),I.at (s:=239) rfl (R 15 (by decide))];exact cf eG) rfl rfl rfl rfl
 |17,hg,h0,R=>obtain rfl:=Kac hg;exact I.op (fun K=>by show bb 2 true (fr 240) 241 fr hp K=_;rw[I.at (s:=240) rfl (R 16 (by decide))];exact fc) rfl rfl rfl rfl
 |18,hg,h0,R=>obtain rfl:=Kac hg;exact I.op (fun K=>congrArg (fun v=>K (ae fr 242 v) hp) (I.ch (s:=1) rfl)) rfl rfl rfl rfl
 |19,hg,h0,R=>obtain rfl:=Kac hg;exact I.op (fun K=>congrArg (fun v=>K (ae fr 243 v) hp) (I.ch (s:=5) rfl)) rfl rfl rfl rfl
 |20,hg,h0,R=>obtain rfl:=Kac hg;exact I.op (fun K=>by show aK 1 (fr 243) (.int .i64 (3:Nat)) 244 fr hp K=_;rw[I.at (s:=243) rfl (R 19 (by decide))];exact cf za) rfl rfl rfl rfl
 |21,hg,h0,R=>obtain rfl:=Kac hg;exact I.op (fun K=>by show bb 1 false (fr 244) 245 fr hp K=_;rw[I.at (s:=244) rfl (R 20 (by decide))];exact fb) rfl rfl rfl rfl
 |22,hg,h0,R=>obtain rfl:=Kac hg;exact I.op (fun K=>by show aK 2 (fr 242) (fr 245) 246 fr hp K=_;rw[I.at (s:=242) rfl (R 18 (by decide)),I.at (s:=245) rfl (R 21 (by decide))];exact cf zc) rfl rfl rfl rfl
 |23,hg,h0,R=>obtain rfl:=Kac hg;exact I.op (fun K=>by show bb 2 true (fr 246) 247 fr hp K=_;rw[I.at (s:=246) rfl (R 22 (by decide))];exact fc) rfl rfl rfl rfl
 |24,hg,h0,R=>obtain rfl:=Kac hg;exact I.vv hP w0 (by show [fr 229,fr 235,fr 241,fr 247]=_;rw[I.at (s:=229) rfl (R 5 (by decide)),I.at (s:=235) rfl (R 11 (by decide)),I.at (s:=241) rfl (R 17 (by decide)),I.at (s:=247) rfl (R 23 (by decide))]) rfl rfl rfl rfl rfl rfl rfl
 |25,hg,h0,R=>obtain rfl:=Kac hg;exact I.op (fun K=>congrArg (fun v=>K (ae fr 249 v) hp) (I.ch (s:=1) rfl)) rfl rfl rfl rfl
 |26,hg,h0,R=>obtain rfl:=Kac hg;exact I.op (fun K=>congrArg (fun v=>K (ae fr 250 v) hp) (I.ch (s:=5) rfl)) rfl rfl rfl rfl
 |27,hg,h0,R=>obtain rfl:=Kac hg;exact I.op (fun K=>by show aK 1 (fr 250) (.int .i64 (0:Nat)) 251 fr hp K=_;rw[I.at (s:=250) rfl (R 26 (by decide))];exact cf my) rfl rfl rfl rfl
 |28,hg,h0,R=>obtain rfl:=Kac hg;exact I.op (fun K=>by show bb 1 false (fr 251) 252 fr hp K=_;rw[I.at (s:=251) rfl (R 27 (by decide))];exact fb) rfl rfl rfl rfl
 |29,hg,h0,R=>obtain rfl:=Kac hg;exact I.op (fun K=>by show aK 2 (fr 249) (fr 252) 253 fr hp K=_;rw[I.at (s:=249) rfl (R 25 (by decide)),I.at (s:=252) rfl (R 28 (by decide))];exact cf nt) rfl rfl rfl rfl
 |30,hg,h0,R=>obtain rfl:=Kac hg;exact I.op (fun K=>by show bb 2 true (fr 253) 254 fr hp K=_;rw[I.at (s:=253) rfl (R 29 (by decide))];exact fc) rfl rfl rfl rfl
 |31,hg,h0,R=>obtain rfl:=Kac hg;exact I.op (fun K=>congrArg (fun v=>K (ae fr 255 v) hp) (I.ch (s:=1) rfl)) rfl rfl rfl rfl
 |32,hg,h0,R=>obtain rfl:=Kac hg;exact I.op (fun K=>congrArg (fun v=>K (ae fr 256 v) hp) (I.ch (s:=5) rfl)) rfl rfl rfl rfl
 |33,hg,h0,R=>obtain rfl:=Kac hg;exact I.op (fun K=>by show aK 1 (fr 256) (.int .i64 (1:Nat)) 257 fr hp K=_;rw[I.at (s:=256) rfl (R 32 (by decide))];exact cf s7) rfl rfl rfl rfl
 |34,hg,h0,R=>obtain rfl:=Kac hg;exact I.op (fun K=>by show bb 1 false (fr 257) 258 fr hp K=_;rw[I.at (s:=257) rfl (R 33 (by decide))];exact fb) rfl rfl rfl rfl
 |35,hg,h0,R=>obtain rfl:=Kac hg;exact I.op (fun K=>by show aK 2 (fr 255) (fr 258) 259 fr hp K=_;rw[I.at (s:=255) rfl (R 31 (by decide)),I.at (s:=258) rfl (R 34 (by decide))];exact cf jZ) rfl rfl rfl rfl
 |36,hg,h0,R=>obtain rfl:=Kac hg;exact I.op (fun K=>by show bb 2 true (fr 259) 260 fr hp K=_;rw[I.at (s:=259) rfl (R 35 (by decide))];exact fc) rfl rfl rfl rfl
 |37,hg,h0,R=>obtain rfl:=Kac hg;exact I.op (fun K=>congrArg (fun v=>K (ae fr 261 v) hp) (I.ch (s:=1) rfl)) rfl rfl rfl rfl
 |38,hg,h0,R=>obtain rfl:=Kac hg;exact I.op (fun K=>congrArg (fun v=>K (ae fr 262 v) hp) (I.ch (s:=5) rfl)) rfl rfl rfl rfl
 |39,hg,h0,R=>obtain rfl:=Kac hg;exact I.op (fun K=>by show aK 1 (fr 262) (.int .i64 (2:Nat)) 263 fr hp K=_;rw[I.at (s:=262) rfl (R 38 (by decide))];exact cf jY) rfl rfl rfl rfl
 |40,hg,h0,R=>obtain rfl:=Kac hg;exact I.op (fun K=>by show bb 1 false (fr 263) 264 fr hp K=_;rw[I.at (s:=263) rfl (R 39 (by decide))];exact fb) rfl rfl rfl rfl
 |41,hg,h0,R=>obtain rfl:=Kac hg;exact I.op (fun K=>by show aK 2 (fr 261) (fr 264) 265 fr hp K=_;rw[I.at (s:=261) rfl (R 37 (by decide)),I.at (s:=264) rfl (R 40 (by decide))];exact cf eG) rfl rfl rfl rfl
 |42,hg,h0,R=>obtain rfl:=Kac hg;exact I.op (fun K=>by show bb 2 true (fr 265) 266 fr hp K=_;rw[I.at (s:=265) rfl (R 41 (by decide))];exact fc) rfl rfl rfl rfl
 |43,hg,h0,R=>obtain rfl:=Kac hg;exact I.op (fun K=>congrArg (fun v=>K (ae fr 267 v) hp) (I.ch (s:=1) rfl)) rfl rfl rfl rfl
 |44,hg,h0,R=>obtain rfl:=Kac hg;exact I.op (fun K=>congrArg (fun v=>K (ae fr 268 v) hp) (I.ch (s:=5) rfl)) rfl rfl rfl rfl
 |45,hg,h0,R=>obtain rfl:=Kac hg;exact I.op (fun K=>by show aK 1 (fr 268) (.int .i64 (3:Nat)) 269 fr hp K=_;rw[I.at (s:=268) rfl (R 44 (by decide))];exact cf za) rfl rfl rfl rfl
 |46,hg,h0,R=>obtain rfl:=Kac hg;exact I.op (fun K=>by show bb 1 false (fr 269) 270 fr hp K=_;rw[I.at (s:=269) rfl (R 45 (by decide))];exact fb) rfl rfl rfl rfl
 |47,hg,h0,R=>obtain rfl:=Kac hg;exact I.op (fun K=>by show aK 2 (fr 267) (fr 270) 271 fr hp K=_;rw[I.at (s:=267) rfl (R 43 (by decide)),I.at (s:=270) rfl (R 46 (by decide))];exact cf zc) rfl rfl rfl rfl
 |48,hg,h0,R=>obtain rfl:=Kac hg;exact I.op (fun K=>by show bb 2 true (fr 271) 272 fr hp K=_;rw[I.at (s:=271) rfl (R 47 (by decide))];exact fc) rfl rfl rfl rfl
 |49,hg,h0,R=>obtain rfl:=Kac hg;exact I.vv hP w1 (by show [fr 254,fr 260,fr 266,fr 272]=_;rw[I.at (s:=254) rfl (R 30 (by decide)),I.at (s:=260) rfl (R 36 (by decide)),I.at (s:=266) rfl (R 42 (by decide)),I.at (s:=272) rfl (R 48 (by decide))]) rfl rfl rfl rfl rfl rfl rfl
 |50,hg,h0,R=>obtain rfl:=Kac hg;exact I.op (fun K=>congrArg (fun v=>K (ae fr 274 v) hp) (I.ch (s:=1) rfl)) rfl rfl rfl rfl
 |51,hg,h0,R=>obtain rfl:=Kac hg;exact I.op (fun K=>congrArg (fun v=>K (ae fr 275 v) hp) (I.ch (s:=5) rfl)) rfl rfl rfl rfl
 |52,hg,h0,R=>obtain rfl:=Kac hg;exact I.op (fun K=>by show aK 1 (fr 275) (.int .i64 (4:Nat)) 276 fr hp K=_;rw[I.at (s:=275) rfl (R 51 (by decide))];exact cf Lv) rfl rfl rfl rfl
 |53,hg,h0,R=>obtain rfl:=Kac hg;exact I.op (fun K=>by show bb 1 false (fr 276) 277 fr hp K=_;rw[I.at (s:=276) rfl (R 52 (by decide))];exact fb) rfl rfl rfl rfl
 |54,hg,h0,R=>obtain rfl:=Kac hg;exact I.op (fun K=>by show aK 2 (fr 274) (fr 277) 278 fr hp K=_;rw[I.at (s:=274) rfl (R 50 (by decide)),I.at (s:=277) rfl (R 53 (by decide))];exact cf LI) rfl rfl rfl rfl
 |55,hg,h0,R=>obtain rfl:=Kac hg;exact I.op (fun K=>by show bb 2 true (fr 278) 279 fr hp K=_;rw[I.at (s:=278) rfl (R 54 (by decide))];exact fc) rfl rfl rfl rfl
 |56,hg,h0,R=>obtain rfl:=Kac hg;exact I.op (fun K=>congrArg (fun v=>K (ae fr 280 v) hp) (I.ch (s:=1) rfl)) rfl rfl rfl rfl
 |57,hg,h0,R=>obtain rfl:=Kac hg;exact I.op (fun K=>congrArg (fun v=>K (ae fr 281 v) hp) (I.ch (s:=5) rfl)) rfl rfl rfl rfl
 |58,hg,h0,R=>obtain rfl:=Kac hg;exact I.op (fun K=>by show aK 1 (fr 281) (.int .i64 (5:Nat)) 282 fr hp K=_;rw[I.at (s:=281) rfl (R 57 (by decide))];exact cf Lw) rfl rfl rfl rfl
 |59,hg,h0,R=>obtain rfl:=Kac hg;exact I.op (fun K=>by show bb 1 false (fr 282) 283 fr hp K=_;rw[I.at (s:=282) rfl (R 58 (by decide))];exact fb) rfl rfl rfl rfl
 |60,hg,h0,R=>obtain rfl:=Kac hg;exact I.op (fun K=>by show aK 2 (fr 280) (fr 283) 284 fr hp K=_;rw[I.at (s:=280) rfl (R 56 (by decide)),I.at (s:=283) rfl (R 59 (by decide))];exact cf LJ) rfl rfl rfl rfl
 |61,hg,h0,R=>obtain rfl:=Kac hg;exact I.op (fun K=>by show bb 2 true (fr 284) 285 fr hp K=_;rw[I.at (s:=284) rfl (R 60 (by decide))];exact fc) rfl rfl rfl rfl
 |62,hg,h0,R=>obtain rfl:=Kac hg;exact I.op (fun K=>congrArg (fun v=>K (ae fr 286 v) hp) (I.ch (s:=1) rfl)) rfl rfl rfl rfl
 |63,hg,h0,R=>obtain rfl:=Kac hg;exact I.op (fun K=>congrArg (fun v=>K (ae fr 287 v) hp) (I.ch (s:=5) rfl)) rfl rfl rfl rfl
 |64,hg,h0,R=>obtain rfl:=Kac hg;exact I.op (fun K=>by show aK 1 (fr 287) (.int .i64 (6:Nat)) 288 fr hp K=_;rw[I.at (s:=287) rfl (R 63 (by decide))];exact cf Lx) rfl rfl rfl rfl
 |65,hg,h0,R=>obtain rfl:=Kac hg;exact I.op (fun K=>by show bb 1 false (fr 288) 289 fr hp K=_;rw[I.at (s:=288) rfl (R 64 (by decide))];exact fb) rfl rfl rfl rfl
 |66,hg,h0,R=>obtain rfl:=Kac hg;exact I.op (fun K=>by show aK 2 (fr 286) (fr 289) 290 fr hp K=_;rw[I.at (s:=286) rfl (R 62 (by decide)),I.at (s:=289) rfl (R 65 (by decide))];exact cf LK) rfl rfl rfl rfl
 |67,hg,h0,R=>obtain rfl:=Kac hg;exact I.op (fun K=>by show bb 2 true (fr 290) 291 fr hp K=_;rw[I.at (s:=290) rfl (R 66 (by decide))];exact fc) rfl rfl rfl rfl
 |68,hg,h0,R=>obtain rfl:=Kac hg;exact I.op (fun K=>congrArg (fun v=>K (ae fr 292 v) hp) (I.ch (s:=1) rfl)) rfl rfl rfl rfl
 |69,hg,h0,R=>obtain rfl:=Kac hg;exact I.op (fun K=>congrArg (fun v=>K (ae fr 293 v) hp) (I.ch (s:=5) rfl)) rfl rfl rfl rfl
 |70,hg,h0,R=>obtain rfl:=Kac hg;exact I.op (fun K=>by show aK 1 (fr 293) (.int .i64 (7:Nat)) 294 fr hp K=_;rw[I.at (s:=293) rfl (R 69 (by decide))];exact cf Ly) rfl rfl rfl rfl
 |71,hg,h0,R=>obtain rfl:=Kac hg;exact I.op (fun K=>by show bb 1 false (fr 294) 295 fr hp K=_;rw[I.at (s:=294) rfl (R 70 (by decide))];exact fb) rfl rfl rfl rfl
 |72,hg,h0,R=>obtain rfl:=Kac hg;exact I.op (fun K=>by show aK 2 (fr 292) (fr 295) 296 fr hp K=_;rw[I.at (s:=292) rfl (R 68 (by decide)),I.at (s:=295) rfl (R 71 (by decide))];exact cf LL) rfl rfl rfl rfl
 |73,hg,h0,R=>obtain rfl:=Kac hg;exact I.op (fun K=>by show bb 2 true (fr 296) 297 fr hp K=_;rw[I.at (s:=296) rfl (R 72 (by decide))];exact fc) rfl rfl rfl rfl
 |74,hg,h0,R=>obtain rfl:=Kac hg;exact I.vv hP w2 (by show [fr 279,fr 285,fr 291,fr 297]=_;rw[I.at (s:=279) rfl (R 55 (by decide)),I.at (s:=285) rfl (R 61 (by decide)),I.at (s:=291) rfl (R 67 (by decide)),I.at (s:=297) rfl (R 73 (by decide))]) rfl rfl rfl rfl rfl rfl rfl
 |75,hg,h0,R=>obtain rfl:=Kac hg;exact I.op (fun K=>congrArg (fun v=>K (ae fr 299 v) hp) (I.ch (s:=1) rfl)) rfl rfl rfl rfl
 |76,hg,h0,R=>obtain rfl:=Kac hg;exact I.op (fun K=>congrArg (fun v=>K (ae fr 300 v) hp) (I.ch (s:=5) rfl)) rfl rfl rfl rfl
 |77,hg,h0,R=>obtain rfl:=Kac hg;exact I.op (fun K=>by show aK 1 (fr 300) (.int .i64 (4:Nat)) 301 fr hp K=_;rw[I.at (s:=300) rfl (R 76 (by decide))];exact cf Lv) rfl rfl rfl rfl
 |78,hg,h0,R=>obtain rfl:=Kac hg;exact I.op (fun K=>by show bb 1 false (fr 301) 302 fr hp K=_;rw[I.at (s:=301) rfl (R 77 (by decide))];exact fb) rfl rfl rfl rfl
 |79,hg,h0,R=>obtain rfl:=Kac hg;exact I.op (fun K=>by show aK 2 (fr 299) (fr 302) 303 fr hp K=_;rw[I.at (s:=299) rfl (R 75 (by decide)),I.at (s:=302) rfl (R 78 (by decide))];exact cf LI) rfl rfl rfl rfl
 |80,hg,h0,R=>obtain rfl:=Kac hg;exact I.op (fun K=>by show bb 2 true (fr 303) 304 fr hp K=_;rw[I.at (s:=303) rfl (R 79 (by decide))];exact fc) rfl rfl rfl rfl
 |81,hg,h0,R=>obtain rfl:=Kac hg;exact I.op (fun K=>congrArg (fun v=>K (ae fr 305 v) hp) (I.ch (s:=1) rfl)) rfl rfl rfl rfl
 |82,hg,h0,R=>obtain rfl:=Kac hg;exact I.op (fun K=>congrArg (fun v=>K (ae fr 306 v) hp) (I.ch (s:=5) rfl)) rfl rfl rfl rfl
 |83,hg,h0,R=>obtain rfl:=Kac hg;exact I.op (fun K=>by show aK 1 (fr 306) (.int .i64 (5:Nat)) 307 fr hp K=_;rw[I.at (s:=306) rfl (R 82 (by decide))];exact cf Lw) rfl rfl rfl rfl
 |84,hg,h0,R=>obtain rfl:=Kac hg;exact I.op (fun K=>by show bb 1 false (fr 307) 308 fr hp K=_;rw[I.at (s:=307) rfl (R 83 (by decide))];exact fb) rfl rfl rfl rfl
 |85,hg,h0,R=>obtain rfl:=Kac hg;exact I.op (fun K=>by show aK 2 (fr 305) (fr 308) 309 fr hp K=_;rw[I.at (s:=305) rfl (R 81 (by decide)),I.at (s:=308) rfl (R 84 (by decide))];exact cf LJ) rfl rfl rfl rfl
 |86,hg,h0,R=>obtain rfl:=Kac hg;exact I.op (fun K=>by show bb 2 true (fr 309) 310 fr hp K=_;rw[I.at (s:=309) rfl (R 85 (by decide))];exact fc) rfl rfl rfl rfl
 |87,hg,h0,R=>obtain rfl:=Kac hg;exact I.op (fun K=>congrArg (fun v=>K (ae fr 311 v) hp) (I.ch (s:=1) rfl)) rfl rfl rfl rfl
 |88,hg,h0,R=>obtain rfl:=Kac hg;exact I.op (fun K=>congrArg (fun v=>K (ae fr 312 v) hp) (I.ch (s:=5) rfl)) rfl rfl rfl rfl
 |89,hg,h0,R=>obtain rfl:=Kac hg;exact I.op (fun K=>by show aK 1 (fr 312) (.int .i64 (6:Nat)) 313 fr hp K=_;rw[I.at (s:=312) rfl (R 88 (by decide))];exact cf Lx) rfl rfl rfl rfl
 |90,hg,h0,R=>obtain rfl:=Kac hg;exact I.op (fun K=>by show bb 1 false (fr 313) 314 fr hp K=_;rw[I.at (s:=313) rfl (R 89 (by decide))];exact fb) rfl rfl rfl rfl
 |91,hg,h0,R=>obtain rfl:=Kac hg;exact I.op (fun K=>by show aK 2 (fr 311) (fr 314) 315 fr hp K=_;rw[I.at (s:=311) rfl (R 87 (by decide)),I.at (s:=314) rfl (R 90 (by decide))];exact cf LK) rfl rfl rfl rfl
 |92,hg,h0,R=>obtain rfl:=Kac hg;exact I.op (fun K=>by show bb 2 true (fr 315) 316 fr hp K=_;rw[I.at (s:=315) rfl (R 91 (by decide))];exact fc) rfl rfl rfl rfl
 |93,hg,h0,R=>obtain rfl:=Kac hg;exact I.op (fun K=>congrArg (fun v=>K (ae fr 317 v) hp) (I.ch (s:=1) rfl)) rfl rfl rfl rfl
 |94,hg,h0,R=>obtain rfl:=Kac hg;exact I.op (fun K=>congrArg (fun v=>K (ae fr 318 v) hp) (I.ch (s:=5) rfl)) rfl rfl rfl rfl
 |95,hg,h0,R=>obtain rfl:=Kac hg;exact I.op (fun K=>by show aK 1 (fr 318) (.int .i64 (7:Nat)) 319 fr hp K=_;rw[I.at (s:=318) rfl (R 94 (by decide))];exact cf Ly) rfl rfl rfl rfl
 |96,hg,h0,R=>obtain rfl:=Kac hg;exact I.op (fun K=>by show bb 1 false (fr 319) 320 fr hp K=_;rw[I.at (s:=319) rfl (R 95 (by decide))];exact fb) rfl rfl rfl rfl
 |97,hg,h0,R=>obtain rfl:=Kac hg;exact I.op (fun K=>by show aK 2 (fr 317) (fr 320) 321 fr hp K=_;rw[I.at (s:=317) rfl (R 93 (by decide)),I.at (s:=320) rfl (R 96 (by decide))];exact cf LL) rfl rfl rfl rfl
 |98,hg,h0,R=>obtain rfl:=Kac hg;exact I.op (fun K=>by show bb 2 true (fr 321) 322 fr hp K=_;rw[I.at (s:=321) rfl (R 97 (by decide))];exact fc) rfl rfl rfl rfl
 |99,hg,h0,R=>obtain rfl:=Kac hg;exact I.vv hP w3 (by show [fr 304,fr 310,fr 316,fr 322]=_;rw[I.at (s:=304) rfl (R 80 (by decide)),I.at (s:=310) rfl (R 86 (by decide)),I.at (s:=316) rfl (R 92 (by decide)),I.at (s:=322) rfl (R 98 (by decide))]) rfl rfl rfl rfl rfl rfl rfl
 |100,hg,h0,R=>obtain rfl:=Kac hg;exact I.vv hP w4 (by show [fr 248,fr 273,fr 298,fr 323]=_;rw[I.at (s:=248) rfl (R 24 (by decide)),I.at (s:=273) rfl (R 49 (by decide)),I.at (s:=298) rfl (R 74 (by decide)),I.at (s:=323) rfl (R 99 (by decide))]) rfl rfl rfl rfl rfl rfl rfl
 |101,hg,h0,R=>obtain rfl:=Kac hg;exact I.bs (j:=102) (by show [fr 324]=_;rw[I.at (s:=324) rfl (R 100 (by decide))]) rfl (by decide) (adR) rfl rfl (oX D h0 (by decide)) rfl rfl rfl rfl rfl (by decide)
 |102,hg,h0,R=>obtain rfl:=Kac hg;exact I.op (fun K=>congrArg (fun v=>K (ae fr 4 v) hp) (I.at (s:=325) rfl (R 101 (by decide)))) rfl rfl rfl rfl
 |i+103,hg,h0,R=>cases hg
theorem SM{f:cn}{n:Int}(hf:ns f):Qd Tryz.prog 29 [PV.fG f,.int .i64 n] (· = .int .i64 (cM f n)):=by
 have hr:=Qzc hf.r (by omega);have hz:=VH hf.r;have lL:=hf.l;obtain⟨k,args,n0,a,d⟩:=f;simp only at hr hz lL;have hA:=Ss (k:=k);refine Qf Qh Tryz.func29 rfl XQ (by simp[D']) fun C hP=>?_;simp only[D',Zo,Zg,Zm,Zc,Zf,Zl,Zh,Zs,Zi,Zb,Zk,Zn,Zu,Zq,Zr,Zz];refine Sz0 ?_;refine Qa hP hA rfl rfl rfl ?_;refine Sz0 ?_;refine Qb (fun h0=>?_) (fun h0=>?_)
 ·refine Sz0 ?_;exact Qc (by simp[cM,h0]) rfl
 refine Sz0 ?_;refine Qb (fun hl=>?_) (fun hl=>?_)
 ·refine Sz0 ?_;exact Qc (by simp[cM,h0,hl]) rfl
 replace hl:(args.length:Int)=b9 k:=by omega
 refine Sz0 ?_;refine Q3 (by repeat (first|exact Qx|exact Qq|exact Qr|exact Qt|exact Qu|apply Qp|apply Qw|apply Q2|apply Q7|apply Q8|apply Qn|apply Q6)) [(4,4),(7,7),(21,32)] [] (fun m J hp=>∃i,m=args.length-i/\i<=args.length/\(∀j (h:j<args.length),j<i->0<=args[j]/\args[j]<n)/\J 21= .int .i64 (i:Nat)/\hp 2=some ⟨5,34,[PV.fG ⟨k,args,n0,a,d⟩],false⟩) args.length ?_ ?_
 ·refine⟨0,rfl,by omega,by omega,?_⟩;refine Sz0 ?_;rfl
 rintro _ J h ⟨i,rfl,hi,h1,lV,cq⟩;refine Sz1 lV ?_;refine Qb (fun hg=>?_) (fun hg=>?_)
 ·have aD:i<args.length:=by omega
  have h2:(args[i]<0∨n<=args[i])->cM ⟨k,args,n0,a,d⟩ n=2:=fun h=>Hx (f:=⟨k,args,n0,a,d⟩) h0 hl aD h;have dy:0<=args[i]/\args[i]<n->∀j (h:j<args.length),j<i+1->0<=args[j]/\args[j]<n:=fun h j hj mG=>by
   by_cases e:j=i
   ·subst e;exact h
   ·exact h1 j hj (by omega)
  generalize hx:args[i]=x at *
  refine Sz2 lV hx ?_;refine dA (fun h3=>?_) (fun h3=>?_)
  ·refine Sz0 ?_;exact Qc (by rw[h2 (.inl h3)]) rfl
  refine Sz0 ?_;refine Qb (fun h4=>?_) (fun h4=>?_)
  ·refine Sz0 ?_;exact Qc (by rw[h2 (.inr h4)]) rfl
  refine Sz1 lV ?_;refine Qm (args.length-(i+1)) (by omega) ⟨i+1,rfl,by omega,dy ⟨by omega,by omega⟩,?_⟩;exact Tz1 cq
 obtain rfl:i=args.length:=by omega
 have cU:=Hy (f:=⟨k,args,n0,a,d⟩) (n:=n) h0 hl (fun j hj=>h1 j hj hj);refine Sz1 cq ?_;by_cases h9:k=9
 ·subst h9;refine Sz1 cq ?_;refine Qa hP hr rfl rfl rfl ?_;cases hq:iz n0 a d
  ·refine Sz1 cq ?_;exact Qc (by rw[cU];simp[hq]) rfl
  ·refine Sz1 cq ?_;exact Qc (by rw[cU];simp[hq]) rfl
 ·have d9:decide (k=9)=false:=decide_eq_false h9;have ER:decide (¬k=9)=true:=decide_eq_true h9;refine Sz3 cq d9 ER ?_;refine Qa hP hz rfl rfl rfl ?_;cases hq:gT n0 a d
  ·refine Sz1 cq ?_;exact Qc (by rw[cU];simp[hq,h9]) rfl
  ·refine Sz1 cq ?_;exact Qc (by rw[cU];simp[hq,h9]) rfl
end Go.Proofs.YtonjiljafkiikaaGreat
namespace Go.FW
open Go
end Go.FW
