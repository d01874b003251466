/- Part 14 of the proof of CertcheckNames: K24, K18, W1, W2, W3, W4, W5, W6, CA, A1, K19, K20, K21, K17, K22, K25, K26, J2, J3, J4, J5, J6, J7, J8, J9, FwWF, FwWG. Own lemmas; no conditions. -/
import Derived.Test.YtccppnepkfbpkaaGreatCertcheckNamesPart13
set_option maxHeartbeats 1000000
set_option linter.unusedSimpArgs false
set_option linter.unusedVariables false
set_option linter.unnecessarySimpa false
set_option maxRecDepth 100000
namespace Go.Proofs.YtccppnepkfbpkaaGreat
open Go Go.FW
def ED(cs:List Cd)(args:List PV):List (Nat×PV):=[(1,.sl 2 (cs.map PV.aC)),(5,.sl 1 args)]
def Gv(cs:List Cd)(args:List PV)(a0 a1 a2:Nat)(c0 c1 c2:Cd):WT:=[(133,0,.sl 2 (cs.map PV.aC)),(134,1,.sl 1 args),(135,2,.pt [.int .i64 (a0:Nat)]),(136,3,.int .i64 (a0:Nat)),(137,4,.pt [PV.ao c0.1,PV.ao c0.2]),(138,5,PV.aC c0),(139,6,.sl 2 (cs.map PV.aC)),(140,7,.sl 1 args),(141,8,.pt [.int .i64 (a1:Nat)]),(142,9,.int .i64 (a1:Nat)),(143,10,.pt [PV.ao c1.1,PV.ao c1.2]),(144,11,PV.aC c1),(145,12,.sl 2 (cs.map PV.aC)),(146,13,.sl 1 args),(147,14,.pt [.int .i64 (a2:Nat)]),(148,15,.int .i64 (a2:Nat)),(149,16,.pt [PV.ao c2.1,PV.ao c2.2]),(150,17,PV.aC c2),(6,18,.mp 6 0 0),(7,19,.mp 7 0 0),(8,20,.mp 8 0 0)]
def xF(c0 c1 c2:Cd):WB:=[(6,18,21,⟨2,135,[.agg [.aa,.aa]],false⟩,⟨2,135,[PV.aC c0],false⟩),(7,19,22,⟨2,135,[.agg [.aa,.aa]],false⟩,⟨2,135,[PV.aC c1],false⟩),(8,20,23,⟨2,135,[.agg [.aa,.aa]],false⟩,⟨2,135,[PV.aC c2],false⟩)]
theorem tP{A:List (List Nat)}{l:Nat->Bool}{s i:Nat}(D:∀j,l j=true->∀k∈A.getD j [],l k=true)(h0:l i=false)(h:i∈A.getD s []):l s=false:=by
 cases e:l s with
 |false=>rfl
 |true=>rw[D s e i h]at h0;cases h0
theorem apO{hp:HP}{q:List Tm}:z4 hp 1 [PV.ao q]:=fun p h=>by rw[Kay.1 h];exact⟨rfl,rfl⟩
theorem acH{C:Ctx}{cs:List Cd}{args:List PV}{a0 a1 a2:Nat}{c0 c1 c2:Cd}(kF:args[0]? =some (.int .i64 (a0:Nat)))(jt:(cs.map PV.aC)[a0]? =some (PV.aC c0))(yp:args[1]? =some (.int .i64 (a1:Nat)))(nr:(cs.map PV.aC)[a1]? =some (PV.aC c1))(nk:args[2]? =some (.int .i64 (a2:Nat)))(eL:(cs.map PV.aC)[a2]? =some (PV.aC c2)):∀(l:Nat->Bool)(i:Nat)(g:mJ),An[i]? =some g->l i=false->(∀k∈EA.getD i [],l k=true)->(∀j,l j=true->∀k∈EA.getD j [],l k=true)->
  ∀fr hp,dM (ED cs args) (Gv cs args a0 a1 a2 c0 c1 c2) (xF c0 c1 c2) l fr hp->hZ C g.g g.o fr hp (fun fr hp=>∃aJ aw,Wk fr hp aJ aw/\dM (ED cs args) (Gv cs args a0 a1 a2 c0 c1 c2) (xF c0 c1 c2) (fun k=>k==i||l k) aJ aw):=by
 intro l i g hg h0 R D fr hp I
 match i,hg,h0,R with
 |0,hg,h0,R=>obtain rfl:=Kac hg;exact I.op (fun K=>congrArg (fun v=>K (ae fr 133 v) hp) (I.cK (s:=1) rfl)) rfl rfl rfl rfl
 |1,hg,h0,R=>obtain rfl:=Kac hg;exact I.op (fun K=>congrArg (fun v=>K (ae fr 134 v) hp) (I.cK (s:=5) rfl)) rfl rfl rfl rfl
 |2,hg,h0,R=>obtain rfl:=Kac hg;exact I.op (fun K=>by show Q7 1 (fr 134) (.int .i64 (0:Nat)) 135 fr hp K=_;rw[I.at (s:=134) rfl (R 1 (by decide))];exact cu kF) rfl rfl rfl rfl
 |3,hg,h0,R=>obtain rfl:=Kac hg;exact I.op (fun K=>by show bn 1 false (fr 135) 136 fr hp K=_;rw[I.at (s:=135) rfl (R 2 (by decide))];exact gC) rfl rfl rfl rfl
 |4,hg,h0,R=>obtain rfl:=Kac hg;exact I.op (fun K=>by show Q7 2 (fr 133) (fr 136) 137 fr hp K=_;rw[I.at (s:=133) rfl (R 0 (by decide)),I.at (s:=136) rfl (R 3 (by decide))];exact cu jt) rfl rfl rfl rfl
 |5,hg,h0,R=>obtain rfl:=Kac hg;exact I.op (fun K=>by show bn 2 true (fr 137) 138 fr hp K=_;rw[I.at (s:=137) rfl (R 4 (by decide))];exact gD) rfl rfl rfl rfl
 |6,hg,h0,R=>obtain rfl:=Kac hg;exact I.op (fun K=>congrArg (fun v=>K (ae fr 139 v) hp) (I.cK (s:=1) rfl)) rfl rfl rfl rfl
 |7,hg,h0,R=>obtain rfl:=Kac hg;exact I.op (fun K=>congrArg (fun v=>K (ae fr 140 v) hp) (I.cK (s:=5) rfl)) rfl rfl rfl rfl
 |8,hg,h0,R=>obtain rfl:=Kac hg;exact I.op (fun K=>by show Q7 1 (fr 140) (.int .i64 (1:Nat)) 141 fr hp K=_;rw[I.at (s:=140) rfl (R 7 (by decide))];exact cu yp) rfl rfl rfl rfl
 |9,hg,h0,R=>obtain rfl:=Kac hg;exact I.op (fun K=>by show bn 1 false (fr 141) 142 fr hp K=_;rw[I.at (s:=141) rfl (R 8 (by decide))];exact gC) rfl rfl rfl rfl
 |10,hg,h0,R=>obtain rfl:=Kac hg;exact I.op (fun K=>by show Q7 2 (fr 139) (fr 142) 143 fr hp K=_;rw[I.at (s:=139) rfl (R 6 (by decide)),I.at (s:=142) rfl (R 9 (by decide))];exact cu nr) rfl rfl rfl rfl
 |11,hg,h0,R=>obtain rfl:=Kac hg;exact I.op (fun K=>by show bn 2 true (fr 143) 144 fr hp K=_;rw[I.at (s:=143) rfl (R 10 (by decide))];exact gD) rfl rfl rfl rfl
 |12,hg,h0,R=>obtain rfl:=Kac hg;exact I.op (fun K=>congrArg (fun v=>K (ae fr 145 v) hp) (I.cK (s:=1) rfl)) rfl rfl rfl rfl
 |13,hg,h0,R=>obtain rfl:=Kac hg;exact I.op (fun K=>congrArg (fun v=>K (ae fr 146 v) hp) (I.cK (s:=5) rfl)) rfl rfl rfl rfl
 |14,hg,h0,R=>obtain rfl:=Kac hg;exact I.op (fun K=>by show Q7 1 (fr 146) (.int .i64 (2:Nat)) 147 fr hp K=_;rw[I.at (s:=146) rfl (R 13 (by decide))];exact cu nk) rfl rfl rfl rfl
 |15,hg,h0,R=>obtain rfl:=Kac hg;exact I.op (fun K=>by show bn 1 false (fr 147) 148 fr hp K=_;rw[I.at (s:=147) rfl (R 14 (by decide))];exact gC) rfl rfl rfl rfl
 |16,hg,h0,R=>obtain rfl:=Kac hg;exact I.op (fun K=>by show Q7 2 (fr 145) (fr 148) 149 fr hp K=_;rw[I.at (s:=145) rfl (R 12 (by decide)),I.at (s:=148) rfl (R 15 (by decide))];exact cu eL) rfl rfl rfl rfl
 |17,hg,h0,R=>obtain rfl:=Kac hg;exact I.op (fun K=>by show bn 2 true (fr 149) 150 fr hp K=_;rw[I.at (s:=149) rfl (R 16 (by decide))];exact gD) rfl rfl rfl rfl
 |18,hg,h0,R=>obtain rfl:=Kac hg;exact I.alloc (st:=21) ⟨rfl,by decide⟩ rfl rfl rfl rfl rfl (tP D h0 (by decide))
 |19,hg,h0,R=>obtain rfl:=Kac hg;exact I.alloc (st:=22) ⟨rfl,by decide⟩ rfl rfl rfl rfl rfl (tP D h0 (by decide))
 |20,hg,h0,R=>obtain rfl:=Kac hg;exact I.alloc (st:=23) ⟨rfl,by decide⟩ rfl rfl rfl rfl rfl (tP D h0 (by decide))
 |21,hg,h0,R=>obtain rfl:=Kac hg;exact I.st (β:=6) (a:=138) (al:=18) (I.at (s:=6) rfl (R 18 (by decide))) (I.at (s:=138) rfl (R 5 (by decide))) rfl (R 18 (by decide)) h0 rfl rfl rfl
 |22,hg,h0,R=>obtain rfl:=Kac hg;exact I.st (β:=7) (a:=144) (al:=19) (I.at (s:=7) rfl (R 19 (by decide))) (I.at (s:=144) rfl (R 11 (by decide))) rfl (R 19 (by decide)) h0 rfl rfl rfl
 |23,hg,h0,R=>obtain rfl:=Kac hg;exact I.st (β:=8) (a:=150) (al:=20) (I.at (s:=8) rfl (R 20 (by decide))) (I.at (s:=150) rfl (R 17 (by decide))) rfl (R 20 (by decide)) h0 rfl rfl rfl
 |i+24,hg,h0,R=>cases hg
def EE(cs:List Cd)(args:List PV):List (Nat×PV):=[(1,.sl 2 (cs.map PV.aC)),(5,.sl 1 args)]
def Gw(cs:List Cd)(args:List PV)(a0 a1 a2 a3:Nat)(c0 c1 c2 c3:Cd):WT:=[(176,0,.sl 2 (cs.map PV.aC)),(177,1,.sl 1 args),(178,2,.pt [.int .i64 (a0:Nat)]),(179,3,.int .i64 (a0:Nat)),(180,4,.pt [PV.ao c0.1,PV.ao c0.2]),(181,5,PV.aC c0),(182,6,.sl 2 (cs.map PV.aC)),(183,7,.sl 1 args),(184,8,.pt [.int .i64 (a1:Nat)]),(185,9,.int .i64 (a1:Nat)),(186,10,.pt [PV.ao c1.1,PV.ao c1.2]),(187,11,PV.aC c1),(188,12,.sl 2 (cs.map PV.aC)),(189,13,.sl 1 args),(190,14,.pt [.int .i64 (a2:Nat)]),(191,15,.int .i64 (a2:Nat)),(192,16,.pt [PV.ao c2.1,PV.ao c2.2]),(193,17,PV.aC c2),(194,18,.sl 2 (cs.map PV.aC)),(195,19,.sl 1 args),(196,20,.pt [.int .i64 (a3:Nat)]),(197,21,.int .i64 (a3:Nat)),(198,22,.pt [PV.ao c3.1,PV.ao c3.2]),(199,23,PV.aC c3),(9,24,.mp 9 0 0),(10,25,.mp 10 0 0),(11,26,.mp 11 0 0),(12,27,.mp 12 0 0)]
def xG(c0 c1 c2 c3:Cd):WB:=[(9,24,28,⟨2,135,[.agg [.aa,.aa]],false⟩,⟨2,135,[PV.aC c0],false⟩),(10,25,29,⟨2,135,[.agg [.aa,.aa]],false⟩,⟨2,135,[PV.aC c1],false⟩),(11,26,30,⟨2,135,[.agg [.aa,.aa]],false⟩,⟨2,135,[PV.aC c2],false⟩),(12,27,31,⟨2,135,[.agg [.aa,.aa]],false⟩,⟨2,135,[PV.aC c3],false⟩)]
theorem acI{C:Ctx}{cs:List Cd}{args:List PV}{a0 a1 a2 a3:Nat}{c0 c1 c2 c3:Cd}(kF:args[0]? =some (.int .i64 (a0:Nat)))(jt:(cs.map PV.aC)[a0]? =some (PV.aC c0))(yp:args[1]? =some (.int .i64 (a1:Nat)))(nr:(cs.map PV.aC)[a1]? =some (PV.aC c1))(nk:args[2]? =some (.int .i64 (a2:Nat)))(eL:(cs.map PV.aC)[a2]? =some (PV.aC c2))(Fe:args[3]? =some (.int .i64 (a3:Nat)))(Fg:(cs.map PV.aC)[a3]? =some (PV.aC c3)):∀(l:Nat->Bool)(i:Nat)(g:mJ),Ao[i]? =some g->l i=false->(∀k∈EB.getD i [],l k=true)->(∀j,l j=true->∀k∈EB.getD j [],l k=true)->
  ∀fr hp,dM (EE cs args) (Gw cs args a0 a1 a2 a3 c0 c1 c2 c3) (xG c0 c1 c2 c3) l fr hp->hZ C g.g g.o fr hp (fun fr hp=>∃aJ aw,Wk fr hp aJ aw/\dM (EE cs args) (Gw cs args a0 a1 a2 a3 c0 c1 c2 c3) (xG c0 c1 c2 c3) (fun k=>k==i||l k) aJ aw):=by
 intro l i g hg h0 R D fr hp I
 match i,hg,h0,R with
 |0,hg,h0,R=>obtain rfl:=Kac hg;exact I.op (fun K=>congrArg (fun v=>K (ae fr 176 v) hp) (I.cK (s:=1) rfl)) rfl rfl rfl rfl
 |1,hg,h0,R=>obtain rfl:=Kac hg;exact I.op (fun K=>congrArg (fun v=>K (ae fr 177 v) hp) (I.cK (s:=5) rfl)) rfl rfl rfl rfl
 |2,hg,h0,R=>obtain rfl:=Kac hg;exact I.op (fun K=>by show Q7 1 (fr 177) (.int .i64 (0:Nat)) 178 fr hp K=_;rw[I.at (s:=177) rfl (R 1 (by decide))];exact cu kF) rfl rfl rfl rfl
 |3,hg,h0,R=>obtain rfl:=Kac hg;exact I.op (fun K=>by show bn 1 false (fr 178) 179 fr hp K=_;rw[I.at (s:=178) rfl (R 2 (by decide))];exact gC) rfl rfl rfl rfl
 |4,hg,h0,R=>obtain rfl:=Kac hg;exact I.op (fun K=>by show Q7 2 (fr 176) (fr 179) 180 fr hp K=_;rw[I.at (s:=176) rfl (R 0 (by decide)),I.at (s:=179) rfl (R 3 (by decide))];exact cu jt) rfl rfl rfl rfl
 |5,hg,h0,R=>obtain rfl:=Kac hg;exact I.op (fun K=>by show bn 2 true (fr 180) 181 fr hp K=_;rw[I.at (s:=180) rfl (R 4 (by decide))];exact gD) rfl rfl rfl rfl
 |6,hg,h0,R=>obtain rfl:=Kac hg;exact I.op (fun K=>congrArg (fun v=>K (ae fr 182 v) hp) (I.cK (s:=1) rfl)) rfl rfl rfl rfl
 |7,hg,h0,R=>obtain rfl:=Kac hg;exact I.op (fun K=>congrArg (fun v=>K (ae fr 183 v) hp) (I.cK (s:=5) rfl)) rfl rfl rfl rfl
 |8,hg,h0,R=>obtain rfl:=Kac hg;exact I.op (fun K=>by show Q7 1 (fr 183) (.int .i64 (1:Nat)) 184 fr hp K=_;rw[I.at (s:=183) rfl (R 7 (by decide))];exact cu yp) rfl rfl rfl rfl
 |9,hg,h0,R=>obtain rfl:=Kac hg;exact I.op (fun K=>by show bn 1 false (fr 184) 185 fr hp K=_;rw[I.at (s:=184) rfl (R 8 (by decide))];exact gC) rfl rfl rfl rfl
 |10,hg,h0,R=>obtain rfl:=Kac hg;exact I.op (fun K=>by show Q7 2 (fr 182) (fr 185) 186 fr hp K=_;rw[I.at (s:=182) rfl (R 6 (by decide)),I.at (s:=185) rfl (R 9 (by decide))];exact cu nr) rfl rfl rfl rfl
 |11,hg,h0,R=>obtain rfl:=Kac hg;exact I.op (fun K=>by show bn 2 true (fr 186) 187 fr hp K=_;rw[I.at (s:=186) rfl (R 10 (by decide))];exact gD) rfl rfl rfl rfl
 |12,hg,h0,R=>obtain rfl:=Kac hg;exact I.op (fun K=>congrArg (fun v=>K (ae fr 188 v) hp) (I.cK (s:=1) rfl)) rfl rfl rfl rfl
 |13,hg,h0,R=>obtain rfl:=Kac hg;exact I.op (fun K=>congrArg (fun v=>K (ae fr 189 v) hp) (I.cK (s:=5) rfl)) rfl rfl rfl rfl
 |14,hg,h0,R=>obtain rfl:=Kac hg;exact I.op (fun K=>by show Q7 1 (fr 189) (.int .i64 (2:Nat)) 190 fr hp K=_;rw[I.at (s:=189) rfl (R 13 (by decide))];exact cu nk) rfl rfl rfl rfl
 |15,hg,h0,R=>obtain rfl:=Kac hg;exact I.op (fun K=>by show bn 1 false (fr 190) 191 fr hp K=_;rw[I.at (s:=190) rfl (R 14 (by decide))];exact gC) rfl rfl rfl rfl
 |16,hg,h0,R=>obtain rfl:=Kac hg;exact I.op (fun K=>by show Q7 2 (fr 188) (fr 191) 192 fr hp K=_;rw[I.at (s:=188) rfl (R 12 (by decide)),I.at (s:=191) rfl (R 15 (by decide))];exact cu eL) rfl rfl rfl rfl
 |17,hg,h0,R=>obtain rfl:=Kac hg;exact I.op (fun K=>by show bn 2 true (fr 192) 193 fr hp K=_;rw[I.at (s:=192) rfl (R 16 (by decide))];exact gD) rfl rfl rfl rfl
 |18,hg,h0,R=>obtain rfl:=Kac hg;exact I.op (fun K=>congrArg (fun v=>K (ae fr 194 v) hp) (I.cK (s:=1) rfl)) rfl rfl rfl rfl
 |19,hg,h0,R=>obtain rfl:=Kac hg;exact I.op (fun K=>congrArg (fun v=>K (ae fr 195 v) hp) (I.cK (s:=5) rfl)) rfl rfl rfl rfl
 |20,hg,h0,R=>obtain rfl:=Kac hg;exact I.op (fun K=>by show Q7 1 (fr 195) (.int .i64 (3:Nat)) 196 fr hp K=_;rw[I.at (s:=195) rfl (R 19 (by decide))];exact cu Fe) rfl rfl rfl rfl
 |21,hg,h0,R=>obtain rfl:=Kac hg;exact I.op (fun K=>by show bn 1 false (fr 196) 197 fr hp K=_;rw[I.at (s:=196) rfl (R 20 (by decide))];exact gC) rfl rfl rfl rfl
 |22,hg,h0,R=>obtain rfl:=Kac hg;exact I.op (fun K=>by show Q7 2 (fr 194) (fr 197) 198 fr hp K=_;rw[I.at (s:=194) rfl (R 18 (by decide)),I.at (s:=197) rfl (R 21 (by decide))];exact cu Fg) rfl rfl rfl rfl
 |23,hg,h0,R=>obtain rfl:=Kac hg;exact I.op (fun K=>by show bn 2 true (fr 198) 199 fr hp K=_;rw[I.at (s:=198) rfl (R 22 (by decide))];exact gD) rfl rfl rfl rfl
 |24,hg,h0,R=>obtain rfl:=Kac hg;exact I.alloc (st:=28) ⟨rfl,by decide⟩ rfl rfl rfl rfl rfl (tP D h0 (by decide))
 |25,hg,h0,R=>obtain rfl:=Kac hg;exact I.alloc (st:=29) ⟨rfl,by decide⟩ rfl rfl rfl rfl rfl (tP D h0 (by decide))
 |26,hg,h0,R=>obtain rfl:=Kac hg;exact I.alloc (st:=30) ⟨rfl,by decide⟩ rfl rfl rfl rfl rfl (tP D h0 (by decide))
 |27,hg,h0,R=>obtain rfl:=Kac hg;exact I.alloc (st:=31) ⟨rfl,by decide⟩ rfl rfl rfl rfl rfl (tP D h0 (by decide))
 |28,hg,h0,R=>obtain rfl:=Kac hg;exact I.st (β:=9) (a:=181) (al:=24) (I.at (s:=9) rfl (R 24 (by decide))) (I.at (s:=181) rfl (R 5 (by decide))) rfl (R 24 (by decide)) h0 rfl rfl rfl
 |29,hg,h0,R=>obtain rfl:=Kac hg;exact I.st (β:=10) (a:=187) (al:=25) (I.at (s:=10) rfl (R 25 (by decide))) (I.at (s:=187) rfl (R 11 (by decide))) rfl (R 25 (by decide)) h0 rfl rfl rfl
 |30,hg,h0,R=>obtain rfl:=Kac hg;exact I.st (β:=11) (a:=193) (al:=26) (I.at (s:=11) rfl (R 26 (by decide))) (I.at (s:=193) rfl (R 17 (by decide))) rfl (R 26 (by decide)) h0 rfl rfl rfl
 |31,hg,h0,R=>obtain rfl:=Kac hg;exact I.st (β:=12) (a:=199) (al:=27) (I.at (s:=12) rfl (R 27 (by decide))) (I.at (s:=199) rfl (R 23 (by decide))) rfl (R 27 (by decide)) h0 rfl rfl rfl
 |i+32,hg,h0,R=>cases hg
def EF(cs:List Cd)(args:List PV):List (Nat×PV):=[(1,.sl 2 (cs.map PV.aC)),(5,.sl 1 args)]
def Gx(cs:List Cd)(args:List PV)(a0 a1 a2 a3 a4 a5 a6 a7:Nat)(c0 c1 c2 c3 c4 c5 c6 c7:Cd)(q0 q1 q2 q3 q4:List Tm):WT:=[(224,0,.sl 2 (cs.map PV.aC)),(225,1,.sl 1 args),(226,2,.pt [.int .i64 (a0:Nat)]),(227,3,.int .i64 (a0:Nat)),(228,4,.pt [PV.ao c0.1,PV.ao c0.2]),(229,5,PV.aC c0),(230,6,.sl 2 (cs.map PV.aC)),(231,7,.sl 1 args),(232,8,.pt [.int .i64 (a1:Nat)]),(233,9,.int .i64 (a1:Nat)),(234,10,.pt [PV.ao c1.1,PV.ao c1.2]),(235,11,PV.aC c1),(236,12,.sl 2 (cs.map PV.aC)),(237,13,.sl 1 args),(238,14,.pt [.int .i64 (a2:Nat)]),(239,15,.int .i64 (a2:Nat)),(240,16,.pt [PV.ao c2.1,PV.ao c2.2]),(241,17,PV.aC c2),(242,18,.sl 2 (cs.map PV.aC)),(243,19,.sl 1 args),(244,20,.pt [.int .i64 (a3:Nat)]),(245,21,.int .i64 (a3:Nat)),(246,22,.pt [PV.ao c3.1,PV.ao c3.2]),(247,23,PV.aC c3),(248,24,PV.ao q0),(249,25,.sl 2 (cs.map PV.aC)),(250,26,.sl 1 args),(251,27,.pt [.int .i64 (a0:Nat)]),(252,28,.int .i64 (a0:Nat)),(253,29,.pt [PV.ao c0.1,PV.ao c0.2]),(254,30,PV.aC c0),(255,31,.sl 2 (cs.map PV.aC)),(256,32,.sl 1 args),(257,33,.pt [.int .i64 (a1:Nat)]),(258,34,.int .i64 (a1:Nat)),(259,35,.pt [PV.ao c1.1,PV.ao c1.2]),(260,36,PV.aC c1),(261,37,.sl 2 (cs.map PV.aC)),(262,38,.sl 1 args),(263,39,.pt [.int .i64 (a2:Nat)]),(264,40,.int .i64 (a2:Nat)),(265,41,.pt [PV.ao c2.1,PV.ao c2.2]),(266,42,PV.aC c2),(267,43,.sl 2 (cs.map PV.aC)),(268,44,.sl 1 args),(269,45,.pt [.int .i64 (a3:Nat)]),(270,46,.int .i64 (a3:Nat)),(271,47,.pt [PV.ao c3.1,PV.ao c3.2]),(272,48,PV.aC c3),(273,49,PV.ao q1),(274,50,.sl 2 (cs.map PV.aC)),(275,51,.sl 1 args),(276,52,.pt [.int .i64 (a4:Nat)]),(277,53,.int .i64 (a4:Nat)),(278,54,.pt [PV.ao c4.1,PV.ao c4.2]),(279,55,PV.aC c4),(280,56,.sl 2 (cs.map PV.aC)),(281,57,.sl 1 args),(282,58,.pt [.int .i64 (a5:Nat)]),(283,59,.int .i64 (a5:Nat)),(284,60,.pt [PV.ao c5.1,PV.ao c5.2]),(285,61,PV.aC c5),(286,62,.sl 2 (cs.map PV.aC)),(287,63,.sl 1 args),(288,64,.pt [.int .i64 (a6:Nat)]),(289,65,.int .i64 (a6:Nat)),(290,66,.pt [PV.ao c6.1,PV.ao c6.2]),(291,67,PV.aC c6),(292,68,.sl 2 (cs.map PV.aC)),(293,69,.sl 1 args),(294,70,.pt [.int .i64 (a7:Nat)]),(295,71,.int .i64 (a7:Nat)),(296,72,.pt [PV.ao c7.1,PV.ao c7.2]),(297,73,PV.aC c7),(298,74,PV.ao q2),(299,75,.sl 2 (cs.map PV.aC)),(300,76,.sl 1 args),(301,77,.pt [.int .i64 (a4:Nat)]),(302,78,.int .i64 (a4:Nat)),(303,79,.pt [PV.ao c4.1,PV.ao c4.2]),(304,80,PV.aC c4),(305,81,.sl 2 (cs.map PV.aC)),(306,82,.sl 1 args),(307,83,.pt [.int .i64 (a5:Nat)]),(308,84,.int .i64 (a5:Nat)),(309,85,.pt [PV.ao c5.1,PV.ao c5.2]),(310,86,PV.aC c5),(311,87,.sl 2 (cs.map PV.aC)),(312,88,.sl 1 args),(313,89,.pt [.int .i64 (a6:Nat)]),(314,90,.int .i64 (a6:Nat)),(315,91,.pt [PV.ao c6.1,PV.ao c6.2]),(316,92,PV.aC c6),(317,93,.sl 2 (cs.map PV.aC)),(318,94,.sl 1 args),(319,95,.pt [.int .i64 (a7:Nat)]),(320,96,.int .i64 (a7:Nat)),(321,97,.pt [PV.ao c7.1,PV.ao c7.2]),(322,98,PV.aC c7),(323,99,PV.ao q3),(324,100,PV.ao q4),(325,101,.au 325 0 1),(4,102,.au 325 0 1)]
def Gy(c0 c1 c2 c3 c4 c5 c6 c7:Cd)(q0 q1 q2 q3 q4:List Tm):WB:=[(325,101,101,⟨1,43,[PV.ao q4],false⟩,⟨1,43,[PV.ao q4],false⟩)]
theorem acJ{C:Ctx}{cs:List Cd}{args:List PV}{a0 a1 a2 a3 a4 a5 a6 a7:Nat}{c0 c1 c2 c3 c4 c5 c6 c7:Cd}{q0 q1 q2 q3 q4:List Tm}(kF:args[0]? =some (.int .i64 (a0:Nat)))(jt:(cs.map PV.aC)[a0]? =some (PV.aC c0))(yp:args[1]? =some (.int .i64 (a1:Nat)))(nr:(cs.map PV.aC)[a1]? =some (PV.aC c1))(nk:args[2]? =some (.int .i64 (a2:Nat)))(eL:(cs.map PV.aC)[a2]? =some (PV.aC c2))(Fe:args[3]? =some (.int .i64 (a3:Nat)))(Fg:(cs.map PV.aC)[a3]? =some (PV.aC c3))(R7:args[4]? =some (.int .i64 (a4:Nat)))(Sj:(cs.map PV.aC)[a4]? =some (PV.aC c4))(R8:args[5]? =some (.int .i64 (a5:Nat)))(Sk:(cs.map PV.aC)[a5]? =some (PV.aC c5))(R9:args[6]? =some (.int .i64 (a6:Nat)))(Sl:(cs.map PV.aC)[a6]? =some (PV.aC c6))(Sa:args[7]? =some (.int .i64 (a7:Nat)))(Sm:(cs.map PV.aC)[a7]? =some (PV.aC c7))(hP:C.P=Tryz.prog)(w0:Qd Tryz.prog 84 [PV.aC c0,PV.aC c1,PV.aC c2,PV.aC c3] (· =PV.ao q0))(w1:Qd Tryz.prog 136 [PV.aC c0,PV.aC c1,PV.aC c2,PV.aC c3] (· =PV.ao q1))(w2:Qd Tryz.prog 84 [PV.aC c4,PV.aC c5,PV.aC c6,PV.aC c7] (· =PV.ao q2))(w3:Qd Tryz.prog 136 [PV.aC c4,PV.aC c5,PV.aC c6,PV.aC c7] (· =PV.ao q3))(w4:Qd Tryz.prog 139 [PV.ao q0,PV.ao q1,PV.ao q2,PV.ao q3] (· =PV.ao q4)):∀(l:Nat->Bool)(i:Nat)(g:mJ),Gt[i]? =some g->l i=false->(∀k∈EC.getD i [],l k=true)->(∀j,l j=true->∀k∈EC.getD j [],l k=true)->
  ∀fr hp,dM (EF cs args) (Gx cs args a0 a1 a2 a3 a4 a5 a6 a7 c0 c1 c2 c3 c4 c5 c6 c7 q0 q1 q2 q3 q4) (Gy c0 c1 c2 c3 c4 c5 c6 c7 q0 q1 q2 q3 q4) l fr hp->hZ C g.g g.o fr hp (fun fr hp=>∃aJ aw,Wk fr hp aJ aw/\dM (EF cs args) (Gx cs args a0 a1 a2 a3 a4 a5 a6 a7 c0 c1 c2 c3 c4 c5 c6 c7 q0 q1 q2 q3 q4) (Gy c0 c1 c2 c3 c4 c5 c6 c7 q0 q1 q2 q3 q4) (fun k=>k==i||l k) aJ aw):=by
 intro l i g hg h0 R D fr hp I
 match i,hg,h0,R with
 |0,hg,h0,R=>obtain rfl:=Kac hg;exact I.op (fun K=>congrArg (fun v=>K (ae fr 224 v) hp) (I.cK (s:=1) rfl)) rfl rfl rfl rfl
 |1,hg,h0,R=>obtain rfl:=Kac hg;exact I.op (fun K=>congrArg (fun v=>K (ae fr 225 v) hp) (I.cK (s:=5) rfl)) rfl rfl rfl rfl
 |2,hg,h0,R=>obtain rfl:=Kac hg;exact I.op (fun K=>by show Q7 1 (fr 225) (.int .i64 (0:Nat)) 226 fr hp K=_;rw[I.at (s:=225) rfl (R 1 (by decide))];exact cu kF) rfl rfl rfl rfl
 |3,hg,h0,R=>obtain rfl:=Kac hg;exact I.op (fun K=>by show bn 1 false (fr 226) 227 fr hp K=_;rw[I.at (s:=226) rfl (R 2 (by decide))];exact gC) rfl rfl rfl rfl
 |4,hg,h0,R=>obtain rfl:=Kac hg;exact I.op (fun K=>by show Q7 2 (fr 224) (fr 227) 228 fr hp K=_;rw[I.at (s:=224) rfl (R 0 (by decide)),I.at (s:=227) rfl (R 3 (by decide))];exact cu jt) rfl rfl rfl rfl
 |5,hg,h0,R=>obtain rfl:=Kac hg;exact I.op (fun K=>by show bn 2 true (fr 228) 229 fr hp K=_;rw[I.at (s:=228) rfl (R 4 (by decide))];exact gD) rfl rfl rfl rfl
 |6,hg,h0,R=>obtain rfl:=Kac hg;exact I.op (fun K=>congrArg (fun v=>K (ae fr 230 v) hp) (I.cK (s:=1) rfl)) rfl rfl rfl rfl
 |7,hg,h0,R=>obtain rfl:=Kac hg;exact I.op (fun K=>congrArg (fun v=>K (ae fr 231 v) hp) (I.cK (s:=5) rfl)) rfl rfl rfl rfl
 |8,hg,h0,R=>obtain rfl:=Kac hg;exact I.op (fun K=>by show Q7 1 (fr 231) (.int .i64 (1:Nat)) 232 fr hp K=_;rw[I.at (s:=231) rfl (R 7 (by decide))];exact cu yp) rfl rfl rfl rfl
 |9,hg,h0,R=>obtain rfl:=Kac hg;exact I.op (fun K=>by show bn 1 false (fr 232) 233 fr hp K=_;rw[I.at (s:=232) rfl (R 8 (by decide))];exact gC) rfl rfl rfl rfl
 |10,hg,h0,R=>obtain rfl:=Kac hg;exact I.op (fun K=>by show Q7 2 (fr 230) (fr 233) 234 fr hp K=_;rw[I.at (s:=230) rfl (R 6 (by decide)),I.at (s:=233) rfl (R 9 (by decide))];exact cu nr) rfl rfl rfl rfl
 |11,hg,h0,R=>obtain rfl:=Kac hg;exact I.op (fun K=>by show bn 2 true (fr 234) 235 fr hp K=_;rw[I.at (s:=234) rfl (R 10 (by decide))];exact gD) rfl rfl rfl rfl
 |12,hg,h0,R=>obtain rfl:=Kac hg;exact I.op (fun K=>congrArg (fun v=>K (ae fr 236 v) hp) (I.cK (s:=1) rfl)) rfl rfl rfl rfl
 |13,hg,h0,R=>obtain rfl:=Kac hg;exact I.op (fun K=>congrArg (fun v=>K (ae fr 237 v) hp) (I.cK (s:=5) rfl)) rfl rfl rfl rfl
 |14,hg,h0,R=>obtain rfl:=Kac hg;exact I.op (fun K=>by show Q7 1 (fr 237) (.int .i64 (2:Nat)) 238 fr hp K=_;rw[I.at (s:=237) rfl (R 13 (by decide))];exact cu nk) rfl rfl rfl rfl
 |15,hg,h0,R=>obtain rfl:=Kac hg;exact I.op (fun K=>by show bn 1 false (fr 238) 239 fr hp K=_;rw[I.at (s:=238) rfl (R 14 (by decide))];exact gC) rfl rfl rfl rfl
 |16,hg,h0,R=>obtain rfl:=Kac hg;exact I.op (fun K=>by show Q7 2 (fr 236) (fr 239) 240 fr hp K=_;rw[I.at (s:=236) rfl (R 12 (by decide)),I.at (s:=239) rfl (R 15 (by decide))];exact cu eL) rfl rfl rfl rfl
 |17,hg,h0,R=>obtain rfl:=Kac hg;exact I.op (fun K=>by show bn 2 true (fr 240) 241 fr hp K=_;rw[I.at (s:=240) rfl (R 16 (by decide))];exact gD) rfl rfl rfl rfl
 |18,hg,h0,R=>obtain rfl:=Kac hg;exact I.op (fun K=>congrArg (fun v=>K (ae fr 242 v) hp) (I.cK (s:=1) rfl)) rfl rfl rfl rfl
 |19,hg,h0,R=>obtain rfl:=Kac hg;exact I.op (fun K=>congrArg (fun v=>K (ae fr 243 v) hp) (I.cK (s:=5) rfl)) rfl rfl rfl rfl
 |20,hg,h0,R=>obtain rfl:=Kac hg;exact I.op (fun K=>by show Q7 1 (fr 243) (.int .i64 (3:Nat)) 244 fr hp K=_;rw[I.at (s:=243) rfl (R 19 (by decide))];exact cu Fe) rfl rfl rfl rfl
 |21,hg,h0,R=>obtain rfl:=Kac hg;exact I.op (fun K=>by show bn 1 false (fr 244) 245 fr hp K=_;rw[I.at (s:=244) rfl (R 20 (by decide))];exact gC) rfl rfl rfl rfl
 |22,hg,h0,R=>obtain rfl:=Kac hg;exact I.op (fun K=>by show Q7 2 (fr 242) (fr 245) 246 fr hp K=_;rw[I.at (s:=242) rfl (R 18 (by decide)),I.at (s:=245) rfl (R 21 (by decide))];exact cu Fg) rfl rfl rfl rfl
 |23,hg,h0,R=>obtain rfl:=Kac hg;exact I.op (fun K=>by show bn 2 true (fr 246) 247 fr hp K=_;rw[I.at (s:=246) rfl (R 22 (by decide))];exact gD) rfl rfl rfl rfl
 |24,hg,h0,R=>obtain rfl:=Kac hg;exact I.AM hP w0 (by show [fr 229,fr 235,fr 241,fr 247]=_;rw[I.at (s:=229) rfl (R 5 (by decide)),I.at (s:=235) rfl (R 11 (by decide)),I.at (s:=241) rfl (R 17 (by decide)),I.at (s:=247) rfl (R 23 (by decide))]) rfl rfl rfl rfl rfl rfl rfl
 |25,hg,h0,R=>obtain rfl:=Kac hg;exact I.op (fun K=>congrArg (fun v=>K (ae fr 249 v) hp) (I.cK (s:=1) rfl)) rfl rfl rfl rfl
 |26,hg,h0,R=>obtain rfl:=Kac hg;exact I.op (fun K=>congrArg (fun v=>K (ae fr 250 v) hp) (I.cK (s:=5) rfl)) rfl rfl rfl rfl
 |27,hg,h0,R=>obtain rfl:=Kac hg;exact I.op (fun K=>by show Q7 1 (fr 250) (.int .i64 (0:Nat)) 251 fr hp K=_;rw[I.at (s:=250) rfl (R 26 (by decide))];exact cu kF) rfl rfl rfl rfl
 |28,hg,h0,R=>obtain rfl:=Kac hg;exact I.op (fun K=>by show bn 1 false (fr 251) 252 fr hp K=_;rw[I.at (s:=251) rfl (R 27 (by decide))];exact gC) rfl rfl rfl rfl
 |29,hg,h0,R=>obtain rfl:=Kac hg;exact I.op (fun K=>by show Q7 2 (fr 249) (fr 252) 253 fr hp K=_;rw[I.at (s:=249) rfl (R 25 (by decide)),I.at (s:=252) rfl (R 28 (by decide))];exact cu jt) rfl rfl rfl rfl
 |30,hg,h0,R=>obtain rfl:=Kac hg;exact I.op (fun K=>by show bn 2 true (fr 253) 254 fr hp K=_;rw[I.at (s:=253) rfl (R 29 (by decide))];exact gD) rfl rfl rfl rfl
 |31,hg,h0,R=>obtain rfl:=Kac hg;exact I.op (fun K=>congrArg (fun v=>K (ae fr 255 v) hp) (I.cK (s:=1) rfl)) rfl rfl rfl rfl
 |32,hg,h0,R=>obtain rfl:=Kac hg;exact I.op (fun K=>congrArg (fun v=>K (ae fr 256 v) hp) (I.cK (s:=5) rfl)) rfl rfl rfl rfl
 |33,hg,h0,R=>obtain rfl:=Kac hg;exact I.op (fun K=>by show Q7 1 (fr 256) (.int .i64 (1:Nat)) 257 fr hp K=_;rw[I.at (s:=256) rfl (R 32 (by decide))];exact cu yp) rfl rfl rfl rfl
 |34,hg,h0,R=>obtain rfl:=Kac hg;exact I.op (fun K=>by show bn 1 false (fr 257) 258 fr hp K=_;rw[I.at (s:=257) rfl (R 33 (by decide))];exact gC) rfl rfl rfl rfl
 |35,hg,h0,R=>obtain rfl:=Kac hg;exact I.op (fun K=>by show Q7 2 (fr 255) (fr 258) 259 fr hp K=_;rw[I.at (s:=255) rfl (R 31 (by decide)),I.at (s:=258) rfl (R 34 (by decide))];exact cu nr) rfl rfl rfl rfl
 |36,hg,h0,R=>obtain rfl:=Kac hg;exact I.op (fun K=>by show bn 2 true (fr 259) 260 fr hp K=_;rw[I.at (s:=259) rfl (R 35 (by decide))];exact gD) rfl rfl rfl rfl
 |37,hg,h0,R=>obtain rfl:=Kac hg;exact I.op (fun K=>congrArg (fun v=>K (ae fr 261 v) hp) (I.cK (s:=1) rfl)) rfl rfl rfl rfl
 |38,hg,h0,R=>obtain rfl:=Kac hg;exact I.op (fun K=>congrArg (fun v=>K (ae fr 262 v) hp) (I.cK (s:=5) rfl)) rfl rfl rfl rfl
 |39,hg,h0,R=>obtain rfl:=Kac hg;exact I.op (fun K=>by show Q7 1 (fr 262) (.int .i64 (2:Nat)) 263 fr hp K=_;rw[I.at (s:=262) rfl (R 38 (by decide))];exact cu nk) rfl rfl rfl rfl
 |40,hg,h0,R=>obtain rfl:=Kac hg;exact I.op (fun K=>by show bn 1 false (fr 263) 264 fr hp K=_;rw[I.at (s:=263) rfl (R 39 (by decide))];exact gC) rfl rfl rfl rfl
 |41,hg,h0,R=>obtain rfl:=Kac hg;exact I.op (fun K=>by show Q7 2 (fr 261) (fr 264) 265 fr hp K=_;rw[I.at (s:=261) rfl (R 37 (by decide)),I.at (s:=264) rfl (R 40 (by decide))];exact cu eL) rfl rfl rfl rfl
 |42,hg,h0,R=>obtain rfl:=Kac hg;exact I.op (fun K=>by show bn 2 true (fr 265) 266 fr hp K=_;rw[I.at (s:=265) rfl (R 41 (by decide))];exact gD) rfl rfl rfl rfl
 |43,hg,h0,R=>obtain rfl:=Kac hg;exact I.op (fun K=>congrArg (fun v=>K (ae fr 267 v) hp) (I.cK (s:=1) rfl)) rfl rfl rfl rfl
 |44,hg,h0,R=>obtain rfl:=Kac hg;exact I.op (fun K=>congrArg (fun v=>K (ae fr 268 v) hp) (I.cK (s:=5) rfl)) rfl rfl rfl rfl
 |45,hg,h0,R=>obtain rfl:=Kac hg;exact I.op (fun K=>by show Q7 1 (fr 268) (.int .i64 (3:Nat)) 269 fr hp K=_;rw[I.at (s:=268) rfl (R 44 (by decide))];exact cu Fe) rfl rfl rfl rfl
 |46,hg,h0,R=>obtain rfl:=Kac hg;exact I.op (fun K=>by show bn 1 false (fr 269) 270 fr hp K=_;rw[I.at (s:=269) rfl (R 45 (by decide))];exact gC) rfl rfl rfl rfl
 |47,hg,h0,R=>obtain rfl:=Kac hg;exact I.op (fun K=>by show Q7 2 (fr 267) (fr 270) 271 fr hp K=_;rw[I.at (s:=267) rfl (R 43 (by decide)),I.at (s:=270) rfl (R 46 (by decide))];exact cu Fg) rfl rfl rfl rfl
 |48,hg,h0,R=>obtain rfl:=Kac hg;exact I.op (fun K=>by show bn 2 true (fr 271) 272 fr hp K=_;rw[I.at (s:=271) rfl (R 47 (by decide))];exact gD) rfl rfl rfl rfl
 |49,hg,h0,R=>obtain rfl:=Kac hg;exact I.AM hP w1 (by show [fr 254,fr 260,fr 266,fr 272]=_;rw[I.at (s:=254) rfl (R 30 (by decide)),I.at (s:=260) rfl (R 36 (by decide)),I.at (s:=266) rfl (R 42 (by decide)),I.at (s:=272) rfl (R 48 (by decide))]) rfl rfl rfl rfl rfl rfl rfl
 |50,hg,h0,R=>obtain rfl:=Kac hg;exact I.op (fun K=>congrArg (fun v=>K (ae fr 274 v) hp) (I.cK (s:=1) rfl)) rfl rfl rfl rfl
 |51,hg,h0,R=>obtain rfl:=Kac hg;exact I.op (fun K=>congrArg (fun v=>K (ae fr 275 v) hp) (I.cK (s:=5) rfl)) rfl rfl rfl rfl
 |52,hg,h0,R=>obtain rfl:=Kac hg;exact I.op (fun K=>by show Q7 1 (fr 275) (.int .i64 (4:Nat)) 276 fr hp K=_;rw[I.at (s:=275) rfl (R 51 (by decide))];exact cu R7) rfl rfl rfl rfl
 |53,hg,h0,R=>obtain rfl:=Kac hg;exact I.op (fun K=>by show bn 1 false (fr 276) 277 fr hp K=_;rw[I.at (s:=276) rfl (R 52 (by decide))];exact gC) rfl rfl rfl rfl
 |54,hg,h0,R=>obtain rfl:=Kac hg;exact I.op (fun K=>by show Q7 2 (fr 274) (fr 277) 278 fr hp K=_;rw[I.at (s:=274) rfl (R 50 (by decide)),I.at (s:=277) rfl (R 53 (by decide))];exact cu Sj) rfl rfl rfl rfl
 |55,hg,h0,R=>obtain rfl:=Kac hg;exact I.op (fun K=>by show bn 2 true (fr 278) 279 fr hp K=_;rw[I.at (s:=278) rfl (R 54 (by decide))];exact gD) rfl rfl rfl rfl
 |56,hg,h0,R=>obtain rfl:=Kac hg;exact I.op (fun K=>congrArg (fun v=>K (ae fr 280 v) hp) (I.cK (s:=1) rfl)) rfl rfl rfl rfl
 |57,hg,h0,R=>obtain rfl:=Kac hg;exact I.op (fun K=>congrArg (fun v=>K (ae fr 281 v) hp) (I.cK (s:=5) rfl)) rfl rfl rfl rfl
 |58,hg,h0,R=>obtain rfl:=Kac hg;exact I.op (fun K=>by show Q7 1 (fr 281) (.int .i64 (5:Nat)) 282 fr hp K=_;rw[I.at (s:=281) rfl (R 57 (by decide))];exact cu R8) rfl rfl rfl rfl
 |59,hg,h0,R=>obtain rfl:=Kac hg;exact I.op (fun K=>by show bn 1 false (fr 282) 283 fr hp K=_;rw[I.at (s:=282) rfl (R 58 (by decide))];exact gC) rfl rfl rfl rfl
 |60,hg,h0,R=>obtain rfl:=Kac hg;exact I.op (fun K=>by show Q7 2 (fr 280) (fr 283) 284 fr hp K=_;rw[I.at (s:=280) rfl (R 56 (by decide)),I.at (s:=283) rfl (R 59 (by decide))];exact cu Sk) rfl rfl rfl rfl
 |61,hg,h0,R=>obtain rfl:=Kac hg;exact I.op (fun K=>by show bn 2 true (fr 284) 285 fr hp K=_;rw[I.at (s:=284) rfl (R 60 (by decide))];exact gD) rfl rfl rfl rfl
 |62,hg,h0,R=>obtain rfl:=Kac hg;exact I.op (fun K=>congrArg (fun v=>K (ae fr 286 v) hp) (I.cK (s:=1) rfl)) rfl rfl rfl rfl
 |63,hg,h0,R=>obtain rfl:=Kac hg;exact I.op (fun K=>congrArg (fun v=>K (ae fr 287 v) hp) (I.cK (s:=5) rfl)) rfl rfl rfl rfl
 |64,hg,h0,R=>obtain rfl:=Kac hg;exact I.op (fun K=>by show Q7 1 (fr 287) (.int .i64 (6:Nat)) 288 fr hp K=_;rw[I.at (s:=287) rfl (R 63 (by decide))];exact cu R9) rfl rfl rfl rfl
 |65,hg,h0,R=>obtain rfl:=Kac hg;exact I.op (fun K=>by show bn 1 false (fr 288) 289 fr hp K=_;rw[I.at (s:=288) rfl (R 64 (by decide))];exact gC) rfl rfl rfl rfl
 |66,hg,h0,R=>obtain rfl:=Kac hg;exact I.op (fun K=>by show Q7 2 (fr 286) (fr 289) 290 fr hp K=_;rw[I.at (s:=286) rfl (R 62 (by decide)),I.at (s:=289) rfl (R 65 (by decide))];exact cu Sl) rfl rfl rfl rfl
 |67,hg,h0,R=>obtain rfl:=Kac hg;exact I.op (fun K=>by show bn 2 true (fr 290) 291 fr hp K=_;rw[I.at (s:=290) rfl (R 66 (by decide))];exact gD) rfl rfl rfl rfl
 |68,hg,h0,R=>obtain rfl:=Kac hg;exact I.op (fun K=>congrArg (fun v=>K (ae fr 292 v) hp) (I.cK (s:=1) rfl)) rfl rfl rfl rfl
 |69,hg,h0,R=>obtain rfl:=Kac hg;exact I.op (fun K=>congrArg (fun v=>K (ae fr 293 v) hp) (I.cK (s:=5) rfl)) rfl rfl rfl rfl
 |70,hg,h0,R=>obtain rfl:=Kac hg;exact I.op (fun K=>by show Q7 1 (fr 293) (.int .i64 (7:Nat)) 294 fr hp K=_;rw[I.at (s:=293) rfl (R 69 (by decide))];exact cu Sa) rfl rfl rfl rfl
 |71,hg,h0,R=>obtain rfl:=Kac hg;exact I.op (fun K=>by show bn 1 false (fr 294) 295 fr hp K=_;rw[I.at (s:=294) rfl (R 70 (by decide))];exact gC) rfl rfl rfl rfl
 |72,hg,h0,R=>obtain rfl:=Kac hg;exact I.op (fun K=>by show Q7 2 (fr 292) (fr 295) 296 fr hp K=_;rw[I.at (s:=292) rfl (R 68 (by decide)),I.at (s:=295) rfl (R 71 (by decide))];exact cu Sm) rfl rfl rfl rfl
 |73,hg,h0,R=>obtain rfl:=Kac hg;exact I.op (fun K=>by show bn 2 true (fr 296) 297 fr hp K=_;rw[I.at (s:=296) rfl (R 72 (by decide))];exact gD) rfl rfl rfl rfl
 |74,hg,h0,R=>obtain rfl:=Kac hg;exact I.AM hP w2 (by show [fr 279,fr 285,fr 291,fr 297]=_;rw[I.at (s:=279) rfl (R 55 (by decide)),I.at (s:=285) rfl (R 61 (by decide)),I.at (s:=291) rfl (R 67 (by decide)),I.at (s:=297) rfl (R 73 (by decide))]) rfl rfl rfl rfl rfl rfl rfl
 |75,hg,h0,R=>obtain rfl:=Kac hg;exact I.op (fun K=>congrArg (fun v=>K (ae fr 299 v) hp) (I.cK (s:=1) rfl)) rfl rfl rfl rfl
 |76,hg,h0,R=>obtain rfl:=Kac hg;exact I.op (fun K=>congrArg (fun v=>K (ae fr 300 v) hp) (I.cK (s:=5) rfl)) rfl rfl rfl rfl
 |77,hg,h0,R=>obtain rfl:=Kac hg;exact I.op (fun K=>by show Q7 1 (fr 300) (.int .i64 (4:Nat)) 301 fr hp K=_;rw[I.at (s:=300) rfl (R 76 (by decide))];exact cu R7) rfl rfl rfl rfl
 |78,hg,h0,R=>obtain rfl:=Kac hg;exact I.op (fun K=>by show bn 1 false (fr 301) 302 fr hp K=_;rw[I.at (s:=301) rfl (R 77 (by decide))];exact gC) rfl rfl rfl rfl
 |79,hg,h0,R=>obtain rfl:=Kac hg;exact I.op (fun K=>by show Q7 2 (fr 299) (fr 302) 303 fr hp K=_;rw[I.at (s:=299) rfl (R 75 (by decide)),I.at (s:=302) rfl (R 78 (by decide))];exact cu Sj) rfl rfl rfl rfl
 |80,hg,h0,R=>obtain rfl:=Kac hg;exact I.op (fun K=>by show bn 2 true (fr 303) 304 fr hp K=_;rw[I.at (s:=303) rfl (R 79 (by decide))];exact gD) rfl rfl rfl rfl
 |81,hg,h0,R=>obtain rfl:=Kac hg;exact I.op (fun K=>congrArg (fun v=>K (ae fr 305 v) hp) (I.cK (s:=1) rfl)) rfl rfl rfl rfl
 |82,hg,h0,R=>obtain rfl:=Kac hg;exact I.op (fun K=>congrArg (fun v=>K (ae fr 306 v) hp) (I.cK (s:=5) rfl)) rfl rfl rfl rfl
 |83,hg,h0,R=>obtain rfl:=Kac hg;exact I.op (fun K=>by show Q7 1 (fr 306) (.int .i64 (5:Nat)) 307 fr hp K=_;rw[I.at (s:=306) rfl (R 82 (by decide))];exact cu R8) rfl rfl rfl rfl
 |84,hg,h0,R=>obtain rfl:=Kac hg;exact I.op (fun K=>by show bn 1 false (fr 307) 308 fr hp K=_;rw[I.at (s:=307) rfl (R 83 (by decide))];exact gC) rfl rfl rfl rfl
 |85,hg,h0,R=>obtain rfl:=Kac hg;exact I.op (fun K=>by show Q7 2 (fr 305) (fr 308) 309 fr hp K=_;rw[I.at (s:=305) rfl (R 81 (by decide)),I.at (s:=308) rfl (R 84 (by decide))];exact cu Sk) rfl rfl rfl rfl
 |86,hg,h0,R=>obtain rfl:=Kac hg;exact I.op (fun K=>by show bn 2 true (fr 309) 310 fr hp K=_;rw[I.at (s:=309) rfl (R 85 (by decide))];exact gD) rfl rfl rfl rfl
 |87,hg,h0,R=>obtain rfl:=Kac hg;exact I.op (fun K=>congrArg (fun v=>K (ae fr 311 v) hp) (I.cK (s:=1) rfl)) rfl rfl rfl rfl
 |88,hg,h0,R=>obtain rfl:=Kac hg;exact I.op (fun K=>congrArg (fun v=>K (ae fr 312 v) hp) (I.cK (s:=5) rfl)) rfl rfl rfl rfl
 |89,hg,h0,R=>obtain rfl:=Kac hg;exact I.op (fun K=>by show Q7 1 (fr 312) (.int .i64 (6:Nat)) 313 fr hp K=_;rw[I.at (s:=312) rfl (R 88 (by decide))];exact cu R9) rfl rfl rfl rfl
 |90,hg,h0,R=>obtain rfl:=Kac hg;exact I.op (fun K=>by show bn 1 false (fr 313) 314 fr hp K=_;rw[I.at (s:=313) rfl (R 89 (by decide))];exact gC) rfl rfl rfl rfl
 |91,hg,h0,R=>obtain rfl:=Kac hg;exact I.op (fun K=>by show Q7 2 (fr 311) (fr 314) 315 fr hp K=_;rw[I.at (s:=311) rfl (R 87 (by decide)),I.at (s:=314) rfl (R 90 (by decide))];exact cu Sl) rfl rfl rfl rfl
 |92,hg,h0,R=>obtain rfl:=Kac hg;exact I.op (fun K=>by show bn 2 true (fr 315) 316 fr hp K=_;rw[I.at (s:=315) rfl (R 91 (by decide))];exact gD) rfl rfl rfl rfl
 |93,hg,h0,R=>obtain rfl:=Kac hg;exact I.op (fun K=>congrArg (fun v=>K (ae fr 317 v) hp) (I.cK (s:=1) rfl)) rfl rfl rfl rfl
 |94,hg,h0,R=>obtain rfl:=Kac hg;exact I.op (fun K=>congrArg (fun v=>K (ae fr 318 v) hp) (I.cK (s:=5) rfl)) rfl rfl rfl rfl
 |95,hg,h0,R=>obtain rfl:=Kac hg;exact I.op (fun K=>by show Q7 1 (fr 318) (.int .i64 (7:Nat)) 319 fr hp K=_;rw[I.at (s:=318) rfl (R 94 (by decide))];exact cu Sa) rfl rfl rfl rfl
 |96,hg,h0,R=>obtain rfl:=Kac hg;exact I.op (fun K=>by show bn 1 false (fr 319) 320 fr hp K=_;rw[I.at (s:=319) rfl (R 95 (by decide))];exact gC) rfl rfl rfl rfl
 |97,hg,h0,R=>obtain rfl:=Kac hg;exact I.op (fun K=>by show Q7 2 (fr 317) (fr 320) 321 fr hp K=_;rw[I.at (s:=317) rfl (R 93 (by decide)),I.at (s:=320) rfl (R 96 (by decide))];exact cu Sm) rfl rfl rfl rfl
 |98,hg,h0,R=>obtain rfl:=Kac hg;exact I.op (fun K=>by show bn 2 true (fr 321) 322 fr hp K=_;rw[I.at (s:=321) rfl (R 97 (by decide))];exact gD) rfl rfl rfl rfl
 |99,hg,h0,R=>obtain rfl:=Kac hg;exact I.AM hP w3 (by show [fr 304,fr 310,fr 316,fr 322]=_;rw[I.at (s:=304) rfl (R 80 (by decide)),I.at (s:=310) rfl (R 86 (by decide)),I.at (s:=316) rfl (R 92 (by decide)),I.at (s:=322) rfl (R 98 (by decide))]) rfl rfl rfl rfl rfl rfl rfl
 |100,hg,h0,R=>obtain rfl:=Kac hg;exact I.AM hP w4 (by show [fr 248,fr 273,fr 298,fr 323]=_;rw[I.at (s:=248) rfl (R 24 (by decide)),I.at (s:=273) rfl (R 49 (by decide)),I.at (s:=298) rfl (R 74 (by decide)),I.at (s:=323) rfl (R 99 (by decide))]) rfl rfl rfl rfl rfl rfl rfl
 |101,hg,h0,R=>obtain rfl:=Kac hg;exact I.bs (j:=102) (by show [fr 324]=_;rw[I.at (s:=324) rfl (R 100 (by decide))]) rfl (by decide) (apO) rfl rfl (tP D h0 (by decide)) rfl rfl rfl rfl rfl (by decide)
 |102,hg,h0,R=>obtain rfl:=Kac hg;exact I.op (fun K=>congrArg (fun v=>K (ae fr 4 v) hp) (I.at (s:=325) rfl (R 101 (by decide)))) rfl rfl rfl rfl
 |i+103,hg,h0,R=>cases hg
theorem ZV{x y:Int}(hx:nl x.natAbs<2^38)(hy:nl y.natAbs<2^38)(h0:y≠0):Qd Tryz.prog 59 [PV.zz x,PV.zz y] (· = .aG [PV.rat ((x:Rat)/(y:Rat)),.int .i64 0]):=by
 have hv:=PC x y h0;have hr:=Oa (n:=decide (x<0) !=decide (y<0)) (a:=ak x.natAbs) (d:=ak y.natAbs) (Qk _) (Qk _) hx hy;rw[rv,Qt,hv]at hr;have hs:=CN (n:=decide (y<0)) (a:=ak y.natAbs) (Qk _) (by show nl _<_;omega);rw[lR]at hs;generalize(x:Rat)/(y:Rat)=Q at *
 refine aB Qg Tryz.func59 agA fun C hP=>?_;refine Sz0 ?_;refine Qa hP hs rfl rfl rfl ?_;refine Sz0 ?_;refine Qb (fun h=>absurd (DG.1 h) h0) (fun _=>?_);refine Sz0 ?_;refine Qa hP hr rfl rfl rfl ?_;refine Sz0 ?_;refine eA ?_;refine Sz0 ?_;exact cA rfl rfl rfl (Qf _) (Qf _)
theorem ZW{n m:Bool}{a d b c:List Nat}{k:Nat}(hp:Raw k n a d)(hq:Raw k m b c)(hk:k<2^34)(h0:rv m b c≠0):Qd Tryz.prog 27 [PV.rr n a d,PV.rr m b c] (· = .aG [PV.rat (rv n a d/rv m b c),.int .i64 0]):=by
 refine aB Qg Tryz.func27 agB fun C hP=>?_;refine Sz0 ?_;refine fM hP (r8 hp.la hp.ld hp.k1 hp.sa hp.sd (by omega)) rfl rfl rfl ?_;rintro _ ⟨n',a',d',rfl,g1,g2,g3,g4,g5,g6⟩;refine Sz0 ?_;refine fM hP (r8 hq.la hq.ld hq.k1 hq.sa hq.sd (by omega)) rfl rfl rfl ?_;rintro _ ⟨m',b',c',rfl,e1,e2,e3,e4,e5,e6⟩;refine Sz0 ?_;have yK:nl (zv n' a').natAbs<=k:=by rw[iO];exact KaL (bF g1) g3
 have Km:nl (zv m' b').natAbs<=k:=by rw[iO];exact KaL (bF e1) e3
 have Ki:nl (val d')<=k:=KaL (bF g2) g4;have wB:nl (val c')<=k:=KaL (bF e2) e4;have h3:=kj (zv n' a') (val c');have h6:=kj (zv m' b') (val d');rw[KaD]at h3 h6;have TH:zv m' b'≠0:=fun h=>h0 (by rw[<-e6,rv,h,Rat.zero_mkRat]);have aT:zv m' b'*(val d':Int)≠0:=Int.mul_ne_zero TH (by omega);have dT:=aiQ (n:=n') (a:=a') (m:=m') (b:=b') g5 e5 TH;rw[g6,e6]at dT;have qp:=rZ (n:=n') (m:=false) g1 e2 (by omega) (by omega);have pg:=rZ (n:=m') (m:=false) e1 g2 (by omega) (by omega);rw[sg]at qp pg;refine Qa hP (tz c') rfl rfl rfl ?_;refine Sz0 ?_;refine Qa hP qp rfl rfl rfl ?_;refine Sz0 ?_;refine Qa hP (tz d') rfl rfl rfl ?_;refine Sz0 ?_;refine Qa hP pg rfl rfl rfl ?_;generalize zv n' a'*(val c':Int)=X at *
 generalize zv m' b'*(val d':Int)=Y at *
 refine Sz0 ?_;refine Qa hP (ZV (x:=X) (y:=Y) (by omega) (by omega) aT) rfl rfl rfl ?_;rw[dT];generalize rv n a d/rv m b c=Q at *
 refine Sz0 ?_;refine eA ?_;refine Sz0 ?_;exact cA rfl rfl rfl (Qf _) (Qf _)
theorem NG{a b:Rat}{k:Nat}(ha:rs a<=k)(hb:rs b<=k)(hk:k<2^34)(h0:b≠0):Qd Tryz.prog 27 [PV.rat a,PV.rat b] (· = .aG [PV.rat (a/b),.int .i64 0]):=by
 have:=ZW (gV ha) (gV hb) hk (by rw[gF];exact h0)
 rwa[gF,gF]at this
theorem ZX{x:Int}(hx:nl x.natAbs<2^40):Qd Tryz.prog 121 [PV.zz x] (· =PV.zz (-x)):=by
 have hs:=tA (n:= !decide (x<0)) (a:=ak x.natAbs) (Qk _) (by show nl _<_;omega);have e:zv (!decide (x<0)) (ak x.natAbs)= -x:=by rw[sA];by_cases h:x<0<;>simp[h]<;>omega
 rw[e]at hs;refine aB Qg Tryz.func121 aej fun C hP=>?_;refine Sz0 ?_;refine Qa hP hs rfl rfl rfl ?_;refine Sz0 ?_;refine cY ?_;refine Sz0 ?_;exact Qc rfl rfl
theorem WL{x y:Int}(hx:nl x.natAbs<2^35)(hy:nl y.natAbs<2^35)(h0:y≠0):Qd Tryz.prog 67 [PV.zz x,PV.zz y] (· = .aG [PV.rat ((x:Rat)/(y:Rat)),.int .i64 0]):=by
 have h3:(y:Rat)≠0:=by rw[Ne,KaS];exact h0
 have ir:nl (-x).natAbs<2^35:=by rw[KcL];exact hx
 have o1:=zs (z:=x) (D:=y.natAbs) (by omega) (by omega);have o2:=zs (z:= -x) (D:=y.natAbs) (by omega) (by omega);have e1:¬y<0->mkRat x y.natAbs=(x:Rat)/(y:Rat):=fun h=>by rw[KbP,<-Rat.intCast_natCast];congr 2;omega
 have e2:y<0->mkRat (-x) y.natAbs=(x:Rat)/(y:Rat):=fun h=>by
  have e:(((y.natAbs:Nat):Int):Rat)= -(y:Rat):=by rw[<-Rat.intCast_neg];congr 1;omega
  rw[KbP,<-Rat.intCast_natCast,e,Rat.intCast_neg];grind
 refine aB Qg Tryz.func67 ag1 fun C hP=>?_;refine Sz0 ?_;refine Qa hP (Ht (by omega)) rfl rfl rfl ?_;refine Sz0 ?_;refine Qb (fun h=>absurd (DG.1 h) h0) (fun _=>?_);refine Sz0 ?_;refine Qb (fun hn=>?_) (fun hn=>?_)
 ·rw[e2 hn]at o2;generalize(x:Rat)/(y:Rat)=Q at *
  refine Sz0 ?_;refine Qa hP (ZX (x:=x) (by omega)) rfl rfl rfl ?_;refine Sz0 ?_;refine Qa hP o2 rfl rfl rfl ?_;refine Sz0 ?_;refine eA ?_;refine Sz0 ?_;exact cA rfl rfl rfl (Qf _) (Qf _)
 ·rw[e1 hn]at o1;generalize(x:Rat)/(y:Rat)=Q at *
  refine Sz0 ?_;refine Qa hP o1 rfl rfl rfl ?_;refine Sz0 ?_;refine eA ?_;refine Sz0 ?_;exact cA rfl rfl rfl (Qf _) (Qf _)
theorem Raw.not{n:Bool}{a d:List Nat}{k:Nat}(h:Raw k n a d):Raw k (!n) a d:=⟨h.la,h.ld,h.sa,h.sd,h.k1⟩
abbrev C3(c:Cd):Prop:=CQ 7 128 3 c
theorem C3.cb{c:Cd}(h:C3 c):CB c:=h.mono (by omega) (by omega) (by omega)
theorem Eg{a b c d:Cd}(ha:C3 a)(hb:C3 b)(hc:C3 c)(hd:C3 d):PQ 392 14450 6 (ks a b c d):=
 (((hb.x.sub ha.x).mul (hd.y.sub hc.y)).sub ((hb.y.sub ha.y).mul (hd.x.sub hc.x))).mono (by omega) (by omega) (by omega)
theorem B9{a b c d:Cd}(ha:C3 a)(hb:C3 b)(hc:C3 c)(hd:C3 d):PQ 392 14450 6 (dJ a b c d):=
 (((hb.x.sub ha.x).mul (hd.x.sub hc.x)).add ((hb.y.sub ha.y).mul (hd.y.sub hc.y))).mono (by omega) (by omega) (by omega)
theorem NH{p q:List Tm}(hp:PQ 392 14450 6 p)(hq:PQ 392 14450 6 q):PQ 153664 11328800 12 (aV p q):=(hp.mul hq).mono (by omega) (by omega) (by omega)
def pW(a b c d e f g h:Cd):List Tm:=bQ (aV (ks a b c d) (dJ e f g h)) (aV (ks e f g h) (dJ a b c d))
theorem PH{p:List Tm}{T K E:Nat}(h:PQ T K E p):Q5 p 1=p:=
 tH (h.scale (a:=1) (L:=2) (by decide+kernel)).n h.n fun φ=>by rw[qE φ h.n.c];grind
def iT(k:Int)(p:Nat->Cd)(r:Rat):List (List Tm):=
 if k=1 then [ks (p 0) (p 1) (p 0) (p 2)]else if k=2 then [ks (p 0) (p 1) (p 2) (p 3)]else if k=3 then [dJ (p 0) (p 1) (p 2) (p 3)]
 else if k=4 then [bQ (dJ (p 0) (p 1) (p 0) (p 1)) (dJ (p 2) (p 3) (p 2) (p 3))]
 else if k=5 then [bQ (Qq (p 1).1 (p 2).1) (Qq (p 0).1 (p 0).1),bQ (Qq (p 1).2 (p 2).2) (Qq (p 0).2 (p 0).2)]
 else if k=6 then [pW (p 1) (p 0) (p 1) (p 2) (p 3) (p 0) (p 3) (p 2)]
 else if k=7 then [pW (p 0) (p 1) (p 2) (p 3) (p 4) (p 5) (p 6) (p 7)]
 else if k=8 then [bQ (p 0).1 (p 1).1,bQ (p 0).2 (p 1).2]
 else [bQ (dJ (p 0) (p 1) (p 0) (p 1)) (Q5 (dJ (p 2) (p 3) (p 2) (p 3)) r)]
abbrev PV.eI(l:List (List Tm)):PV:=.sl 1 (l.map PV.ao)
theorem gZ{p q p' q':PV}{R:PV->Prop}(h:R (.aG [p',q']))(d1:p.aD=true)(d2:q.aD=true)(h1:PV.le p p')(h2:PV.le q q'):Av R p q:=by obtain⟨g1,r,g2,g3⟩:=cA (r:=.aG [p',q']) rfl d1 d2 h1 h2;subst g3;exact⟨g1,_,g2,h⟩
set_option maxHeartbeats 1000000 in
theorem KQ(hN:oM){S:List Q8}{G:List bD}(hF:nS S G)(hS:S.length<2^40)(hG:G.length<2^40)(hb:∀s∈S,jR s)(hg:∀g∈G,l9 g):
  Qd Tryz.prog 40 [PV.cw S G] (· = .aG [PV.frame (bC S S.length).1 (bC S S.length).2.1,.int .i64 0]):=by
 have hR:=HN hN hS hG hb hg;have hSl:=hF.l;refine mP Qg Tryz.func40 rfl aie Nz fun C hP=>?_;simp only[Rw];refine du ?_;refine Sz0 ?_;refine fM hP hR rfl rfl rfl ?_;rintro _ ⟨e,rfl,yv⟩;obtain rfl:e=0:=yv.2 hF.o;refine Sz0 ?_;refine bT (pN 5 2000020 bf (by omega) rfl (by omega)) ?_;refine Sz0 ?_;refine bT (pK (γ:=2000020) (e:=2) (ty:=30) (xs:=[.agg [.aa,.aa]]) (fz:=false) Tz0 (by simp) (by omega) (fun x hx=>by rw[Kay.1 hx];rfl)) ?_;refine Sz0 ?_;refine bT (LO (γ:=2000020) (e:=2) (ty:=30) (cs:=[.aa,.aa]) (cs':=[.au 2000000 0 0,.aa]) 2000000 2 135 Tz0 bf (by omega) (by omega) rfl (by simp)) ?_;refine Sz0 ?_;refine bT (L5 (γ:=2000020) (e:=2) (ty:=30) (cs:=[.au 2000000 0 0,.aa]) (cs':=[.au 2000000 0 0,.au 2000001 0 0]) 2000001 3 193 Tz0 bf (by omega) (by omega) rfl (by simp)) ?_;refine Sz0 ?_;refine DK eH [(3,3),(5,10),(20,62),(2000020,2000021)] [8,9,10,54,55] (fun q J hp=>∃i,q=S.length-i/\i<=S.length/\J 5= .np 2000020 0 0/\J 6= .int .i64 ((bC S i).2.2:Nat)/\J 20= .int .i64 (i:Nat)/\J 2000020= .aF 2000020 2 30 [Co i (bC S i).2.1.length]/\hp 2000020=some ⟨2,30,[],false⟩/\hp 2000021=none/\
   hp 2000000=some (yq (bC S i).1)/\hp 2000001=some (yr (bC S i).2.1)/\hp 1=some ⟨2,25,[PV.cw S G],false⟩/\hp 2=some ⟨2,30,[.agg [.aa,.aa]],false⟩) S.length ?_ ?_
 ·refine⟨0,rfl,by omega,?_⟩;refine Sz0 ?_;exact⟨rfl,rfl,rfl,rfl,rfl⟩
 rintro _ J h ⟨i,rfl,hi,j5,j6,gy,g5,k5,kn,k0,k1,kf,kr⟩;refine Sz1 gy ?_;refine Qb (fun hc=>?_) (fun hc=>?_)
 ·have az:i<S.length:=by omega
  have hd:S.getD i cJ=S[i]:=by rw[Kae,Kag az];rfl
  have cX:=su S i;obtain⟨jA,yt⟩:=Ew S i;have jb:∀c∈(bC S i).1,CB c:=fun c hc=>by obtain⟨n,hn,rfl⟩:=KaA hc;obtain⟨w,_,w8,_,hw⟩:=As hF hb i hi n (by omega);rw[Kae,Kag hn]at hw;exact NB hw w8
  have ir:=ait (S:=S) (G:=G) (b:=(bC S i).2.2) (vs:=(bC S i).2.1) az (by omega) (hF.f.s i az) cX jb (by omega) (by omega) (fun _=>⟨(hF.s _ (Kah az)).1,(hF.s _ (Kah az)).2,(hb _ (Kah az)).r⟩);have Jy:CB (jl S[i].k (rv S[i].n S[i].a S[i].d) (cC (bC S i).1 S[i].args) (bC S i).2.1.length (bC S i).2.2):=by obtain⟨w,_,w8,_,hw⟩:=As hF hb (i+1) (by omega) i (by omega);rw[bC,hd,Kae]at hw;simp only at hw;rw[Kb0 (by omega),cX,KbH]at hw;exact NB hw w8
  have gQ:=QT S[i].k (i:Nat) (bC S i).2.2;have yB:bC S (i+1)=((bC S i).1++[jl S[i].k (rv S[i].n S[i].a S[i].d) (cC (bC S i).1 S[i].args) (bC S i).2.1.length (bC S i).2.2],(bC S i).2.1++lT S[i].k (i:Nat) (bC S i).2.2,if S[i].k=1 then(bC S i).2.2+1 else(bC S i).2.2):=by rw[bC,hd]
  rw[pV,cX]at ir;obtain⟨F,I8⟩:∃F,bC S i=F:=⟨_,rfl⟩
  rw[I8]at g5 k0 k1 j6 jA yt jb ir Jy gQ yB cX;generalize jl S[i].k (rv S[i].n S[i].a S[i].d) (cC F.1 S[i].args) F.2.1.length F.2.2=c at *
  generalize lT S[i].k (i:Nat) F.2.2=nv at *
  generalize hx:S[i]=s at *
  refine Sz6 gy j5 j6 g5 kf hx ?_;refine bT (xg (γ:=2000020) (e:=2) (ty:=30) (cs:=[.au 2000000 0 i,.au 2000001 0 F.2.1.length]) (Tz1 g5)) ?_;refine Sz5 gy j5 j6 k5 kf ?_;refine pJ hP ir (Tz1 k0) (Tz1 k1) rfl rfl rfl (by simp) ?_;rw[ND,NF (fun x hx=>by rcases xr.1 hx with rfl|rfl<;>omega)];refine Sz2 j5 k5 ?_;refine bT (pN 9 2000021 (lf kn) (by omega) rfl (by omega)) ?_;refine Sz1 kn ?_;refine bT (pK (γ:=2000021) (e:=2) (ty:=30) (xs:=[.agg [.aa,.aa]]) (fz:=false) (Tz1 kn) (by simp) (by omega) (fun x hx=>by rw[Kay.1 hx];rfl)) ?_;rw[afQ rfl (by omega)];have d1:decide (64<((F.2.1++nv).length:Int))=false:=decide_eq_false (by rw[Kaw];omega);have d2:decide (4000<(c.1.length:Int))=false:=decide_eq_false (by have:=Jy.x.l;omega);have d3:decide (4000<(c.2.length:Int))=false:=decide_eq_false (by have:=Jy.y.l;omega);refine Sz3 d1 d2 d3 ?_;refine bT (afS 2000021) ?_;rw[ajO (by omega)];generalize hJ:ia (one 2000021) _=J';have w5:J' 5= .np 2000020 0 0:=by rw[<-hJ];simp+decide (disch:=try exact D4 g5 j5 j6 gy) only[go_sem,g5,j5,j6,gy]<;>rfl
  have w6:J' 6= .int .i64 (F.2.2:Nat):=by rw[<-hJ];simp+decide (disch:=try exact D4 g5 j5 j6 gy) only[go_sem,g5,j5,j6,gy]<;>rfl
  have w8:J' 8= .mp 8 0 0:=by rw[<-hJ];simp+decide (disch:=try exact D4 g5 j5 j6 gy) only[go_sem,g5,j5,j6,gy]<;>rfl
  have w10:J' 10= .mp 10 0 0:=by rw[<-hJ];simp+decide (disch:=try exact D4 g5 j5 j6 gy) only[go_sem,g5,j5,j6,gy]<;>rfl
  have Ul:J' 20= .int .i64 (i:Nat):=by rw[<-hJ];simp+decide (disch:=try exact D4 g5 j5 j6 gy) only[go_sem,g5,j5,j6,gy]<;>rfl
  have w50:J' 50= .aK [.au 2000000 0 i,.au 2000001 0 (F.2.1++nv).length]:=by rw[<-hJ];simp+decide (disch:=try exact D4 g5 j5 j6 gy) only[go_sem,g5,j5,j6,gy]<;>rfl
  have aqb:J' 2000020= .aF 2000020 2 30 [.aK [.undef,.undef]]:=by rw[<-hJ];simp+decide (disch:=try exact D4 g5 j5 j6 gy) only[go_sem,g5,j5,j6,gy]<;>rfl
  generalize hH:I3 (one 2000021) _=H';have v1:H' 1=some ⟨2,25,[PV.cw S G],false⟩:=by rw[<-hH];simp+decide (disch:=try exact D6 kf kr k5 k0 k1 kn) only[go_sem,kf,kr,k5,k0,k1,kn]<;>rfl
  have v2:H' 2=some ⟨2,30,[.agg [.aa,.aa]],false⟩:=by rw[<-hH];simp+decide (disch:=try exact D6 kf kr k5 k0 k1 kn) only[go_sem,kf,kr,k5,k0,k1,kn]<;>rfl
  have v8:H' 8=some ⟨6,133,[PV.oD s],false⟩:=by rw[<-hH];simp+decide (disch:=try exact D6 kf kr k5 k0 k1 kn) only[go_sem,kf,kr,k5,k0,k1,kn]<;>rfl
  have v10:H' 10=some ⟨2,135,[PV.aC c],false⟩:=by rw[<-hH];simp+decide (disch:=try exact D6 kf kr k5 k0 k1 kn) only[go_sem,kf,kr,k5,k0,k1,kn]<;>rfl
  have ap8:H' 2000000=some (yq F.1):=by rw[<-hH];simp+decide (disch:=try exact D6 kf kr k5 k0 k1 kn) only[go_sem,kf,kr,k5,k0,k1,kn]<;>rfl
  have Uj:H' 2000001=some (yr (F.2.1++nv)):=by rw[<-hH];simp+decide (disch:=try exact D6 kf kr k5 k0 k1 kn) only[go_sem,kf,kr,k5,k0,k1,kn]<;>rfl
  have Gc:H' 2000020=some ⟨2,30,[],false⟩:=by rw[<-hH];simp+decide (disch:=try exact D6 kf kr k5 k0 k1 kn) only[go_sem,kf,kr,k5,k0,k1,kn]<;>rfl
  have Uk:H' 2000021=none:=by rw[<-hH];simp+decide (disch:=try exact D6 kf kr k5 k0 k1 kn) only[go_sem,kf,kr,k5,k0,k1,kn]<;>rfl
  clear hJ hH;refine Sz6 w5 w50 aqb Gc w10 v10 ?_;rw[CM (f:=PV.aC) (y:=c) (xs:=F.1) (ty':=135) (fz:=false) (lf ap8) bf (by omega) cX.symm (by omega) (by omega) (by omega)];refine Sz4 w5 Gc w8 v8 ?_;refine Qb (fun hk=>?_) (fun hk=>?_)
  ·refine Sz2 w6 Ul ?_;refine zu (S.length-(i+1)) (by omega) ⟨i+1,rfl,by omega,?_⟩;rw[yB,if_pos hk];exact Tz7 w5 w6 Gc Uk Uj v1 v2
  ·refine Sz2 w6 Ul ?_;refine zu (S.length-(i+1)) (by omega) ⟨i+1,rfl,by omega,?_⟩;rw[yB,if_neg hk];exact Tz7 w5 w6 Gc Uk Uj v1 v2
 obtain rfl:i=S.length:=by omega
 refine Sz3 j5 g5 k5 ?_;have qn:=su S S.length;obtain⟨F,I8⟩:∃F,bC S S.length=F:=⟨_,rfl⟩
 rw[I8]at k0 k1 qn⊢;refine Nm 63 1 (p:=.aK [.ms 2000000 S.length,.ms 2000001 F.2.1.length]) (D:=PV.frame F.1 F.2.1) bf ?_ (fun l hl=>?_)
 ·refine⟨fun c hc=>?_,?_,?_⟩
  ·simp only[KaC,KbE,or_false]at hc;rcases hc with rfl|rfl<;>rfl
  ·simp[Cj,ob,k0,k1,yq,yr,PV.frame];exact⟨Kai (by simp[qn]),Kai (by simp)⟩
  ·simp[y5,rT]
 have z2:FW.Qx h l 2=some ⟨2,30,[.agg [.aa,.aa]],false⟩:=by rw[Px hl (by omega),kr]
 refine Sz1 z2 ?_;refine kS (eA ?_);refine Sz0 ?_;have hh:=Qf (.agg [.sl 2 (F.1.map PV.aC),.sl 3 (F.2.1.map PV.fvar)]);exact gZ rfl rfl rfl hh (Qf _)
def iC(cs:List Cd)(f:bD):List (List Tm)×Int:=
 if fL f cs.length=0 then
  if(iT f.k (fun i=>(cC cs f.args).getD i ([],[])) (rv f.n f.a f.d)).any (fun p=>decide (4000<p.length))then([],4)
  else(iT f.k (fun i=>(cC cs f.args).getD i ([],[])) (rv f.n f.a f.d),0)
 else([],fL f cs.length)
structure Nl(cs:List Cd)(f:bD):Prop where
 b:l9 f
 l:cs.length<=8
 c:∀c∈cs,CB c
 t:fL f cs.length=0->f.k=6∨f.k=7->∀c∈cC cs f.args,C3 c
 r:fL f cs.length=0->f.k=9->PV.rr f.n f.a f.d=PV.rat (rv f.n f.a f.d)/\rs (rv f.n f.a f.d)<=1000
theorem LV{cs:List Cd}{l:List Int}(h:∀a∈l,0<=a/\a<cs.length):∀c∈cC cs l,c∈cs:=fun c hm=>by obtain⟨a,ha,rfl⟩:=KaF.1 hm;have:=h a ha;rw[Kae,Kag (show a.toNat<cs.length by omega)];exact Kah _
theorem Rf{p q r s:List Tm}(hp:PQ 392 14450 6 p)(hq:PQ 392 14450 6 q)(hr:PQ 392 14450 6 r)(hs:PQ 392 14450 6 s):Qd Tryz.prog 139 [PV.ao p,PV.ao q,PV.ao r,PV.ao s] (· =PV.ao (bQ (aV p s) (aV r q))):=by
 have c1:=sB hp hs (by omega) (by omega) (by omega);have c2:=sB hr hq (by omega) (by omega) (by omega);have c3:=iS (NH hp hs) (NH hr hq) (by omega) (by omega) (by omega);refine aB Qg Tryz.func139 afv fun C hP=>?_;refine Sz0 ?_
 repeat' first
  |refine dp ?_ ?_
  |refine Qa hP c1 rfl rfl rfl ?_
  |refine Qa hP c2 rfl rfl rfl ?_
  |simp+decide (disch:=try exact D0) only[go_sem]
 all_goals
  refine Qa hP c3 rfl rfl rfl ?_;refine Sz0 ?_;exact Qc rfl rfl
theorem acK{p:List Tm}{a:Rat}{T K E:Nat}(hp:PQ T K E p)(ha:rs a+1<=K)(hT:T<=2^36)(hK:K<=2^33)(hE:E<=2^38):Qd Tryz.prog 13 [PV.ao p,PV.rat a] (· =PV.ao (Q5 p a)):=
 zd hp.b hp.n.z ha hK hE (by have:=hp.l;omega)
def qD(cs:List Cd):List Int->List Cd->Prop
 |a::l,c::L=>(∃m:Nat,a=(m:Int)/\∃h:m<cs.length,cs[m]=c)/\qD cs l L
 | [],[]=>True
 |_,_=>False
theorem Gz{cs:List Cd}:∀ {l:List Int},(∀a∈l,0<=a/\a<cs.length)->qD cs l (cC cs l)
 | [],_=>trivial
 |a::l,h=>by have h0:=h a Kbk;refine⟨⟨a.toNat,by omega,by omega,?_⟩,Gz fun x hx=>h x (KaZ _ hx)⟩;show cs[a.toNat]=cs.getD a.toNat ([],[]);rw[Kae,Kag (show a.toNat<cs.length by omega)];rfl
theorem lQ{cs:List Cd}{m:Nat}{c:Cd}{h:m<cs.length}(e:cs[m]=c):(cs.map PV.aC)[m]? =some (PV.aC c):=by rw[Kat,Kag h,e];rfl
theorem kM{cs:List Cd}{l:List Int}{c:Cd}{L:List Cd}(h:qD cs l (c::L)):∃(m:Nat)(r:List Int),l=(m:Int)::r/\(∃h:m<cs.length,cs[m]=c)/\qD cs r L:=by
 cases l with
 |nil=>exact h.elim
 |cons a l=>obtain⟨⟨m,rfl,hm⟩,hr⟩:=h;exact⟨m,l,rfl,hm,hr⟩
theorem FP{cs:List Cd}{l:List Int}(h:qD cs l []):l=[]:=by
 cases l with
 |nil=>rfl
 |cons a l=>exact h.elim
theorem TK{cs:List Cd}{l:List Int}{x y:Cd}(h:qD cs l [x,y]):∃m0 m1:Nat,l=[(m0:Int),(m1:Int)]/\(∃h:m0<cs.length,cs[m0]=x)/\(∃h:m1<cs.length,cs[m1]=y):=by obtain⟨m0,r0,rfl,h0,h⟩:=kM h;obtain⟨m1,r1,rfl,h1,h⟩:=kM h;obtain rfl:=FP h;exact⟨m0,m1,rfl,h0,h1⟩
theorem Kq{cs:List Cd}{l:List Int}{x y z:Cd}(h:qD cs l [x,y,z]):∃m0 m1 m2:Nat,l=[(m0:Int),(m1:Int),(m2:Int)]/\(∃h:m0<cs.length,cs[m0]=x)/\(∃h:m1<cs.length,cs[m1]=y)/\(∃h:m2<cs.length,cs[m2]=z):=by obtain⟨m0,r0,rfl,h0,h⟩:=kM h;obtain⟨m1,r1,rfl,h1,h⟩:=kM h;obtain⟨m2,r2,rfl,h2,h⟩:=kM h;obtain rfl:=FP h;exact⟨m0,m1,m2,rfl,h0,h1,h2⟩
theorem yL{cs:List Cd}{l:List Int}{x y z w:Cd}(h:qD cs l [x,y,z,w]):∃m0 m1 m2 m3:Nat,l=[(m0:Int),(m1:Int),(m2:Int),(m3:Int)]/\(∃h:m0<cs.length,cs[m0]=x)/\(∃h:m1<cs.length,cs[m1]=y)/\(∃h:m2<cs.length,cs[m2]=z)/\(∃h:m3<cs.length,cs[m3]=w):=by obtain⟨m0,r0,rfl,h0,h⟩:=kM h;obtain⟨m1,r1,rfl,h1,h⟩:=kM h;obtain⟨m2,r2,rfl,h2,h⟩:=kM h;obtain⟨m3,r3,rfl,h3,h⟩:=kM h;obtain rfl:=FP h;exact⟨m0,m1,m2,m3,rfl,h0,h1,h2,h3⟩
theorem ix8{cs:List Cd}{l:List Int}{x y z w s t u v:Cd}(h:qD cs l [x,y,z,w,s,t,u,v]):∃m0 m1 m2 m3 m4 m5 m6 m7:Nat,l=[(m0:Int),(m1:Int),(m2:Int),(m3:Int),(m4:Int),(m5:Int),(m6:Int),(m7:Int)]/\(∃h:m0<cs.length,cs[m0]=x)/\(∃h:m1<cs.length,cs[m1]=y)/\(∃h:m2<cs.length,cs[m2]=z)/\(∃h:m3<cs.length,cs[m3]=w)/\(∃h:m4<cs.length,cs[m4]=s)/\(∃h:m5<cs.length,cs[m5]=t)/\(∃h:m6<cs.length,cs[m6]=u)/\(∃h:m7<cs.length,cs[m7]=v):=by obtain⟨m0,r0,rfl,h0,h⟩:=kM h;obtain⟨m1,r1,rfl,h1,h⟩:=kM h;obtain⟨m2,r2,rfl,h2,h⟩:=kM h;obtain⟨m3,r3,rfl,h3,h⟩:=kM h;obtain⟨m4,r4,rfl,h4,h⟩:=kM h;obtain⟨m5,r5,rfl,h5,h⟩:=kM h;obtain⟨m6,r6,rfl,h6,h⟩:=kM h;obtain⟨m7,r7,rfl,h7,h⟩:=kM h;obtain rfl:=FP h;exact⟨m0,m1,m2,m3,m4,m5,m6,m7,rfl,h0,h1,h2,h3,h4,h5,h6,h7⟩
theorem ZY{k:Int}{args:List Int}{n:Bool}{a d:List Nat}{cs L:List Cd}(hk:fb k≠0)(hl:(L.length:Int)=fb k)(hI:qD cs args L)(hc:∀c∈L,CB c)(h3:k=6∨k=7->∀c∈L,C3 c)(hr:k=9->PV.rr n a d=PV.rat (rv n a d)/\rs (rv n a d)<=1000):
  Qd Tryz.prog 86 [PV.nJ ⟨k,args,n,a,d⟩,.sl 2 (cs.map PV.aC)] (· =PV.eI (iT k (fun i=>L.getD i ([],[])) (rv n a d))):=by
 have anN:k=1∨k=2∨k=3∨k=4∨k=5∨k=6∨k=7∨k=8∨k=9:=by
  rcases QP k with h|h
  ·exact h
  ·exfalso;apply hk;unfold fb;repeat' split
   all_goals omega
 have e2:∀L:List Cd,L.length=2->∃x y,L=[x,y]:=fun L h=>by
  match L,h with
  | [x,y],_=>exact⟨x,y,rfl⟩
 have e3:∀L:List Cd,L.length=3->∃x y z,L=[x,y,z]:=fun L h=>by
  match L,h with
  | [x,y,z],_=>exact⟨x,y,z,rfl⟩
 have e4:∀L:List Cd,L.length=4->∃x y z w,L=[x,y,z,w]:=fun L h=>by
  match L,h with
  | [x,y,z,w],_=>exact⟨x,y,z,w,rfl⟩
 have e8:∀L:List Cd,L.length=8->∃x y z w s t u v,L=[x,y,z,w,s,t,u,v]:=fun L h=>by
  match L,h with
  | [x,y,z,w,s,t,u,v],_=>exact⟨x,y,z,w,s,t,u,v,rfl⟩
 rcases anN with rfl|rfl|rfl|rfl|rfl|rfl|rfl|rfl|rfl
 ·obtain⟨x,y,z,rfl⟩:=e3 L (by simp[fb]at hl;omega);have hx:=hc x (by simp);have hy:=hc y (by simp);have hz:=hc z (by simp);obtain⟨m0,m1,m2,rfl,⟨b0,i0⟩,⟨b1,i1⟩,⟨b2,i2⟩⟩:=Kq hI;have c1:=mQ hx hy hx hz;show Qd _ _ [.agg [.int .i64 1,.sl 1 [.int .i64 (m0:Nat),.int .i64 (m1:Nat),.int .i64 (m2:Nat)],.bool n,PV.nat a,PV.nat d],_] _;refine aB Qg Tryz.func86 sD fun C hP=>?_;refine Sz3 i0 i1 i2 ?_
  repeat' first
   |refine dp ?_ ?_
   |refine Qa hP c1 rfl rfl rfl ?_
   |simp+decide (disch:=try exact D3 i0 i1 i2) only[go_sem,i0,i1,i2]
  all_goals exact gj bf (by simp[iT,pW])
 ·obtain⟨x,y,z,w,rfl⟩:=e4 L (by simp[fb]at hl;omega);have hx:=hc x (by simp);have hy:=hc y (by simp);have hz:=hc z (by simp);have hw:=hc w (by simp);obtain⟨m0,m1,m2,m3,rfl,⟨b0,i0⟩,⟨b1,i1⟩,⟨b2,i2⟩,⟨b3,i3⟩⟩:=yL hI;have c1:=mQ hx hy hz hw;show Qd _ _ [.agg [.int .i64 2,.sl 1 [.int .i64 (m0:Nat),.int .i64 (m1:Nat),.int .i64 (m2:Nat),.int .i64 (m3:Nat)],.bool n,PV.nat a,PV.nat d],_] _;refine aB Qg Tryz.func86 sD fun C hP=>?_;refine Sz4 i0 i1 i2 i3 ?_
  repeat' first
   |refine dp ?_ ?_
   |refine Qa hP c1 rfl rfl rfl ?_
   |simp+decide (disch:=try exact D4 i0 i1 i2 i3) only[go_sem,i0,i1,i2,i3]
  all_goals exact gj bf (by simp[iT,pW])
 ·obtain⟨x,y,z,w,rfl⟩:=e4 L (by simp[fb]at hl;omega);have hx:=hc x (by simp);have hy:=hc y (by simp);have hz:=hc z (by simp);have hw:=hc w (by simp);obtain⟨m0,m1,m2,m3,rfl,⟨b0,i0⟩,⟨b1,i1⟩,⟨b2,i2⟩,⟨b3,i3⟩⟩:=yL hI;have c1:=ss hx hy hz hw;show Qd _ _ [.agg [.int .i64 3,.sl 1 [.int .i64 (m0:Nat),.int .i64 (m1:Nat),.int .i64 (m2:Nat),.int .i64 (m3:Nat)],.bool n,PV.nat a,PV.nat d],_] _;refine aB Qg Tryz.func86 sD fun C hP=>?_;refine Sz4 i0 i1 i2 i3 ?_
  repeat' first
   |refine dp ?_ ?_
   |refine Qa hP c1 rfl rfl rfl ?_
   |simp+decide (disch:=try exact D4 i0 i1 i2 i3) only[go_sem,i0,i1,i2,i3]
  all_goals exact gj bf (by simp[iT,pW])
 ·obtain⟨x,y,z,w,rfl⟩:=e4 L (by simp[fb]at hl;omega);have hx:=hc x (by simp);have hy:=hc y (by simp);have hz:=hc z (by simp);have hw:=hc w (by simp);obtain⟨m0,m1,m2,m3,rfl,⟨b0,i0⟩,⟨b1,i1⟩,⟨b2,i2⟩,⟨b3,i3⟩⟩:=yL hI;have c1:=jH hx hy;have c2:=jH hz hw;have c3:=iS (Ae hx hy hx hy) (Ae hz hw hz hw) (by omega) (by omega) (by omega);show Qd _ _ [.agg [.int .i64 4,.sl 1 [.int .i64 (m0:Nat),.int .i64 (m1:Nat),.int .i64 (m2:Nat),.int .i64 (m3:Nat)],.bool n,PV.nat a,PV.nat d],_] _;refine aB Qg Tryz.func86 sD fun C hP=>?_;refine Sz4 i0 i1 i2 i3 ?_
  repeat' first
   |refine dp ?_ ?_
   |refine Qa hP c1 rfl rfl rfl ?_
   |refine Qa hP c2 rfl rfl rfl ?_
   |refine Qa hP c3 rfl rfl rfl ?_
   |simp+decide (disch:=try exact D4 i0 i1 i2 i3) only[go_sem,i0,i1,i2,i3]
  all_goals exact gj bf (by simp[iT,pW])
 ·obtain⟨x,y,z,rfl⟩:=e3 L (by simp[fb]at hl;omega);have hx:=hc x (by simp);have hy:=hc y (by simp);have hz:=hc z (by simp);obtain⟨m0,m1,m2,rfl,⟨b0,i0⟩,⟨b1,i1⟩,⟨b2,i2⟩⟩:=Kq hI;have p1:=hx.x.add hx.x;have p2:=hx.y.add hx.y;have p3:=hy.x.add hz.x;have p4:=hy.y.add hz.y;have c1:=qP hx.x hx.x (by omega) (by omega) (by omega);have c2:=qP hx.y hx.y (by omega) (by omega) (by omega);have c3:=qP hy.x hz.x (by omega) (by omega) (by omega);have c4:=qP hy.y hz.y (by omega) (by omega) (by omega);have c5:=iS p3 p1 (by omega) (by omega) (by omega);have c6:=iS p4 p2 (by omega) (by omega) (by omega);show Qd _ _ [.agg [.int .i64 5,.sl 1 [.int .i64 (m0:Nat),.int .i64 (m1:Nat),.int .i64 (m2:Nat)],.bool n,PV.nat a,PV.nat d],_] _;refine C1 Qg Tryz.func86 rfl (GM sD) Nz fun C hP hN=>?_;simp only[EH];refine du ?_;refine Sz0 ?_;refine Gs An EA (by rw[hP];exact Qg) (by rw[hP,hN];exact aaq) aar (by decide) (dM (ED cs [.int .i64 (m0:Nat),.int .i64 (m1:Nat),.int .i64 (m2:Nat)]) (Gv cs [.int .i64 (m0:Nat),.int .i64 (m1:Nat),.int .i64 (m2:Nat)] m0 m1 m2 x y z) (xF x y z)) ?_ (acH (args:=[.int .i64 (m0:Nat),.int .i64 (m1:Nat),.int .i64 (m2:Nat)]) rfl (lQ i0) rfl (lQ i1) rfl (lQ i2)) (fun l fr hp aW I=>?_)
  ·refine⟨fun e he=>?_,fun e he h=>(by cases h),fun e he h=>(by cases h),fun e he h=>(by cases h)⟩;simp only[ED,KaC,KbE,or_false]at he;rcases he with rfl|rfl
   ·exact Tz0
   ·simp+decide (disch:=try exact D0) only[go_sem]<;>rfl
  refine KP (I.fin (fun e he=>?_) (fun e he=>?_)) (Il ?_)
  ·simp only[xF,KaC,KbE,or_false]at he;rcases he with rfl|rfl|rfl
   all_goals exact aW _ (by simp[An,Ao])
  ·simp only[xF,KaC,KbE,or_false]at he;rcases he with rfl|rfl|rfl
   ·exact I.at (s:=6) rfl (aW 18 (by decide))
   ·exact I.at (s:=7) rfl (aW 19 (by decide))
   ·exact I.at (s:=8) rfl (aW 20 (by decide))
  simp only[sV,uJ,xF];refine Sz0 ?_
  repeat' first
   |refine dp ?_ ?_
   |refine Qa hP c1 rfl rfl rfl ?_
   |refine Qa hP c2 rfl rfl rfl ?_
   |refine Qa hP c3 rfl rfl rfl ?_
   |refine Qa hP c4 rfl rfl rfl ?_
   |refine Qa hP c5 rfl rfl rfl ?_
   |refine Qa hP c6 rfl rfl rfl ?_
   |simp+decide (disch:=try exact D0) only[go_sem]
  all_goals
   refine Ea (Wk.refl _ _) ?_;refine Sz0 ?_;exact gj bf (by simp[iT,pW])
 ·obtain⟨x,y,z,w,rfl⟩:=e4 L (by simp[fb]at hl;omega);have hx:=h3 (.inl rfl) x (by simp);have hy:=h3 (.inl rfl) y (by simp);have hz:=h3 (.inl rfl) z (by simp);have hw:=h3 (.inl rfl) w (by simp);obtain⟨m0,m1,m2,m3,rfl,⟨b0,i0⟩,⟨b1,i1⟩,⟨b2,i2⟩,⟨b3,i3⟩⟩:=yL hI;have c1:=mQ hy.cb hx.cb hy.cb hz.cb;have c2:=ss hy.cb hx.cb hy.cb hz.cb;have c3:=mQ hw.cb hx.cb hw.cb hz.cb;have c4:=ss hw.cb hx.cb hw.cb hz.cb;have c5:=Rf (Eg hy hx hy hz) (B9 hy hx hy hz) (Eg hw hx hw hz) (B9 hw hx hw hz);show Qd _ _ [.agg [.int .i64 6,.sl 1 [.int .i64 (m0:Nat),.int .i64 (m1:Nat),.int .i64 (m2:Nat),.int .i64 (m3:Nat)],.bool n,PV.nat a,PV.nat d],_] _;refine C1 Qg Tryz.func86 rfl (GM sD) Nz fun C hP hN=>?_;simp only[EH];refine du ?_;refine Sz0 ?_;refine Gs Ao EB (by rw[hP];exact Qg) (by rw[hP,hN];exact aas) aat (by decide) (dM (EE cs [.int .i64 (m0:Nat),.int .i64 (m1:Nat),.int .i64 (m2:Nat),.int .i64 (m3:Nat)]) (Gw cs [.int .i64 (m0:Nat),.int .i64 (m1:Nat),.int .i64 (m2:Nat),.int .i64 (m3:Nat)] m0 m1 m2 m3 x y z w) (xG x y z w)) ?_ (acI (args:=[.int .i64 (m0:Nat),.int .i64 (m1:Nat),.int .i64 (m2:Nat),.int .i64 (m3:Nat)]) rfl (lQ i0) rfl (lQ i1) rfl (lQ i2) rfl (lQ i3)) (fun l fr hp aW I=>?_)
  ·refine⟨fun e he=>?_,fun e he h=>(by cases h),fun e he h=>(by cases h),fun e he h=>(by cases h)⟩;simp only[EE,KaC,KbE,or_false]at he;rcases he with rfl|rfl
   ·exact Tz0
   ·simp+decide (disch:=try exact D0) only[go_sem]<;>rfl
  refine KP (I.fin (fun e he=>?_) (fun e he=>?_)) (Il ?_)
  ·simp only[xG,KaC,KbE,or_false]at he;rcases he with rfl|rfl|rfl|rfl
   all_goals exact aW _ (by simp[An,Ao])
  ·simp only[xG,KaC,KbE,or_false]at he;rcases he with rfl|rfl|rfl|rfl
   ·exact I.at (s:=9) rfl (aW 24 (by decide))
   ·exact I.at (s:=10) rfl (aW 25 (by decide))
   ·exact I.at (s:=11) rfl (aW 26 (by decide))
   ·exact I.at (s:=12) rfl (aW 27 (by decide))
  simp only[sV,uJ,xG];refine Sz0 ?_
  repeat' first
   |refine dp ?_ ?_
   |refine Qa hP c1 rfl rfl rfl ?_
   |refine Qa hP c2 rfl rfl rfl ?_
   |refine Qa hP c3 rfl rfl rfl ?_
   |refine Qa hP c4 rfl rfl rfl ?_
   |refine Qa hP c5 rfl rfl rfl ?_
   |simp+decide (disch:=try exact D0) only[go_sem]
  all_goals
   refine Ea (Wk.refl _ _) ?_;refine Sz0 ?_;exact gj bf (by simp[iT,pW])
 ·obtain⟨x,y,z,w,s,t,u,v,rfl⟩:=e8 L (by simp[fb]at hl;omega);have hx:=h3 (.inr rfl) x (by simp);have hy:=h3 (.inr rfl) y (by simp);have hz:=h3 (.inr rfl) z (by simp);have hw:=h3 (.inr rfl) w (by simp);have hs:=h3 (.inr rfl) s (by simp);have ht:=h3 (.inr rfl) t (by simp);have hu:=h3 (.inr rfl) u (by simp);have hv:=h3 (.inr rfl) v (by simp);obtain⟨m0,m1,m2,m3,m4,m5,m6,m7,rfl,⟨b0,i0⟩,⟨b1,i1⟩,⟨b2,i2⟩,⟨b3,i3⟩,⟨b4,i4⟩,⟨b5,i5⟩,⟨b6,i6⟩,⟨b7,i7⟩⟩:=ix8 hI;have c1:=mQ hx.cb hy.cb hz.cb hw.cb;have c2:=ss hx.cb hy.cb hz.cb hw.cb;have c3:=mQ hs.cb ht.cb hu.cb hv.cb;have c4:=ss hs.cb ht.cb hu.cb hv.cb;have c5:=Rf (Eg hx hy hz hw) (B9 hx hy hz hw) (Eg hs ht hu hv) (B9 hs ht hu hv);show Qd _ _ [.agg [.int .i64 7,.sl 1 [.int .i64 (m0:Nat),.int .i64 (m1:Nat),.int .i64 (m2:Nat),.int .i64 (m3:Nat),.int .i64 (m4:Nat),.int .i64 (m5:Nat),.int .i64 (m6:Nat),.int .i64 (m7:Nat)],.bool n,PV.nat a,PV.nat d],_] _;refine C1 Qg Tryz.func86 rfl (GM sD) Nz fun C hP hN=>?_;simp only[EH];refine du ?_;refine Sz0 ?_;refine Gs Gt EC (by rw[hP];exact Qg) (by rw[hP,hN];exact aau) ZU (by decide) (dM (EF cs [.int .i64 (m0:Nat),.int .i64 (m1:Nat),.int .i64 (m2:Nat),.int .i64 (m3:Nat),.int .i64 (m4:Nat),.int .i64 (m5:Nat),.int .i64 (m6:Nat),.int .i64 (m7:Nat)]) (Gx cs [.int .i64 (m0:Nat),.int .i64 (m1:Nat),.int .i64 (m2:Nat),.int .i64 (m3:Nat),.int .i64 (m4:Nat),.int .i64 (m5:Nat),.int .i64 (m6:Nat),.int .i64 (m7:Nat)] m0 m1 m2 m3 m4 m5 m6 m7 x y z w s t u v _ _ _ _ _) (Gy x y z w s t u v _ _ _ _ _)) ?_ (acJ (args:=[.int .i64 (m0:Nat),.int .i64 (m1:Nat),.int .i64 (m2:Nat),.int .i64 (m3:Nat),.int .i64 (m4:Nat),.int .i64 (m5:Nat),.int .i64 (m6:Nat),.int .i64 (m7:Nat)]) rfl (lQ i0) rfl (lQ i1) rfl (lQ i2) rfl (lQ i3) rfl (lQ i4) rfl (lQ i5) rfl (lQ i6) rfl (lQ i7) hP c1 c2 c3 c4 c5) (fun l fr hp aW I=>?_)
  ·refine⟨fun e he=>?_,fun e he h=>(by cases h),fun e he h=>(by cases h),fun e he h=>(by cases h)⟩;simp only[EF,KaC,KbE,or_false]at he;rcases he with rfl|rfl
   ·exact Tz0
   ·simp+decide (disch:=try exact D0) only[go_sem]<;>rfl
  refine KP (aiT (s:=4) (β:=325) (n:=1) (I.at (s:=4) rfl (aW 102 (by decide))) (I.s _ (Kay.2 rfl) (aW 101 (by decide)))) (Il ?_);refine Sz0 ?_;refine Ea (Wk.refl _ _) ?_;refine Sz0 ?_;exact gj bf (by simp[iT,pW])
 ·obtain⟨x,y,rfl⟩:=e2 L (by simp[fb]at hl;omega);have hx:=hc x (by simp);have hy:=hc y (by simp);obtain⟨m0,m1,rfl,⟨b0,i0⟩,⟨b1,i1⟩⟩:=TK hI;have c1:=iS hx.x hy.x (by omega) (by omega) (by omega);have c2:=iS hx.y hy.y (by omega) (by omega) (by omega);show Qd _ _ [.agg [.int .i64 8,.sl 1 [.int .i64 (m0:Nat),.int .i64 (m1:Nat)],.bool n,PV.nat a,PV.nat d],_] _;refine aB Qg Tryz.func86 sD fun C hP=>?_;refine Sz2 i0 i1 ?_
  repeat' first
   |refine dp ?_ ?_
   |refine Qa hP c1 rfl rfl rfl ?_
   |refine Qa hP c2 rfl rfl rfl ?_
   |simp+decide (disch:=try exact D2 i0 i1) only[go_sem,i0,i1]
  all_goals exact gj bf (by simp[iT,pW])
 ·obtain⟨x,y,z,w,rfl⟩:=e4 L (by simp[fb]at hl;omega);have hx:=hc x (by simp);have hy:=hc y (by simp);have hz:=hc z (by simp);have hw:=hc w (by simp);obtain⟨m0,m1,m2,m3,rfl,⟨b0,i0⟩,⟨b1,i1⟩,⟨b2,i2⟩,⟨b3,i3⟩⟩:=yL hI;obtain⟨ou,my⟩:=hr rfl;have c1:=jH hx hy;have c2:=jH hz hw;have c3:=acK (a:=rv n a d) (Ae hz hw hz hw) (by omega) (by omega) (by omega) (by omega);rw[<-ou]at c3;have c4:=iS ((Ae hx hy hx hy).mono (by omega) (by omega) (by omega)) ((Ae hz hw hz hw).scale (a:=rv n a d) (L:=2^20) (by omega)) (T:=524288) (K:=2^29+4098+2^20) (E:=200) (by omega) (by omega) (by omega);show Qd _ _ [.agg [.int .i64 9,.sl 1 [.int .i64 (m0:Nat),.int .i64 (m1:Nat),.int .i64 (m2:Nat),.int .i64 (m3:Nat)],.bool n,PV.nat a,PV.nat d],_] _;refine aB Qg Tryz.func86 sD fun C hP=>?_;refine Sz4 i0 i1 i2 i3 ?_
  repeat' first
   |refine dp ?_ ?_
   |refine Qa hP c1 rfl rfl rfl ?_
   |refine Qa hP c2 rfl rfl rfl ?_
   |refine Qa hP c3 rfl rfl rfl ?_
   |refine Qa hP c4 rfl rfl rfl ?_
   |simp+decide (disch:=try exact D4 i0 i1 i2 i3) only[go_sem,i0,i1,i2,i3]
  all_goals exact gj bf (by simp[iT,pW])
theorem ZZ{cs:List Cd}{vs:List Vr}{f:bD}(h:Nl cs f):Qd Tryz.prog 43 [PV.nJ f,PV.frame cs vs] (· = .aG [PV.eI (iC cs f).1,.int .i64 (iC cs f).2]):=by
 have hR:=QQ (n:=cs.length) h.b;have Bn:=h.l;have js:=h.b.l;refine aB Qg Tryz.func43 aic fun C hP=>?_;refine Sz0 ?_;refine Qa hP hR rfl rfl rfl ?_;by_cases h0:fL f cs.length=0
 ·have hA:f.args.length<=8/\(f.args.length:Int)=fb f.k/\fb f.k≠0/\∀a∈f.args,0<=a/\a<cs.length:=by
   obtain⟨k0,k1,k2,k3⟩:=Eu h0;refine⟨?_,k1,k0,k2⟩;unfold fb at k1
   repeat' split at k1
   all_goals omega
  obtain⟨ha8,js,hak,Sc⟩:=hA;have Fa:(cC cs f.args).length=f.args.length:=by simp[cC]
  have df:=ZY (k:=f.k) (args:=f.args) (n:=f.n) (a:=f.a) (d:=f.d) (L:=cC cs f.args) hak (by omega) (Gz Sc) (fun c hc=>h.c c (LV Sc c hc)) (h.t h0) (h.r h0);have d0:decide (¬fL f cs.length=0)=false:=by simp[h0]
  refine Sz1 d0 ?_;refine Qa hP df rfl rfl rfl ?_;have hG:iC cs f=if(iT f.k (fun i=>(cC cs f.args).getD i ([],[])) (rv f.n f.a f.d)).any (fun p=>decide (4000<p.length))then([],4)
   else(iT f.k (fun i=>(cC cs f.args).getD i ([],[])) (rv f.n f.a f.d),0):=by unfold iC;rw[if_pos h0]
  have ur:(iT f.k (fun i=>(cC cs f.args).getD i ([],[])) (rv f.n f.a f.d)).length<=2:=by
   unfold iT;repeat' split
   all_goals simp
  generalize iT f.k (fun i=>(cC cs f.args).getD i ([],[])) (rv f.n f.a f.d)=L at *
  refine Sz0 ?_;refine Qn eH [(4,5),(8,8),(21,32)] [] (fun q J hp=>∃i,q=L.length-i/\i<=L.length/\(∀n (h:n<L.length),n<i->¬4000<L[n].length)/\J 8= .int .i64 (i:Nat)) L.length ?_ ?_
  ·refine⟨0,rfl,by omega,by omega,?_⟩;refine Sz0 ?_;rfl
  rintro _ J2 ot ⟨i,rfl,hi,hle,j8⟩;refine Sz1 j8 ?_;refine Qb (fun hg=>?_) (fun hg=>?_)
  ·have az:i<L.length:=by omega
   have bR:¬4000<L[i].length->∀n (h:n<L.length),n<i+1->¬4000<L[n].length:=fun h n hn rG=>by
    by_cases e:n=i
    ·subst e;exact h
    ·exact hle n hn (by omega)
   have Jn:4000<L[i].length->L.any (fun p=>decide (4000<p.length))=true:=fun h=>KaW.2 ⟨_,Kah az,decide_eq_true h⟩;generalize hx:L[i]=x at *
   refine Sz2 j8 hx ?_;refine Qb (fun h4=>?_) (fun h4=>?_)
   ·refine Sz0 ?_;exact cA (by rw[hG,if_pos (Jn (by omega))]) rfl rfl (p':=PV.eI []) trivial (Qf _)
   refine Sz1 j8 ?_;refine Qi (L.length-(i+1)) (by omega) ⟨i+1,rfl,by omega,bR (by omega),?_⟩;exact Tz0
  obtain rfl:i=L.length:=by omega
  have oq:L.any (fun p=>decide (4000<p.length))=false:=by rw[KcG];intro p hp;obtain⟨n,hn,rfl⟩:=KaA hp;simpa using hle n hn hn
  refine Sz0 ?_;exact cA (by rw[hG,oq,if_neg (by simp)]) rfl rfl (Qf _) (Qf _)
 ·have d0:decide (¬fL f cs.length=0)=true:=decide_eq_true h0;have hG:iC cs f=([],fL f cs.length):=by unfold iC;rw[if_neg h0]
  refine Sz1 d0 ?_;exact cA (by rw[hG]) rfl rfl (p':=PV.eI []) trivial (Qf _)
theorem PI{p:List Tm}{T K E:Nat}(hp:PQ T K E p)(hT:T<=2^30)(hK:K<=2^32)(hE:E<=2^38):Qd Tryz.prog 186 [PV.ao p] (· =PV.ao (y7 p)):=by have h:=qP hp hp hT hK hE;refine aB Qg Tryz.func186 afC fun C hP=>?_;refine Sz0 ?_;refine Qa hP h rfl rfl rfl ?_;refine Sz0 ?_;exact Qc rfl rfl
def gW(vs:List Vr)(i:Int):Nat:=(vs.findIdx? fun v=>decide (v.2.1=i)).getD 0
theorem WM{vs:List Vr}{i:Int}{n:Nat}(h:n<vs.length)(h1:vs[n].2.1=i)(h2:∀m (h:m<vs.length),m<n->vs[m].2.1≠i):gW vs i=n:=by unfold gW;rw[KbX.2 ⟨h,decide_eq_true h1,fun j hj=>by simpa using h2 j (by omega) hj⟩];rfl
theorem Vs{vs:List Vr}{i:Int}(h:∀m (h:m<vs.length),vs[m].2.1≠i):gW vs i=0:=by unfold gW;rw[KcM.2 fun x hx=>by obtain⟨m,hm,rfl⟩:=KaA hx;simpa using h m hm];rfl
theorem Z'{cs:List Cd}{vs:List Vr}{i:Int}(hl:vs.length<=64):Qd Tryz.prog 138 [PV.frame cs vs,.int .i64 i] (· = .int .i64 (gW vs i:Nat)):=by
 refine aB Qg Tryz.func138 afD fun C hP=>?_;refine Sz0 ?_;refine Qn okB [(4,21)] [] (fun q J hp=>∃n,q=vs.length-n/\n<=vs.length/\(∀m (h:m<vs.length),m<n->vs[m].2.1≠i)/\J 5= .int .i64 (n:Nat)/\hp 2=some ⟨2,30,[PV.frame cs vs],false⟩) vs.length ?_ ?_
 ·refine⟨0,rfl,by omega,by omega,?_⟩;refine Sz0 ?_;rfl
 rintro _ J h ⟨n,rfl,hn,oq,j5,b2⟩;refine Sz2 j5 b2 ?_;refine Qb (fun hc=>?_) (fun hc=>?_)
 ·have s7:n<vs.length:=by omega
  have aof:=fun e=>WM (i:=i) s7 e oq;have bR:vs[n].2.1≠i->∀m (h:m<vs.length),m<n+1->vs[m].2.1≠i:=fun h m hm SV=>by
   by_cases e:m=n
   ·subst e;exact h
   ·exact oq m hm (by omega)
  generalize hx:vs[n]=x at *
  refine Sz3 j5 b2 hx ?_;refine Qb (fun he=>?_) (fun he=>?_)
  ·refine Sz1 j5 ?_;exact Qc (by rw[aof he]) rfl
  refine Sz1 j5 ?_;refine Qi (vs.length-(n+1)) (by omega) ⟨n+1,rfl,by omega,bR he,?_⟩;exact Tz1 b2
 obtain rfl:n=vs.length:=by omega
 refine Sz0 ?_;exact Qc (by rw[Vs fun m hm=>oq m hm hm];rfl) rfl
theorem aaa{vs:List Vr}{i:Int}:gW vs i<vs.length∨gW vs i=0:=by
 unfold gW;cases h:vs.findIdx? fun v=>decide (v.2.1=i)with
 |none=>exact .inr rfl
 |some n=>exact .inl (KbX.1 h).1
theorem Rg{cs:List Cd}{vs:List Vr}{i:Int}(hl:vs.length<=64):Qd Tryz.prog 85 [PV.frame cs vs,.int .i64 i] (· = .aG [PV.ao (vo (Q3 (gW vs i:Nat))),PV.ao (Q3 (gW vs i:Nat))]):=by
 have aq:=aaa (vs:=vs) (i:=i);have c1:=Z' (cs:=cs) (i:=i) hl;have c2:=CR (v:=gW vs i) (by omega);have c3:Qd Tryz.prog 14 [.int .i64 1] (· =PV.rat ((1:Int):Rat)):=r9 (by omega) (by omega);have c4:Qd Tryz.prog 20 [PV.rat ((1:Int):Rat)] (· =PV.ao (cM 1)):=Py (a:=((1:Int):Rat)) (k:=4) (by decide+kernel) (by omega);have q:=QZ.var (v:=gW vs i);have c5:=sB q.q q.q (by omega) (by omega) (by omega);have q2:=q.mul q;have c6:=qP (T:=1) (K:=8) (E:=2) (QZ.one.q.mono (by omega) (by omega) (by omega)) (q2.q.mono (by omega) (by omega) (by omega)) (by omega) (by omega) (by omega);unfold vo;generalize Q3 ((gW vs i:Nat):Int)=t at *
 generalize aV t t=t2 at *
 generalize((1:Int):Rat)=o at *
 refine aB Qg Tryz.func85 ah7 fun C hP=>?_;refine Sz0 ?_;refine Qa hP c1 rfl rfl rfl ?_;refine Sz0 ?_;refine Qa hP c2 rfl rfl rfl ?_;refine Sz0 ?_;refine Qa hP c3 rfl rfl rfl ?_;refine Sz0 ?_;refine Qa hP c4 rfl rfl rfl ?_;refine Sz0 ?_;refine Qa hP c5 rfl rfl rfl ?_;refine Sz0 ?_;refine Qa hP c6 rfl rfl rfl ?_;refine Sz0 ?_;exact cA rfl rfl rfl (Qf _) (Qf _)
theorem ji{p q:List Tm}{T K E a b S L F c d:Nat}(hp:QZ T K E a b p)(hq:QZ S L F c d q)(h1:T<=2^30)(h2:S<=2^30)(h3:K+2<=2^31)(h4:L+2<=2^31)(h5:E<=2^38)(h6:F<=2^38):Qd Tryz.prog 137 [PV.ao p,PV.ao q] (· =PV.ao (bQ p q)):=
 iS (T:=max T S) (K:=max K L) (E:=max E F) (hp.q.mono (by omega) (by omega) (by omega)) (hq.q.mono (by omega) (by omega) (by omega)) (by omega) (by omega) (by omega)
theorem Nt{p q:List Tm}{T K E a b S L F c d:Nat}(hp:QZ T K E a b p)(hq:QZ S L F c d q)(h1:T<=2^30)(h2:S<=2^30)(h3:K<=2^32)(h4:L<=2^32)(h5:E<=2^38)(h6:F<=2^38):Qd Tryz.prog 46 [PV.ao p,PV.ao q] (· =PV.ao (Qq p q)):=
 qP (T:=max T S) (K:=max K L) (E:=max E F) (hp.q.mono (by omega) (by omega) (by omega)) (hq.q.mono (by omega) (by omega) (by omega)) (by omega) (by omega) (by omega)
theorem tK{p q:List Tm}{T K E a b S L F c d:Nat}(hp:QZ T K E a b p)(hq:QZ S L F c d q)(h1:T<=1024)(h2:S<=1024)(h3:K<=1000000)(h4:L<=1000000)(h5:E<=2^20)(h6:F<=2^20):Qd Tryz.prog 19 [PV.ao p,PV.ao q] (· =PV.ao (aV p q)):=
 sB (T:=1024) (K:=1000000) (E:=2^20) (hp.q.mono (by omega) (by omega) (by omega)) (hq.q.mono (by omega) (by omega) (by omega)) (by omega) (by omega) (by omega)
theorem Vg{cs:List Cd}{vs:List Vr}{i:Int}{o a p:Cd}(hl:vs.length<=64)(ho:CW o)(ha:CW a)(hp:CW p):Qd Tryz.prog 167 [PV.frame cs vs,.int .i64 i,PV.aC o,PV.aC a,PV.aC p] (· =PV.eI (F3 (Q3 (gW vs i:Nat)) o a p)):=by
 have c1:=Rg (cs:=cs) (i:=i) hl;have ht:=QZ.var (v:=gW vs i);unfold F3 BS;generalize Q3 ((gW vs i:Nat):Int)=t at *
 have u1:=Q1.of ho.x ha.x;have u2:=Q1.of ho.y ha.y;have u3:=ht.mul u2;have u4:=u1.add u3;have hs:=ajN ht ho ha;have bc:=MO ht;have v1:=Q1.of hp.x ha.x;have v2:=Q1.of hp.y ha.y;have w1:=bc.mul v1;have w2:=bc.mul v2;have w3:=ht.mul hs;have d1:=ji ho.x ha.x (by omega) (by omega) (by omega) (by omega) (by omega) (by omega);have d2:=ji ho.y ha.y (by omega) (by omega) (by omega) (by omega) (by omega) (by omega);have d3:=tK ht u2 (by omega) (by omega) (by omega) (by omega) (by omega) (by omega);have d4:=Nt u1 u3 (by omega) (by omega) (by omega) (by omega) (by omega) (by omega);have d5:=PI u4.q (by omega) (by omega) (by omega);have d6:=ji hp.x ha.x (by omega) (by omega) (by omega) (by omega) (by omega) (by omega);have d7:=tK bc v1 (by omega) (by omega) (by omega) (by omega) (by omega) (by omega);have d8:=ji w1 hs (by omega) (by omega) (by omega) (by omega) (by omega) (by omega);have d9:=ji hp.y ha.y (by omega) (by omega) (by omega) (by omega) (by omega) (by omega);have d10:=tK bc v2 (by omega) (by omega) (by omega) (by omega) (by omega) (by omega);have d11:=tK ht hs (by omega) (by omega) (by omega) (by omega) (by omega) (by omega);have d12:=ji w2 w3 (by omega) (by omega) (by omega) (by omega) (by omega) (by omega);unfold BS at d8 d11 d12;refine aB Qg Tryz.func167 afE fun C hP=>?_;refine Sz0 ?_;refine Qa hP c1 rfl rfl rfl ?_;refine Sz0 ?_
 repeat' first
  |refine dp ?_ ?_
  |refine Qa hP d1 rfl rfl rfl ?_
  |refine Qa hP d2 rfl rfl rfl ?_
  |refine Qa hP d3 rfl rfl rfl ?_
  |refine Qa hP d4 rfl rfl rfl ?_
  |refine Qa hP d5 rfl rfl rfl ?_
  |refine Qa hP d6 rfl rfl rfl ?_
  |refine Qa hP d7 rfl rfl rfl ?_
  |refine Qa hP d8 rfl rfl rfl ?_
  |refine Qa hP d9 rfl rfl rfl ?_
  |refine Qa hP d10 rfl rfl rfl ?_
  |refine Qa hP d11 rfl rfl rfl ?_
  |refine Qa hP d12 rfl rfl rfl ?_
  |simp+decide (disch:=try exact D0) only[go_sem]
 all_goals exact gj bf rfl
theorem aaF{p q o x:Cd}(hp:CW p)(hq:CW q)(ho:CW o)(hx:CW x):Qd Tryz.prog 168 [PV.aC p,PV.aC q,PV.aC o,PV.aC x] (· =PV.eI (Cq p q o x)):=by
 have n:=kv hp hq hp hq;have d:=kv hp ho hp hq;have s:QZ 1024 30980 16 15426 285 (y7 (dJ p o p q)):=d.add d;have v1:=Q1.of hx.x hp.x;have v2:=Q1.of hx.y hp.y;have w1:=Q1.of hq.x hp.x;have w2:=Q1.of hq.y hp.y;have a1:=n.mul v1;have a2:=n.mul v2;have b1:=s.mul w1;have b2:=s.mul w2;have c1:=jH hp.cb hq.cb;have c2:=ss hp.cb ho.cb hp.cb hq.cb;have c3:=PI d.q (by omega) (by omega) (by omega);have c4:=ji hx.x hp.x (by omega) (by omega) (by omega) (by omega) (by omega) (by omega);have c5:=ji hx.y hp.y (by omega) (by omega) (by omega) (by omega) (by omega) (by omega);have c6:=ji hq.x hp.x (by omega) (by omega) (by omega) (by omega) (by omega) (by omega);have c7:=ji hq.y hp.y (by omega) (by omega) (by omega) (by omega) (by omega) (by omega);have c8:=tK n v1 (by omega) (by omega) (by omega) (by omega) (by omega) (by omega);have c9:=tK n v2 (by omega) (by omega) (by omega) (by omega) (by omega) (by omega);have IK:=tK s w1 (by omega) (by omega) (by omega) (by omega) (by omega) (by omega);have IM:=tK s w2 (by omega) (by omega) (by omega) (by omega) (by omega) (by omega);have IP:=ji a1 b1 (by omega) (by omega) (by omega) (by omega) (by omega) (by omega);have IQ:=ji a2 b2 (by omega) (by omega) (by omega) (by omega) (by omega) (by omega);unfold Cq;refine aB Qg Tryz.func168 afF fun C hP=>?_;refine Sz0 ?_
 repeat' first
  |refine dp ?_ ?_
  |refine Qa hP c1 rfl rfl rfl ?_
  |refine Qa hP c2 rfl rfl rfl ?_
  |refine Qa hP c3 rfl rfl rfl ?_
  |refine Qa hP c4 rfl rfl rfl ?_
  |refine Qa hP c5 rfl rfl rfl ?_
  |refine Qa hP c6 rfl rfl rfl ?_
  |refine Qa hP c7 rfl rfl rfl ?_
  |refine Qa hP c8 rfl rfl rfl ?_
  |refine Qa hP c9 rfl rfl rfl ?_
  |refine Qa hP IK rfl rfl rfl ?_
  |refine Qa hP IM rfl rfl rfl ?_
  |refine Qa hP IP rfl rfl rfl ?_
  |refine Qa hP IQ rfl rfl rfl ?_
  |simp+decide (disch:=try exact D0) only[go_sem]
 all_goals exact gj bf rfl
theorem acL{k:Int}{t:List Tm}{a b c d x:Cd}(h:k≠6/\k≠7/\k≠8/\k≠9/\k≠10/\k≠11/\k≠12/\k≠13/\k≠14):sU k t a b c d x=[]:=by obtain⟨h1,h2,h3,h4,h5,h6,h7,h8,h9⟩:=h;simp[sU,h1,h2,h3,h4,h5,h6,h7,h8,h9]
theorem UA{S:List Q8}{G:List bD}{cs:List Cd}{vs:List Vr}{i:Nat}{a b c d x:Cd}(hS:S.length<=8)(hi:i<S.length)(hl:vs.length<=64)(ha:CW a)(hb:CW b)(hc:CW c)(hd:CW d)(hx:CW x):
  Qd Tryz.prog 129 [PV.cw S G,PV.frame cs vs,.int .i64 (i:Nat),PV.aC a,PV.aC b,PV.aC c,PV.aC d,PV.aC x] (· =PV.eI (sU S[i].k (Q3 (gW vs (i:Nat):Nat)) a b c d x)):=by
 obtain⟨s,hs⟩:∃s,S[i]=s:=⟨_,rfl⟩
 rw[hs];obtain⟨k,nm,args,n0,an,ad⟩:=s;show Qd _ _ _ (· =PV.eI (sU k _ a b c d x));by_cases hk:k=6∨k=7∨k=8∨k=9∨k=10∨k=11∨k=12∨k=13∨k=14
 ·rcases hk with rfl|rfl|rfl|rfl|rfl|rfl|rfl|rfl|rfl
  ·have c1:=Vg (cs:=cs) (vs:=vs) (i:=(i:Nat)) hl ha hb hx;refine aB Qg Tryz.func129 qO fun C hP=>?_;refine Sz1 hs ?_
   repeat' first
    |refine dp ?_ ?_
    |refine Qa hP c1 rfl rfl rfl ?_
    |simp+decide (disch:=try exact D1 hs) only[go_sem,hs]
   all_goals exact Qc rfl rfl
  ·have c1:=mQ hb.cb hc.cb hb.cb hx.cb;have c2:=ss hb.cb hc.cb ha.cb hx.cb;refine aB Qg Tryz.func129 qO fun C hP=>?_;refine Sz1 hs ?_
   repeat' first
    |refine dp ?_ ?_
    |refine Qa hP c1 rfl rfl rfl ?_
    |refine Qa hP c2 rfl rfl rfl ?_
    |simp+decide (disch:=try exact D1 hs) only[go_sem,hs]
   all_goals exact gj bf rfl
  ·have c1:=ss hb.cb hc.cb ha.cb hx.cb;have c2:=mQ hb.cb hc.cb hb.cb ha.cb;have c3:=mQ hb.cb hc.cb hb.cb hx.cb;have c4:=Nt (Ef hb hc hb ha) (Ef hb hc hb hx) (by omega) (by omega) (by omega) (by omega) (by omega) (by omega);refine aB Qg Tryz.func129 qO fun C hP=>?_;refine Sz1 hs ?_
   repeat' first
    |refine dp ?_ ?_
    |refine Qa hP c1 rfl rfl rfl ?_
    |refine Qa hP c2 rfl rfl rfl ?_
    |refine Qa hP c3 rfl rfl rfl ?_
    |refine Qa hP c4 rfl rfl rfl ?_
    |simp+decide (disch:=try exact D1 hs) only[go_sem,hs]
   all_goals exact gj bf rfl
  ·have c1:=mQ ha.cb hb.cb ha.cb hx.cb;have c2:=mQ hc.cb hd.cb hc.cb hx.cb;refine aB Qg Tryz.func129 qO fun C hP=>?_;refine Sz1 hs ?_
   repeat' first
    |refine dp ?_ ?_
    |refine Qa hP c1 rfl rfl rfl ?_
    |refine Qa hP c2 rfl rfl rfl ?_
    |simp+decide (disch:=try exact D1 hs) only[go_sem,hs]
   all_goals exact gj bf rfl
  ·have c1:=aaF ha hb hc hx;refine aB Qg Tryz.func129 qO fun C hP=>?_;refine Sz1 hs ?_
   repeat' first
    |refine dp ?_ ?_
    |refine Qa hP c1 rfl rfl rfl ?_
    |simp+decide (disch:=try exact D1 hs) only[go_sem,hs]
   all_goals exact Qc rfl rfl
  ·have c1:=jH ha.cb hx.cb;have c2:=jH hb.cb hx.cb;have c3:=ji (kv ha hx ha hx) (kv hb hx hb hx) (by omega) (by omega) (by omega) (by omega) (by omega) (by omega);have c4:=jH hc.cb hx.cb;have c5:=ji (kv ha hx ha hx) (kv hc hx hc hx) (by omega) (by omega) (by omega) (by omega) (by omega) (by omega);refine aB Qg Tryz.func129 qO fun C hP=>?_;refine Sz1 hs ?_
   repeat' first
    |refine dp ?_ ?_
    |refine Qa hP c1 rfl rfl rfl ?_
    |refine Qa hP c2 rfl rfl rfl ?_
    |refine Qa hP c3 rfl rfl rfl ?_
    |refine Qa hP c4 rfl rfl rfl ?_
    |refine Qa hP c5 rfl rfl rfl ?_
    |simp+decide (disch:=try exact D1 hs) only[go_sem,hs]
   all_goals exact gj bf rfl
  ·have e1:=mQ ha.cb hb.cb ha.cb hx.cb;have c1:=jH hc.cb hx.cb;have c2:=jH hc.cb hd.cb;have c3:=ji (kv hc hx hc hx) (kv hc hd hc hd) (by omega) (by omega) (by omega) (by omega) (by omega) (by omega);refine aB Qg Tryz.func129 qO fun C hP=>?_;refine Sz1 hs ?_
   repeat' first
    |refine dp ?_ ?_
    |refine Qa hP e1 rfl rfl rfl ?_
    |refine Qa hP c1 rfl rfl rfl ?_
    |refine Qa hP c2 rfl rfl rfl ?_
    |refine Qa hP c3 rfl rfl rfl ?_
    |simp+decide (disch:=try exact D1 hs) only[go_sem,hs]
   all_goals exact gj bf rfl
  ·have c1:=jH ha.cb hx.cb;have c2:=jH ha.cb hb.cb;have c3:=ji (kv ha hx ha hx) (kv ha hb ha hb) (by omega) (by omega) (by omega) (by omega) (by omega) (by omega);have c4:=jH hc.cb hx.cb;have c5:=jH hc.cb hd.cb;have c6:=ji (kv hc hx hc hx) (kv hc hd hc hd) (by omega) (by omega) (by omega) (by omega) (by omega) (by omega);refine aB Qg Tryz.func129 qO fun C hP=>?_;refine Sz1 hs ?_
   repeat' first
    |refine dp ?_ ?_
    |refine Qa hP c1 rfl rfl rfl ?_
    |refine Qa hP c2 rfl rfl rfl ?_
    |refine Qa hP c3 rfl rfl rfl ?_
    |refine Qa hP c4 rfl rfl rfl ?_
    |refine Qa hP c5 rfl rfl rfl ?_
    |refine Qa hP c6 rfl rfl rfl ?_
    |simp+decide (disch:=try exact D1 hs) only[go_sem,hs]
   all_goals exact gj bf rfl
  ·have c1:=jH ha.cb hx.cb;have c2:=jH ha.cb hb.cb;have c3:=ji (kv ha hx ha hx) (kv ha hb ha hb) (by omega) (by omega) (by omega) (by omega) (by omega) (by omega);have c4:=jH hb.cb hx.cb;have c5:=ji (kv hb hx hb hx) (kv ha hb ha hb) (by omega) (by omega) (by omega) (by omega) (by omega) (by omega);refine aB Qg Tryz.func129 qO fun C hP=>?_;refine Sz1 hs ?_
   repeat' first
    |refine dp ?_ ?_
    |refine Qa hP c1 rfl rfl rfl ?_
    |refine Qa hP c2 rfl rfl rfl ?_
    |refine Qa hP c3 rfl rfl rfl ?_
    |refine Qa hP c4 rfl rfl rfl ?_
    |refine Qa hP c5 rfl rfl rfl ?_
    |simp+decide (disch:=try exact D1 hs) only[go_sem,hs]
   all_goals exact gj bf rfl
 ·have hn:k≠6/\k≠7/\k≠8/\k≠9/\k≠10/\k≠11/\k≠12/\k≠13/\k≠14:=by omega
  have dd:decide (k=6)=false/\decide (k=7)=false/\decide (k=8)=false/\decide (k=9)=false/\decide (k=10)=false/\decide (k=11)=false/\decide (k=12)=false/\decide (k=13)=false/\decide (k=14)=false:=by obtain⟨h1,h2,h3,h4,h5,h6,h7,h8,h9⟩:=hn;exact⟨decide_eq_false h1,decide_eq_false h2,decide_eq_false h3,decide_eq_false h4,decide_eq_false h5,decide_eq_false h6,decide_eq_false h7,decide_eq_false h8,decide_eq_false h9⟩
  rw[acL hn];refine aB Qg Tryz.func129 qO fun C hP=>?_;refine Sz2 hs dd ?_;exact⟨rfl,PV.eI [],trivial,rfl⟩
def cr(cs:List Cd)(l:List Int)(k:Nat):Cd:=(cC cs l).getD k ([],[])
def sI(S:List Q8)(cs:List Cd)(vs:List Vr)(i:Nat):List (List Tm):=
 sU (S.getD i cJ).k (Q3 (gW vs (i:Nat):Nat)) (cr cs (S.getD i cJ).args 0) (cr cs (S.getD i cJ).args 1) (cr cs (S.getD i cJ).args 2) (cr cs (S.getD i cJ).args 3) (cs.getD i ([],[]))
theorem GA{cs:List Cd}{l:List Int}(h:∀c∈cs,CW c)(hr:∀a∈l,0<=a/\a<cs.length)(k:Nat):CW (cr cs l k):=by
 unfold cr;rw[Kae];cases e:(cC cs l)[k]? with
 |none=>exact CW.nil
 |some c=>exact h c (LV hr c (Kaj e))
theorem afT{cs:List Cd}{l:List Int}{k:Nat}(h:l.length<=k):cr cs l k=([],[]):=by unfold cr;rw[Kae,KcE (by simpa[cC]using h)];rfl
theorem aiU{cs:List Cd}{l:List Int}{k m:Nat}(h:k<l.length)(hm:l[k]=(m:Int))(hc:m<cs.length):cr cs l k=cs[m]:=by unfold cr cC;rw[Kae,Kat,Kag h,hm];show cs.getD _ _=_;rw[KbF,Kae,Kag hc];rfl
def Cm(p:Nat->Cd)(j i:Nat):PV:=if i<j then PV.ao (p i).1 else .aa
def Cn(p:Nat->Cd)(j i:Nat):PV:=if i<j then PV.ao (p i).2 else .aa
def pX(p:Nat->Cd)(j:Nat):PV:=.agg [Cm p j 0,Cn p j 0,Cm p j 1,Cn p j 1,Cm p j 2,Cn p j 2,Cm p j 3,Cn p j 3]
theorem qS{c:Cd}(h:c=([],[])):PV.le (.agg [.aa,.aa]) (PV.aC c):=by subst h;exact⟨trivial,trivial,trivial⟩
theorem acM{S:List Q8}{G:List bD}{cs:List Cd}{vs:List Vr}{i:Nat}(hS:S.length<=8)(hi:i<S.length)(hl:vs.length<=64)(cX:cs.length=S.length)(hC:∀c∈cs,CW c)(hr:∀a∈S[i].args,0<=a/\a<(i:Nat))(js:S[i].args.length<=4):
  Qd Tryz.prog 79 [PV.cw S G,PV.frame cs vs,.int .i64 (i:Nat)] (· = .aG [PV.eI (sI S cs vs i),.int .i64 0]):=by
 have dP:∀a∈S[i].args,0<=a/\a<cs.length:=fun a ha=>by have:=hr a ha;omega
 have ju:=GA hC dP;have il:S.getD i cJ=S[i]:=by rw[Kae,Kag hi];rfl
 have o8:i<cs.length:=by omega
 have Jw:cs.getD i ([],[])=cs[i]:=by rw[Kae,Kag o8];rfl
 have heq:=UA (G:=G) (cs:=cs) (vs:=vs) hS hi hl (ju 0) (ju 1) (ju 2) (ju 3) (hC _ (Kah o8));have eY:sI S cs vs i=sU S[i].k (Q3 (gW vs (i:Nat):Nat)) (cr cs S[i].args 0) (cr cs S[i].args 1) (cr cs S[i].args 2) (cr cs S[i].args 3) cs[i]:=by unfold sI;rw[il,Jw]
 rw[eY];generalize hE:sU S[i].k (Q3 (gW vs (i:Nat):Nat)) (cr cs S[i].args 0) (cr cs S[i].args 1) (cr cs S[i].args 2) (cr cs S[i].args 3) cs[i]=E at *
 clear eY il Jw hE;have bK:∀k (h:k<S[i].args.length),∃m:Nat,S[i].args[k]=(m:Int)/\∃hm:m<cs.length,cr cs S[i].args k=cs[m]:=fun k h=>by
  have:=dP _ (Kah h);obtain⟨m,hm⟩:∃m:Nat,S[i].args[k]=(m:Int):=⟨S[i].args[k].toNat,by omega⟩
  exact⟨m,hm,by omega,aiU h hm (by omega)⟩
 generalize aw:cr cs S[i].args=p at *
 have mh:∀k,S[i].args.length<=k->p k=([],[]):=fun k h=>by rw[<-aw];exact afT h
 clear ju hr dP aw;obtain⟨s,hs⟩:∃s,S[i]=s:=⟨_,rfl⟩
 rw[hs]at js bK mh;obtain⟨k,nm,args,n0,an,ad⟩:=s;simp only at js bK mh;refine aB Qg Tryz.func79 ah8 fun C hP=>?_;refine Sz0 ?_;refine Qo (fun h=>absurd h (by omega)) (fun _=>?_);refine Sz0 ?_;refine Qo (fun h=>absurd h (by omega)) (fun _=>?_);refine Sz0 ?_;refine Qb (fun h=>absurd h (by omega)) (fun _=>?_);refine Sz0 ?_;refine Qn okB [(9,9),(26,55)] [] (fun q J hp=>∃j,q=args.length-j/\j<=args.length/\J 8= .mp 8 0 0/\J 9= .int .i64 (j:Nat)/\hp 3=some ⟨2,25,[PV.cw S G],false⟩/\hp 4=some ⟨2,30,[PV.frame cs vs],false⟩/\hp 8=some ⟨8,167,[pX p j],false⟩) args.length ?_ ?_
 ·refine⟨0,rfl,by omega,?_⟩;refine Sz0 ?_;exact⟨rfl,rfl⟩
 rintro _ J h ⟨j,rfl,hj,j8,j9,b3,b4,b8⟩;refine Sz3 j9 b3 hs ?_;refine Q4 (fun hg=>?_) (fun hg=>?_)
 ·have dj:j<args.length:=by omega
  refine Sz1 j9 ?_;refine Qb (fun _=>?_) (fun eW=>absurd eW (by omega));obtain⟨m,hm,uG,hpm⟩:=bK j dj;generalize hy:cs[m]=y at *
  have h4:j=0∨j=1∨j=2∨j=3:=by omega
  have a0:pX p 0= .agg [.aa,.aa,.aa,.aa,.aa,.aa,.aa,.aa]:=rfl;have a1:pX p 1= .agg [PV.ao (p 0).1,PV.ao (p 0).2,.aa,.aa,.aa,.aa,.aa,.aa]:=rfl;have a2:pX p 2= .agg [PV.ao (p 0).1,PV.ao (p 0).2,PV.ao (p 1).1,PV.ao (p 1).2,.aa,.aa,.aa,.aa]:=rfl;have a3:pX p 3= .agg [PV.ao (p 0).1,PV.ao (p 0).2,PV.ao (p 1).1,PV.ao (p 1).2,PV.ao (p 2).1,PV.ao (p 2).2,.aa,.aa]:=rfl;have a4:pX p 4= .agg [PV.ao (p 0).1,PV.ao (p 0).2,PV.ao (p 1).1,PV.ao (p 1).2,PV.ao (p 2).1,PV.ao (p 2).2,PV.ao (p 3).1,PV.ao (p 3).2]:=rfl;subst hpm;rcases h4 with rfl|rfl|rfl|rfl
  ·rw[a0]at b8;refine Sz8 j9 j8 b3 b4 b8 hs hm hy ?_;rw[tI (i:=0) (by omega)];simp only[KbI,Kck,Nat.reduceMul,Ka9,KaO];refine Sz8 j9 j8 b3 b4 b8 hs hm hy ?_;refine Qi (args.length-1) (by omega) ⟨1,rfl,by omega,?_⟩;exact Tz4 j8 b3 b4 a1
  ·rw[a1]at b8;refine Sz8 j9 j8 b3 b4 b8 hs hm hy ?_;rw[tI (i:=1) (by omega)];simp only[KbI,Kck,Nat.reduceMul,Ka9,KaO];refine Sz8 j9 j8 b3 b4 b8 hs hm hy ?_;refine Qi (args.length-2) (by omega) ⟨2,rfl,by omega,?_⟩;exact Tz4 j8 b3 b4 a2
  ·rw[a2]at b8;refine Sz8 j9 j8 b3 b4 b8 hs hm hy ?_;rw[tI (i:=2) (by omega)];simp only[KbI,Kck,Nat.reduceMul,Ka9,KaO];refine Sz8 j9 j8 b3 b4 b8 hs hm hy ?_;refine Qi (args.length-3) (by omega) ⟨3,rfl,by omega,?_⟩;exact Tz4 j8 b3 b4 a3
  ·rw[a3]at b8;refine Sz8 j9 j8 b3 b4 b8 hs hm hy ?_;rw[tI (i:=3) (by omega)];simp only[KbI,Kck,Nat.reduceMul,Ka9,KaO];refine Sz8 j9 j8 b3 b4 b8 hs hm hy ?_;refine Qi (args.length-4) (by omega) ⟨4,rfl,by omega,?_⟩;exact Tz4 j8 b3 b4 a4
 ·obtain rfl:j=args.length:=by omega
  obtain⟨x,hx⟩:∃x,cs[i]=x:=⟨_,rfl⟩
  rw[hx]at heq;have e0:∀fr hp K d,kX 4 2 (.mp 8 0 0) (.int .i64 0) d fr hp K=K (ae fr d (.mp 8 0 0)) hp:=fun _ _ _ _=>tI (i:=0) (by omega);have e1:∀fr hp K d,kX 4 2 (.mp 8 0 0) (.int .i64 1) d fr hp K=K (ae fr d (.mp 8 0 2)) hp:=fun _ _ _ _=>tI (i:=1) (by omega);have e2:∀fr hp K d,kX 4 2 (.mp 8 0 0) (.int .i64 2) d fr hp K=K (ae fr d (.mp 8 0 4)) hp:=fun _ _ _ _=>tI (i:=2) (by omega);have e3:∀fr hp K d,kX 4 2 (.mp 8 0 0) (.int .i64 3) d fr hp K=K (ae fr d (.mp 8 0 6)) hp:=fun _ _ _ _=>tI (i:=3) (by omega);have a0:pX p 0= .agg [.aa,.aa,.aa,.aa,.aa,.aa,.aa,.aa]:=rfl;have a1:pX p 1= .agg [PV.ao (p 0).1,PV.ao (p 0).2,.aa,.aa,.aa,.aa,.aa,.aa]:=rfl;have a2:pX p 2= .agg [PV.ao (p 0).1,PV.ao (p 0).2,PV.ao (p 1).1,PV.ao (p 1).2,.aa,.aa,.aa,.aa]:=rfl;have a3:pX p 3= .agg [PV.ao (p 0).1,PV.ao (p 0).2,PV.ao (p 1).1,PV.ao (p 1).2,PV.ao (p 2).1,PV.ao (p 2).2,.aa,.aa]:=rfl;have a4:pX p 4= .agg [PV.ao (p 0).1,PV.ao (p 0).2,PV.ao (p 1).1,PV.ao (p 1).2,PV.ao (p 2).1,PV.ao (p 2).2,PV.ao (p 3).1,PV.ao (p 3).2]:=rfl;have hL:args.length=0∨args.length=1∨args.length=2∨args.length=3∨args.length=4:=by omega
  clear bK hg hj;generalize hn:args.length=n at *
  rcases hL with rfl|rfl|rfl|rfl|rfl
  ·have hq:=heq.le (args':=[PV.cw S G,PV.frame cs vs,.int .i64 (i:Nat),.agg [.aa,.aa],.agg [.aa,.aa],.agg [.aa,.aa],.agg [.aa,.aa],PV.aC x]) ⟨Qf _,Qf _,Qf _,qS (mh 0 (by omega)),qS (mh 1 (by omega)),qS (mh 2 (by omega)),qS (mh 3 (by omega)),Qf _,trivial⟩;rw[a0]at b8;refine Sz6 j8 b3 b4 b8 hs hn ?_;refine Sz9 j8 b3 b4 b8 e0 e1 e2 e3 hx ?_;refine Qa hP hq rfl rfl rfl ?_;refine Sz0 ?_;exact cA rfl rfl rfl (Qf _) (Qf _)
  ·have hq:=heq.le (args':=[PV.cw S G,PV.frame cs vs,.int .i64 (i:Nat),PV.aC (p 0),.agg [.aa,.aa],.agg [.aa,.aa],.agg [.aa,.aa],PV.aC x]) ⟨Qf _,Qf _,Qf _,Qf _,qS (mh 1 (by omega)),qS (mh 2 (by omega)),qS (mh 3 (by omega)),Qf _,trivial⟩;rw[a1]at b8;refine Sz6 j8 b3 b4 b8 hs hn ?_;refine Sz9 j8 b3 b4 b8 e0 e1 e2 e3 hx ?_;refine Qa hP hq rfl rfl rfl ?_;refine Sz0 ?_;exact cA rfl rfl rfl (Qf _) (Qf _)
  ·have hq:=heq.le (args':=[PV.cw S G,PV.frame cs vs,.int .i64 (i:Nat),PV.aC (p 0),PV.aC (p 1),.agg [.aa,.aa],.agg [.aa,.aa],PV.aC x]) ⟨Qf _,Qf _,Qf _,Qf _,Qf _,qS (mh 2 (by omega)),qS (mh 3 (by omega)),Qf _,trivial⟩;rw[a2]at b8;refine Sz6 j8 b3 b4 b8 hs hn ?_;refine Sz9 j8 b3 b4 b8 e0 e1 e2 e3 hx ?_;refine Qa hP hq rfl rfl rfl ?_;refine Sz0 ?_;exact cA rfl rfl rfl (Qf _) (Qf _)
  ·have hq:=heq.le (args':=[PV.cw S G,PV.frame cs vs,.int .i64 (i:Nat),PV.aC (p 0),PV.aC (p 1),PV.aC (p 2),.agg [.aa,.aa],PV.aC x]) ⟨Qf _,Qf _,Qf _,Qf _,Qf _,Qf _,qS (mh 3 (by omega)),Qf _,trivial⟩;rw[a3]at b8;refine Sz6 j8 b3 b4 b8 hs hn ?_;refine Sz9 j8 b3 b4 b8 e0 e1 e2 e3 hx ?_;refine Qa hP hq rfl rfl rfl ?_;refine Sz0 ?_;exact cA rfl rfl rfl (Qf _) (Qf _)
  ·have hq:=heq.le (args':=[PV.cw S G,PV.frame cs vs,.int .i64 (i:Nat),PV.aC (p 0),PV.aC (p 1),PV.aC (p 2),PV.aC (p 3),PV.aC x]) ⟨Qf _,Qf _,Qf _,Qf _,Qf _,Qf _,Qf _,Qf _,trivial⟩;rw[a4]at b8;refine Sz6 j8 b3 b4 b8 hs hn ?_;refine Sz9 j8 b3 b4 b8 e0 e1 e2 e3 hx ?_;refine Qa hP hq rfl rfl rfl ?_;refine Sz0 ?_;exact cA rfl rfl rfl (Qf _) (Qf _)
abbrev eu(S:List Q8):List Cd:=(bC S S.length).1
abbrev gL(S:List Q8):List Vr:=(bC S S.length).2.1
def iD(S:List Q8):Nat->List (List Tm)
 |0=>[]
 |n+1=>iD S n++sI S (eu S) (gL S) n
theorem MS{k:Int}{t:List Tm}{a b c d x:Cd}:(sU k t a b c d x).length<=2:=by
 unfold sU F3 Cq
 repeat' split
 all_goals simp
theorem Es{S:List Q8}{G:List bD}(hF:nS S G)(hb:∀s∈S,jR s):∀c∈eu S,CW c:=fun c hc=>by have hl:=su S S.length;obtain⟨n,hn,rfl⟩:=KaA hc;obtain⟨w,_,w8,_,hw⟩:=As hF hb S.length (Kad _) n (by rw[<-hl];exact hn);rw[Kae,Kag hn]at hw;exact ajM hw w8
theorem aiV{k:Int}:fR k<=4:=by
 unfold fR
 repeat' split
 all_goals omega
theorem aiW(hN:oM){S:List Q8}{G:List bD}(hF:nS S G)(hS:S.length<2^40)(hG:G.length<2^40)(hb:∀s∈S,jR s)(hg:∀g∈G,l9 g):
  Qd Tryz.prog 39 [PV.cw S G] (fun r=>∃(l:List (List Tm))(e:Int),r= .aG [PV.eI l,.int .i64 e]/\(e=0->l=iD S S.length)):=by
 have hO:=KQ hN hF hS hG hb hg;have rA:=hF.l;have cX:(eu S).length=S.length:=su S S.length;have jA:=(Ew S S.length).1;have hC:=Es hF hb;have aL:∀i (hi:i<S.length),Qd Tryz.prog 79 [PV.cw S G,PV.frame (eu S) (gL S),.int .i64 (i:Nat)] (· = .aG [PV.eI (sI S (eu S) (gL S) i),.int .i64 0]):=fun i hi=>by have ok:=hF.f.s i hi;have:=ok.l;have:= @aiV S[i].k;exact acM rA hi (by show(bC S S.length).2.1.length<=64;omega) cX hC ok.r (by omega)
 have bc:∀i,(sI S (eu S) (gL S) i).length<=2:=fun i=>MS;have Fl:∀i,(iD S i).length<=2*i:=fun i=>by
  induction i with
  |zero=>simp[iD]
  |succ n ih=>rw[iD,Kaw];have:=bc n;omega
 have ao3:∀i,iD S (i+1)=iD S i++sI S (eu S) (gL S) i:=fun i=>rfl;clear hC jA;generalize iD S=H at *
 generalize sI S (eu S) (gL S)=st at *
 show Qd _ _ _ _;unfold eu gL at *
 generalize(bC S S.length).1=C0 at *
 generalize(bC S S.length).2.1=V0 at *
 refine aB Qg Tryz.func39 ah9 fun C hP=>?_;refine Sz0 ?_;refine Qa hP hO rfl rfl rfl ?_;refine Sz0 ?_;refine oL 6 900 1 43 (by omega) Tz0 ?_;refine Qn okB [(2,3),(6,10),(19,47)] [47,900] (fun q J hp=>∃i,q=S.length-i/\i<=S.length/\J 6= .ms 900 (H i).length/\J 7= .int .i64 (i:Nat)/\hp 1=some ⟨2,25,[PV.cw S G],false⟩/\hp 4=some ⟨2,30,[PV.frame C0 V0],false⟩/\hp 900=some ⟨1,43,(H i).map PV.ao,false⟩) S.length ?_ ?_
 ·refine⟨0,rfl,by omega,?_⟩;have h0:H 0=[]:=Kar.1 (by have:=Fl 0;omega);refine Sz1 h0 ?_;rfl
 rintro _ J h ⟨i,rfl,hi,j6,j7,b1,b4,b9⟩;refine Sz2 j7 b1 ?_;refine Qb (fun hc=>?_) (fun hc=>?_)
 ·have az:i<S.length:=by omega
  have c1:=aL i az;have l1:=bc i;have l2:=Fl i;have hs:=ao3 i;generalize st i=L at *
  refine Sz3 j7 b1 b4 ?_;refine Qa hP c1 rfl rfl rfl ?_;refine Sz5 j6 j7 b1 b4 b9 ?_;refine Qn okB [(2,3),(10,10),(33,44)] [] (fun q J2 hp=>∃k,q=L.length-k/\k<=L.length/\J2 10= .int .i64 (k:Nat)/\hp 1=some ⟨2,25,[PV.cw S G],false⟩/\hp 4=some ⟨2,30,[PV.frame C0 V0],false⟩/\hp 900=some ⟨1,43,(H i).map PV.ao,false⟩) L.length ?_ ?_
  ·refine⟨0,rfl,by omega,?_⟩;refine Sz3 b1 b4 b9 ?_;rfl
  rintro _ J2 h2 ⟨k,rfl,hk,Kr,sS,c4,c9⟩;refine Sz1 Kr ?_;refine Qb (fun eL=>?_) (fun eL=>?_)
  ·have cP:k<L.length:=by omega
   generalize hx:L[k]=x at *
   refine Sz2 Kr hx ?_;refine Qb (fun h4=>?_) (fun h4=>?_)
   ·refine Sz0 ?_;exact gZ ⟨[],4,rfl,fun h=>by cases h⟩ rfl rfl (p':=PV.eI []) trivial (Qf _)
   refine Sz1 Kr ?_;refine Qi (L.length-(k+1)) (by omega) ⟨k+1,rfl,by omega,?_⟩;exact Tz3 sS c4 c9
  obtain rfl:k=L.length:=by omega
  refine Sz5 j6 j7 sS c4 c9 ?_;rw[jI (f:=PV.ao) (xs:=H i) (ys:=L) c9 rfl (by omega) (by omega) (by omega)];refine Sz1 j7 ?_;simp (disch:=decide) only[jG,pI];refine Qi (S.length-(i+1)) (by omega) ⟨i+1,rfl,by omega,?_⟩;rw[hs,Kaw,KbW];exact Tz3 j7 sS c4
 obtain rfl:i=S.length:=by omega
 refine Sz2 j6 b9 ?_;rw[DS _ 900 _ 1 43 _ false b9 (by decide),Kai (by simp)];exact gZ ⟨_,0,rfl,fun _=>rfl⟩ rfl rfl (Qf _) (Qf _)
structure nd where
 k:Int
 args:List Int
 s:Int
abbrev PV.oC(c:nd):PV:=.agg [.int .i64 c.k,PV.mono c.args,.int .i64 c.s]
def I0:nd:=⟨0,[],0⟩
def jU(k:Int)(l:List Int)(i:Int):Option nd:=
 if k=6 then some ⟨4,[],i⟩else if k=7∨k=8 then some ⟨1,[l.getD 1 0,l.getD 2 0],i⟩else if k=9 then some ⟨3,[l.getD 0 0,l.getD 1 0,l.getD 2 0,l.getD 3 0],i⟩
 else if k=10∨k=12∨k=14 then some ⟨1,[l.getD 0 0,l.getD 1 0],i⟩else if k=11 then some ⟨2,[l.getD 0 0,l.getD 1 0,l.getD 2 0],i⟩
 else if k=13 then some ⟨1,[l.getD 0 0,l.getD 2 0],i⟩else none
theorem acN{k:Int}{l:List Int}{i:Int}(h:k≠6/\k≠7/\k≠8/\k≠9/\k≠10/\k≠11/\k≠12/\k≠13/\k≠14):jU k l i=none:=by obtain⟨h1,h2,h3,h4,h5,h6,h7,h8,h9⟩:=h;simp[jU,h1,h2,h3,h4,h5,h6,h7,h8,h9]
theorem LW{S:List Q8}{G:List bD}{i:Nat}(hS:S.length<=8)(hi:i<S.length)(aO:sC i S[i]):
  Qd Tryz.prog 81 [PV.cw S G,.int .i64 (i:Nat)] (· = .aG [PV.oC ((jU S[i].k S[i].args (i:Nat)).getD I0),.bool (jU S[i].k S[i].args (i:Nat)).isSome]):=by
 have hl:=aO.l;obtain⟨s,hs⟩:∃s,S[i]=s:=⟨_,rfl⟩
 rw[hs]at hl⊢;clear aO;obtain⟨k,nm,args,n0,an,ad⟩:=s;simp only at hl⊢;by_cases hk:k=6∨k=7∨k=8∨k=9∨k=10∨k=11∨k=12∨k=13∨k=14
 ·rcases hk with rfl|rfl|rfl|rfl|rfl|rfl|rfl|rfl|rfl
  ·skip
   refine mP Qg Tryz.func81 rfl qQ Nz fun C hP=>?_;simp only[qc];refine du ?_;refine Sz1 hs ?_;refine kS (eA ?_);refine bo ?_;exact gZ rfl rfl rfl ⟨rfl,trivial,rfl,trivial⟩ (Qf _)
  ·skip
   obtain⟨a,b,c,rfl⟩:∃a b c,args=[a,b,c]:=by
    match args,hl with
    | [a,b,c],_=>exact⟨a,b,c,rfl⟩
   have g0:([a,b,c]:List Int)[0]=a:=rfl;have g1:([a,b,c]:List Int)[1]=b:=rfl;have g2:([a,b,c]:List Int)[2]=c:=rfl;refine mP Qg Tryz.func81 rfl qQ Nz fun C hP=>?_;simp only[qc];refine du ?_;refine Sz4 hs g0 g1 g2 ?_;refine bT (jh 32 gJ) ?_;refine bo ?_;refine kS (eA ?_);refine bo ?_;exact gZ rfl rfl rfl (Qf _) (Qf _)
  ·skip
   obtain⟨a,b,c,rfl⟩:∃a b c,args=[a,b,c]:=by
    match args,hl with
    | [a,b,c],_=>exact⟨a,b,c,rfl⟩
   have g0:([a,b,c]:List Int)[0]=a:=rfl;have g1:([a,b,c]:List Int)[1]=b:=rfl;have g2:([a,b,c]:List Int)[2]=c:=rfl;refine mP Qg Tryz.func81 rfl qQ Nz fun C hP=>?_;simp only[qc];refine du ?_;refine Sz4 hs g0 g1 g2 ?_;refine bT (jh 32 gJ) ?_;refine bo ?_;refine kS (eA ?_);refine bo ?_;exact gZ rfl rfl rfl (Qf _) (Qf _)
  ·skip
   obtain⟨a,b,c,d,rfl⟩:∃a b c d,args=[a,b,c,d]:=by
    match args,hl with
    | [a,b,c,d],_=>exact⟨a,b,c,d,rfl⟩
   have e3:∀fr hp K dd,Q7 1 (PV.mono [a,b,c,d]) (.int .i64 3) dd fr hp K=K (ae fr dd (.pt [.int .i64 d])) hp:=fun _ _ _ _=>cu (xs:=[.int .i64 a,.int .i64 b,.int .i64 c,.int .i64 d]) (n:=3) rfl;have g0:([a,b,c,d]:List Int)[0]=a:=rfl;have g1:([a,b,c,d]:List Int)[1]=b:=rfl;have g2:([a,b,c,d]:List Int)[2]=c:=rfl;have g3:([a,b,c,d]:List Int)[3]=d:=rfl;refine mP Qg Tryz.func81 rfl qQ Nz fun C hP=>?_;simp only[qc];refine du ?_;refine Sz6 hs g0 g1 g2 g3 e3 ?_;rw[Ac rfl (fun p hp=>by simp only[KaC,KbE,or_false]at hp;rcases hp with rfl|rfl|rfl|rfl<;>rfl) (by omega)];refine bo ?_;refine bT (jh 49 gJ) ?_;refine bo ?_;refine kS (eA ?_);refine bo ?_;exact gZ rfl rfl rfl (Qf _) (Qf _)
  ·skip
   obtain⟨a,b,c,rfl⟩:∃a b c,args=[a,b,c]:=by
    match args,hl with
    | [a,b,c],_=>exact⟨a,b,c,rfl⟩
   have g0:([a,b,c]:List Int)[0]=a:=rfl;have g1:([a,b,c]:List Int)[1]=b:=rfl;have g2:([a,b,c]:List Int)[2]=c:=rfl;refine mP Qg Tryz.func81 rfl qQ Nz fun C hP=>?_;simp only[qc];refine du ?_;refine Sz4 hs g0 g1 g2 ?_;refine bT (jh 62 gJ) ?_;refine bo ?_;refine kS (eA ?_);refine bo ?_;exact gZ rfl rfl rfl (Qf _) (Qf _)
  ·skip
   obtain⟨a,b,c,rfl⟩:∃a b c,args=[a,b,c]:=by
    match args,hl with
    | [a,b,c],_=>exact⟨a,b,c,rfl⟩
   have g0:([a,b,c]:List Int)[0]=a:=rfl;have g1:([a,b,c]:List Int)[1]=b:=rfl;have g2:([a,b,c]:List Int)[2]=c:=rfl;refine mP Qg Tryz.func81 rfl qQ Nz fun C hP=>?_;simp only[qc];refine du ?_;refine Sz4 hs g0 g1 g2 ?_;rw[Ac rfl (fun p hp=>by simp only[KaC,KbE,or_false]at hp;rcases hp with rfl|rfl|rfl<;>rfl) (by omega)];refine bo ?_;refine bT (jh 76 gJ) ?_;refine bo ?_;refine kS (eA ?_);refine bo ?_;exact gZ rfl rfl rfl (Qf _) (Qf _)
  ·skip
   obtain⟨a,b,c,d,rfl⟩:∃a b c d,args=[a,b,c,d]:=by
    match args,hl with
    | [a,b,c,d],_=>exact⟨a,b,c,d,rfl⟩
   have e3:∀fr hp K dd,Q7 1 (PV.mono [a,b,c,d]) (.int .i64 3) dd fr hp K=K (ae fr dd (.pt [.int .i64 d])) hp:=fun _ _ _ _=>cu (xs:=[.int .i64 a,.int .i64 b,.int .i64 c,.int .i64 d]) (n:=3) rfl;have g0:([a,b,c,d]:List Int)[0]=a:=rfl;have g1:([a,b,c,d]:List Int)[1]=b:=rfl;have g2:([a,b,c,d]:List Int)[2]=c:=rfl;have g3:([a,b,c,d]:List Int)[3]=d:=rfl;refine mP Qg Tryz.func81 rfl qQ Nz fun C hP=>?_;simp only[qc];refine du ?_;refine Sz6 hs g0 g1 g2 g3 e3 ?_;refine bT (jh 62 gJ) ?_;refine bo ?_;refine kS (eA ?_);refine bo ?_;exact gZ rfl rfl rfl (Qf _) (Qf _)
  ·skip
   obtain⟨a,b,c,d,rfl⟩:∃a b c d,args=[a,b,c,d]:=by
    match args,hl with
    | [a,b,c,d],_=>exact⟨a,b,c,d,rfl⟩
   have e3:∀fr hp K dd,Q7 1 (PV.mono [a,b,c,d]) (.int .i64 3) dd fr hp K=K (ae fr dd (.pt [.int .i64 d])) hp:=fun _ _ _ _=>cu (xs:=[.int .i64 a,.int .i64 b,.int .i64 c,.int .i64 d]) (n:=3) rfl;have g0:([a,b,c,d]:List Int)[0]=a:=rfl;have g1:([a,b,c,d]:List Int)[1]=b:=rfl;have g2:([a,b,c,d]:List Int)[2]=c:=rfl;have g3:([a,b,c,d]:List Int)[3]=d:=rfl;refine mP Qg Tryz.func81 rfl qQ Nz fun C hP=>?_;simp only[qc];refine du ?_;refine Sz6 hs g0 g1 g2 g3 e3 ?_;refine bT (jh 87 gJ) ?_;refine bo ?_;refine kS (eA ?_);refine bo ?_;exact gZ rfl rfl rfl (Qf _) (Qf _)
  ·skip
   obtain⟨a,b,rfl⟩:∃a b,args=[a,b]:=by
    match args,hl with
    | [a,b],_=>exact⟨a,b,rfl⟩
   have g0:([a,b]:List Int)[0]=a:=rfl;have g1:([a,b]:List Int)[1]=b:=rfl;refine mP Qg Tryz.func81 rfl qQ Nz fun C hP=>?_;simp only[qc];refine du ?_;refine Sz3 hs g0 g1 ?_;refine bT (jh 62 gJ) ?_;refine bo ?_;refine kS (eA ?_);refine bo ?_;exact gZ rfl rfl rfl (Qf _) (Qf _)
 ·have hn:k≠6/\k≠7/\k≠8/\k≠9/\k≠10/\k≠11/\k≠12/\k≠13/\k≠14:=by omega
  have dd:decide (k=6)=false/\decide (k=7)=false/\decide (k=8)=false/\decide (k=9)=false/\decide (k=10)=false/\decide (k=11)=false/\decide (k=12)=false/\decide (k=13)=false/\decide (k=14)=false:=by obtain⟨h1,h2,h3,h4,h5,h6,h7,h8,h9⟩:=hn;exact⟨decide_eq_false h1,decide_eq_false h2,decide_eq_false h3,decide_eq_false h4,decide_eq_false h5,decide_eq_false h6,decide_eq_false h7,decide_eq_false h8,decide_eq_false h9⟩
  rw[acN hn];refine mP Qg Tryz.func81 rfl qQ Nz fun C hP=>?_;simp only[qc];refine du ?_;refine Sz2 hs dd ?_;refine kS (eA ?_);refine bo ?_;exact gZ rfl rfl rfl ⟨rfl,trivial,rfl,trivial⟩ (Qf _)
theorem acO{c:nd}(hl:c.args.length<=40):Qd Tryz.prog 135 [PV.oC c,PV.oC c] (· = .bool true):=by
 obtain⟨k,args,s⟩:=c;simp only at hl;have d1:decide (¬k=k)=false:=by simp
 have d2:decide (¬s=s)=false:=by simp
 have d3:decide (¬(args.length:Int)=(args.length:Int))=false:=by simp
 refine aB Qg Tryz.func135 afG fun C hP=>?_;refine Sz3 d1 d2 d3 ?_;refine Qn okB [(4,5),(27,44)] [] (fun q J hp=>∃i,q=args.length-i/\i<=args.length/\J 5= .int .i64 (i:Nat)/\hp 2=some ⟨3,100,[PV.oC ⟨k,args,s⟩],false⟩/\hp 3=some ⟨3,100,[PV.oC ⟨k,args,s⟩],false⟩) args.length ?_ ?_
 ·refine⟨0,rfl,by omega,?_⟩;refine Sz0 ?_;rfl
 rintro _ J h ⟨i,rfl,hi,j5,b2,b3⟩;refine Sz2 j5 b2 ?_;refine Qb (fun hc=>?_) (fun hc=>?_)
 ·have az:i<args.length:=by omega
  generalize hx:args[i]=x at *
  have d4:decide (¬x=x)=false:=by simp
  refine Sz5 j5 b2 b3 hx d4 ?_;refine Qi (args.length-(i+1)) (by omega) ⟨i+1,rfl,by omega,?_⟩;exact Tz2 b2 b3
 refine Sz0 ?_;exact Qc rfl rfl
theorem aaG{S:List Q8}{G:List bD}{i:Nat}{c:nd}(hS:S.length<=8)(hi:i<S.length)(aO:sC i S[i])(hc:jU S[i].k S[i].args (i:Nat)=some c)(hs:c.s=(i:Nat))(js:c.args.length<=40):
  Qd Tryz.prog 82 [PV.oC c,PV.cw S G] (· = .bool true):=by
 have c1:=LW (G:=G) hS hi aO;rw[hc]at c1;have c2:=acO js;simp only[Kbd,Option.isSome_some]at c1;obtain⟨k,args,s⟩:=c;simp only at hs;subst hs;refine aB Qg Tryz.func82 aia fun C hP=>?_;refine Sz0 ?_;refine Qo (fun h=>absurd h (by omega)) (fun _=>?_);refine Sz0 ?_;refine Qb (fun h=>absurd h (by omega)) (fun _=>?_);refine Sz0 ?_;refine Qa hP c1 rfl rfl rfl ?_;refine Sz0 ?_;refine Qa hP c2 rfl rfl rfl ?_;refine Sz0 ?_;exact Qc rfl rfl
def ic(cs:List Cd)(vs:List Vr)(c:nd):List Tm:=
 if c.k=1 then dJ (cr cs c.args 0) (cr cs c.args 1) (cr cs c.args 0) (cr cs c.args 1)else if c.k=2 then ks (cr cs c.args 0) (cr cs c.args 1) (cr cs c.args 0) (cr cs c.args 2)
 else if c.k=3 then ks (cr cs c.args 0) (cr cs c.args 1) (cr cs c.args 2) (cr cs c.args 3)else vo (Q3 (gW vs c.s:Nat))
structure Uo(n:Nat)(i:Nat)(c:nd):Prop where
 s:c.s=(i:Nat)
 r:∀a∈c.args,0<=a/\a<(n:Nat)
 k:(c.k=4/\c.args=[])∨(c.k=1/\c.args.length=2)∨(c.k=2/\c.args.length=3)∨(c.k=3/\c.args.length=4)
theorem Nu{S:List Q8}{i n:Nat}{c:nd}(hi:i<S.length)(o9:i<=n)(aO:sC i S[i])(hc:jU S[i].k S[i].args (i:Nat)=some c):Uo n i c:=by
 have hl:=aO.l;have hr:=aO.r;generalize S[i]=s at *
 obtain⟨k,nm,args,n0,an,ad⟩:=s;simp only at hl hr hc;have gd:∀j,j<args.length->0<=args.getD j 0/\args.getD j 0<(n:Nat):=fun j hj=>by rw[Kae,Kag hj];have:=hr _ (Kah hj);simp only[Kbd];omega
 have ar:∀x:Int,fR k=x->(args.length:Int)=x:=fun x h=>by rw[hl,h]
 unfold jU at hc;split at hc
 ·cases hc;exact⟨rfl,fun a h=>(by cases h),.inl ⟨rfl,rfl⟩⟩
 split at hc
 ·rename_i h;have:=ar 3 (by unfold fR;rw[if_neg (by omega),if_neg (by omega),if_pos (by omega)]);cases hc;exact⟨rfl,fun a ha=>by simp at ha;rcases ha with rfl|rfl<;>exact gd _ (by omega),.inr (.inl ⟨rfl,rfl⟩)⟩
 split at hc
 ·rename_i h;have:=ar 4 (by subst h;decide);cases hc;exact⟨rfl,fun a ha=>by simp at ha;rcases ha with rfl|rfl|rfl|rfl<;>exact gd _ (by omega),.inr (.inr (.inr ⟨rfl,rfl⟩))⟩
 split at hc
 ·rename_i h;have:2<=args.length:=by
   rcases h with h|h|h
   ·have:=ar 3 (by subst h;decide);omega
   ·have:=ar 4 (by subst h;decide);omega
   ·have:=ar 2 (by subst h;decide);omega
  cases hc;exact⟨rfl,fun a ha=>by simp at ha;rcases ha with rfl|rfl<;>exact gd _ (by omega),.inr (.inl ⟨rfl,rfl⟩)⟩
 split at hc
 ·rename_i h;have:=ar 3 (by subst h;decide);cases hc;exact⟨rfl,fun a ha=>by simp at ha;rcases ha with rfl|rfl|rfl<;>exact gd _ (by omega),.inr (.inr (.inl ⟨rfl,rfl⟩))⟩
 split at hc
 ·rename_i h;have:=ar 4 (by subst h;decide);cases hc;exact⟨rfl,fun a ha=>by simp at ha;rcases ha with rfl|rfl<;>exact gd _ (by omega),.inr (.inl ⟨rfl,rfl⟩)⟩
 ·cases hc
theorem acP{S:List Q8}{G:List bD}{cs:List Cd}{vs:List Vr}{i:Nat}{c:nd}(hS:S.length<=8)(hi:i<S.length)(aO:sC i S[i])(hc:jU S[i].k S[i].args (i:Nat)=some c)(cX:cs.length=S.length)(hC:∀c∈cs,CW c)(hl:vs.length<=64):
  Qd Tryz.prog 42 [PV.oC c,PV.cw S G,PV.frame cs vs] (· = .aG [PV.ao (ic cs vs c),.int .i64 0]):=by
 obtain⟨h1,h2,h3⟩:=Nu (n:=S.length) hi (by omega) aO hc;have hr:∀a∈c.args,0<=a/\a<cs.length:=fun a ha=>by have:=h2 a ha;omega
 have anD:c.args.length<=4:=by
  rcases h3 with⟨_,h⟩|h|h|h
  ·rw[h];simp
  all_goals omega
 have c1:=aaG (G:=G) hS hi aO hc h1 (by omega);have hI:=Gz hr;have ju:=GA hC hr;clear hc h1 h2 hr aO;obtain⟨k,args,s⟩:=c;simp only at h3 hI ju anD;rcases h3 with⟨rfl,rfl⟩|⟨rfl,js⟩|⟨rfl,js⟩|⟨rfl,js⟩
 ·have c2:=Rg (cs:=cs) (i:=s) hl;have hv:ic cs vs ⟨4,[],s⟩=vo (Q3 (gW vs s:Nat)):=by simp only[ic,Int.reduceEq,reduceIte]
  rw[hv];refine aB Qg Tryz.func42 Ev fun C hP=>?_;refine Sz0 ?_;refine Qa hP c1 rfl rfl rfl ?_;refine Sz0 ?_;refine Qa hP c2 rfl rfl rfl ?_;refine Sz0 ?_;exact cA rfl rfl rfl (Qf _) (Qf _)
 ·have uF:(cC cs args).length=2:=by simp[cC,js]
  obtain⟨L,hL⟩:∃L,cC cs args=L:=⟨_,rfl⟩
  rw[hL]at hI uF;obtain⟨x,y,rfl⟩:∃x y,L=[x,y]:=by
   match L,uF with
   | [x,y],_=>exact⟨x,y,rfl⟩
  have d0:cr cs args 0=x:=by unfold cr;rw[hL];rfl
  have d1:cr cs args 1=y:=by unfold cr;rw[hL];rfl
  have hx:CW x:=by have:=ju 0;rwa[d0]at this
  have hy:CW y:=by have:=ju 1;rwa[d1]at this
  have hv:ic cs vs ⟨1,args,s⟩=dJ x y x y:=by simp only[ic,Int.reduceEq,reduceIte];rw[d0,d1]
  rw[hv];clear hv hL d0 d1;obtain⟨m0,m1,rfl,⟨b0,i0⟩,⟨b1,i1⟩⟩:=TK hI;have c2:=jH hx.cb hy.cb;have sS:Qd Tryz.prog 82 [.agg [.int .i64 1,.sl 1 [.int .i64 (m0:Nat),.int .i64 (m1:Nat)],.int .i64 s],PV.cw S G] (· = .bool true):=c1;show Qd _ _ [.agg [.int .i64 1,.sl 1 [.int .i64 (m0:Nat),.int .i64 (m1:Nat)],.int .i64 s],_,_] _;refine aB Qg Tryz.func42 Ev fun C hP=>?_;refine Sz0 ?_;refine Qa hP sS rfl rfl rfl ?_;refine Sz2 i0 i1 ?_;refine Qa hP c2 rfl rfl rfl ?_;refine Sz0 ?_;exact cA rfl rfl rfl (Qf _) (Qf _)
 ·have uF:(cC cs args).length=3:=by simp[cC,js]
  obtain⟨L,hL⟩:∃L,cC cs args=L:=⟨_,rfl⟩
  rw[hL]at hI uF;obtain⟨x,y,z,rfl⟩:∃x y z,L=[x,y,z]:=by
   match L,uF with
   | [x,y,z],_=>exact⟨x,y,z,rfl⟩
  have d0:cr cs args 0=x:=by unfold cr;rw[hL];rfl
  have d1:cr cs args 1=y:=by unfold cr;rw[hL];rfl
  have d2:cr cs args 2=z:=by unfold cr;rw[hL];rfl
  have hx:CW x:=by have:=ju 0;rwa[d0]at this
  have hy:CW y:=by have:=ju 1;rwa[d1]at this
  have hz:CW z:=by have:=ju 2;rwa[d2]at this
  have hv:ic cs vs ⟨2,args,s⟩=ks x y x z:=by simp only[ic,Int.reduceEq,reduceIte];rw[d0,d1,d2]
  rw[hv];clear hv hL d0 d1 d2;obtain⟨m0,m1,m2,rfl,⟨b0,i0⟩,⟨b1,i1⟩,⟨b2,i2⟩⟩:=Kq hI;have c2:=mQ hx.cb hy.cb hx.cb hz.cb;have sS:Qd Tryz.prog 82 [.agg [.int .i64 2,.sl 1 [.int .i64 (m0:Nat),.int .i64 (m1:Nat),.int .i64 (m2:Nat)],.int .i64 s],PV.cw S G] (· = .bool true):=c1;show Qd _ _ [.agg [.int .i64 2,.sl 1 [.int .i64 (m0:Nat),.int .i64 (m1:Nat),.int .i64 (m2:Nat)],.int .i64 s],_,_] _;refine aB Qg Tryz.func42 Ev fun C hP=>?_;refine Sz0 ?_;refine Qa hP sS rfl rfl rfl ?_;refine Sz3 i0 i1 i2 ?_;refine Qa hP c2 rfl rfl rfl ?_;refine Sz0 ?_;exact cA rfl rfl rfl (Qf _) (Qf _)
 ·have uF:(cC cs args).length=4:=by simp[cC,js]
  obtain⟨L,hL⟩:∃L,cC cs args=L:=⟨_,rfl⟩
  rw[hL]at hI uF;obtain⟨x,y,z,w,rfl⟩:∃x y z w,L=[x,y,z,w]:=by
   match L,uF with
   | [x,y,z,w],_=>exact⟨x,y,z,w,rfl⟩
  have d0:cr cs args 0=x:=by unfold cr;rw[hL];rfl
  have d1:cr cs args 1=y:=by unfold cr;rw[hL];rfl
  have d2:cr cs args 2=z:=by unfold cr;rw[hL];rfl
  have d3:cr cs args 3=w:=by unfold cr;rw[hL];rfl
  have hx:CW x:=by have:=ju 0;rwa[d0]at this
  have hy:CW y:=by have:=ju 1;rwa[d1]at this
  have hz:CW z:=by have:=ju 2;rwa[d2]at this
  have hw:CW w:=by have:=ju 3;rwa[d3]at this
  have hv:ic cs vs ⟨3,args,s⟩=ks x y z w:=by simp only[ic,Int.reduceEq,reduceIte];rw[d0,d1,d2,d3]
  rw[hv];clear hv hL d0 d1 d2 d3;obtain⟨m0,m1,m2,m3,rfl,⟨b0,i0⟩,⟨b1,i1⟩,⟨b2,i2⟩,⟨b3,i3⟩⟩:=yL hI;have c2:=mQ hx.cb hy.cb hz.cb hw.cb;have sS:Qd Tryz.prog 82 [.agg [.int .i64 3,.sl 1 [.int .i64 (m0:Nat),.int .i64 (m1:Nat),.int .i64 (m2:Nat),.int .i64 (m3:Nat)],.int .i64 s],PV.cw S G] (· = .bool true):=c1;show Qd _ _ [.agg [.int .i64 3,.sl 1 [.int .i64 (m0:Nat),.int .i64 (m1:Nat),.int .i64 (m2:Nat),.int .i64 (m3:Nat)],.int .i64 s],_,_] _;refine aB Qg Tryz.func42 Ev fun C hP=>?_;refine Sz0 ?_;refine Qa hP sS rfl rfl rfl ?_;refine Sz4 i0 i1 i2 i3 ?_;refine Qa hP c2 rfl rfl rfl ?_;refine Sz0 ?_;exact cA rfl rfl rfl (Qf _) (Qf _)
theorem aiX{cs:List Cd}{vs:List Vr}{c:nd}(hC:∀c∈cs,CW c)(hr:∀a∈c.args,0<=a/\a<cs.length):HQ (ic cs vs c):=by
 have h:=GA hC hr;unfold ic;split
 ·exact(kv (h 0) (h 1) (h 0) (h 1)).h
 split
 ·exact(Ef (h 0) (h 1) (h 0) (h 2)).h
 split
 ·exact(Ef (h 0) (h 1) (h 2) (h 3)).h
 ·exact .of (MO QZ.var) (by omega) (by omega) (by omega) (by omega) (by omega)
def iH(S:List Q8):Nat->List nd
 |0=>[]
 |n+1=>iH S n++(jU (S.getD n cJ).k (S.getD n cJ).args (n:Nat)).toList
instance : Inhabited nd := ⟨I0⟩
theorem aiY(hN:oM){S:List Q8}{G:List bD}(hF:nS S G)(hS:S.length<2^40)(hG:G.length<2^40)(hb:∀s∈S,jR s)(hg:∀g∈G,l9 g):
  Qd Tryz.prog 41 [PV.cw S G] (· = .aG [.sl 3 ((iH S S.length).map PV.oC),.int .i64 0]):=by
 have hO:=KQ hN hF hS hG hb hg;have rA:=hF.l;have il:∀i,i<S.length->iH S (i+1)=iH S i++(jU (S.getD i cJ).k (S.getD i cJ).args (i:Nat)).toList:=fun i _=>rfl;have aL:∀i (hi:i<S.length),Qd Tryz.prog 81 [PV.cw S G,.int .i64 (i:Nat)] (· = .aG [PV.oC ((jU (S.getD i cJ).k (S.getD i cJ).args (i:Nat)).getD I0),.bool (jU (S.getD i cJ).k (S.getD i cJ).args (i:Nat)).isSome]):=fun i hi=>by
  have:S.getD i cJ=S[i]:=by rw[Kae,Kag hi];rfl
  rw[this];exact LW rA hi (hF.f.s i hi)
 have lA:∀i,(iH S i).length<=i:=fun i=>by
  induction i with
  |zero=>simp[iH]
  |succ n ih=>
   rw[iH,Kaw];have:(jU (S.getD n cJ).k (S.getD n cJ).args (n:Nat)).toList.length<=1:=by cases jU (S.getD n cJ).k (S.getD n cJ).args (n:Nat)<;>simp
   omega
 generalize iH S=H at *
 generalize(bC S S.length).1=C0 at *
 generalize(bC S S.length).2.1=V0 at *
 refine mP Qg Tryz.func41 rfl aiN Nz fun C hP=>?_;simp only[Rx];refine du ?_;refine Sz0 ?_;refine Qa hP hO rfl rfl rfl ?_;refine Sz0 ?_;refine oL 6 900 3 100 (by omega) Tz0 ?_;refine Qn okB [(6,9),(18,35)] [8,34,35,900] (fun q J hp=>∃i,q=S.length-i/\i<=S.length/\J 6= .ms 900 (H i).length/\J 7= .int .i64 (i:Nat)/\hp 1=some ⟨2,25,[PV.cw S G],false⟩/\hp 900=some ⟨3,100,(H i).map PV.oC,false⟩) S.length ?_ ?_
 ·refine⟨0,rfl,by omega,?_⟩;have h0:H 0=[]:=Kar.1 (by have:=lA 0;omega);refine Sz1 h0 ?_;rfl
 rintro _ J h ⟨i,rfl,hi,j6,j7,b1,b9⟩;refine Sz2 j7 b1 ?_;refine Qb (fun hc=>?_) (fun hc=>?_)
 ·have az:i<S.length:=by omega
  have c1:=aL i az;have hs:=il i az;have l2:=lA i;generalize jU (S.getD i cJ).k (S.getD i cJ).args (i:Nat)=o at *
  cases o with
  |none=>simp only[Option.getD_none,Option.isSome_none,Option.toList_none,Kas]at c1 hs;refine Sz2 j7 b1 ?_;refine Qa hP c1 rfl rfl rfl ?_;refine Sz1 j7 ?_;refine Qi (S.length-(i+1)) (by omega) ⟨i+1,rfl,by omega,?_⟩;exact Tz4 j6 hs b1 b9
  |some c=>simp only[Kbd,Option.isSome_some,Option.toList_some]at c1 hs;refine Sz2 j7 b1 ?_;refine Qa hP c1 rfl rfl rfl ?_;refine Sz2 j6 j7 ?_;refine bT (Wk.refl _ _) ?_;refine Sz1 b9 ?_;rw[Qz (f:=PV.oC) (y:=c) (xs:=H i) (ty':=100) (fz:=false) (Tz1 b9) bf (by omega) rfl (by omega) (by omega)];refine Sz1 j7 ?_;refine Qi (S.length-(i+1)) (by omega) ⟨i+1,rfl,by omega,?_⟩;rw[hs,Kaw,KbW];exact Tz1 b1
 obtain rfl:i=S.length:=by omega
 refine Sz2 j6 b9 ?_;refine kS (eA ?_);refine Sz0 ?_;rw[DS _ 900 _ 3 100 _ false b9 (by decide),Kai (by simp)];exact gZ rfl rfl rfl (Qf _) (Qf _)
theorem WN{S:List Q8}{G:List bD}{f:bD}(hF:nS S G)(hb:∀s∈S,jR s)(hf:l9 f)(hm:f∈G):Nl (eu S) f:=by
 have hl:(eu S).length=S.length:=su S S.length;refine⟨hf,by have:=hF.l;omega,fun c hc=>(Es hF hb c hc).cb,fun h0 I5 c hc=>?_,fun h0 h9=>?_⟩
 ·rw[hl]at h0;obtain⟨_,_,hr,_⟩:=Eu h0;obtain⟨a,ha,rfl⟩:=KaF.1 hc;have uL:=hr a ha;obtain⟨w,w1,_,hw3,hw⟩:=As hF hb S.length (Kad _) a.toNat (by omega);have ht:=hF.t.g f hm I5 a ha;rw[hw3]at ht;exact hw.mono (by omega) (by omega) (by omega)
 ·rw[hl]at h0;obtain⟨_,_,_,hq⟩:=Eu h0;rw[if_pos h9]at hq;have hs:=hF.g f hm;exact⟨ajn hf.r.la hf.r.ld hq,by have:=(show Raw 2 f.n f.a f.d from⟨hf.r.la,hf.r.ld,hs.1,hs.2,by omega⟩).rs;omega⟩
def nV(S:List Q8):List (List Tm):=(iH S S.length).map (ic (eu S) (gL S))
def l7(S:List Q8)(G:List bD):List (List (List Tm)):=G.map fun g=>(iC (eu S) g).1
abbrev PV.iv(S:List Q8)(G:List bD)(C:List Cd)(V:List Vr)(H P:List (List Tm))(Q:List (List (List Tm))):PV:=
 .agg [.sl 6 (S.map PV.oD),.sl 5 (G.map PV.nJ),.sl 2 (C.map PV.aC),.sl 3 (V.map PV.fvar),PV.eI H,PV.eI P,.sl 1 (Q.map PV.eI)]
abbrev sQ:PV:=PV.iv [] [] [] [] [] [] []
abbrev vH(S:List Q8)(G:List bD):PV:=PV.iv S G (eu S) (gL S) (iD S S.length) (nV S) (l7 S G)
theorem DO:PV.le (.agg [.aa,.aa,.aa,.aa,.aa,.aa,.aa]) sQ:=⟨trivial,trivial,trivial,trivial,trivial,trivial,trivial,trivial⟩
def nb(S:List Q8)(G:List bD)(C:List Cd)(V:List Vr)(H:List (List Tm))(p q:PV):List PV:=
 [.sl 6 (S.map PV.oD),.sl 5 (G.map PV.nJ),.sl 2 (C.map PV.aC),.sl 3 (V.map PV.fvar),PV.eI H,p,q]
theorem DN(S:List Q8):∀i,(iH S i).length<=i
 |0=>by simp[iH]
 |n+1=>by
  have ih:=DN S n;rw[iH,Kaw];have:(jU (S.getD n cJ).k (S.getD n cJ).args (n:Nat)).toList.length<=1:=by cases jU (S.getD n cJ).k (S.getD n cJ).args (n:Nat)<;>simp
  omega
theorem H8{S:List Q8}{c:nd}:∀ {n:Nat},n<=S.length->c∈iH S n->∃(i:Nat)(h:i<S.length),jU S[i].k S[i].args (i:Nat)=some c
 |0,_,h=>by cases h
 | n+1,hn,h=>by
  rw[iH,KaM]at h;rcases h with h|h
  ·exact H8 (by omega) h
  ·have e:S.getD n cJ=S[n]:=by rw[Kae,Kag (show n<S.length by omega)];rfl
   rw[e]at h;exact⟨n,by omega,by simpa using h⟩
theorem acQ{S:List Q8}{G:List bD}(hF:nS S G)(hb:∀s∈S,jR s)(c:nd)(hm:c∈iH S S.length):Qd Tryz.prog 42 [PV.oC c,PV.cw S G,PV.frame (eu S) (gL S)] (· = .aG [PV.ao (ic (eu S) (gL S) c),.int .i64 0]):=by obtain⟨i,hi,hc⟩:=H8 (Kad _) hm;have rA:=hF.l;exact acP rA hi (hF.f.s i hi) hc (su S S.length) (Es hF hb) (by have:=(Ew S S.length).1;show(bC S S.length).2.1.length<=64;omega)
set_option maxHeartbeats 1000000 in
theorem LX(hN:oM){S:List Q8}{G:List bD}(hF:nS S G)(hS:S.length<2^40)(hG:G.length<2^40)(hb:∀s∈S,jR s)(hg:∀g∈G,l9 g):
  Qd Tryz.prog 16 [PV.cw S G] (fun r=>∃(M:PV)(e:Int),r= .aG [M,.int .i64 e]/\((e=0/\M=vH S G)∨(e≠0/\M=sQ))):=by
 have hR:=HN hN hS hG hb hg;have hH:=aiW hN hF hS hG hb hg;have hO:=KQ hN hF hS hG hb hg;have hD:=aiY hN hF hS hG hb hg;have hG3:=hF.gl;refine mP Qg Tryz.func16 rfl aiO Nz fun C hP=>?_;simp only[Rq];refine du ?_;refine Sz0 ?_;refine fM hP hR rfl rfl rfl ?_;rintro _ ⟨e,rfl,yv⟩;obtain rfl:e=0:=yv.2 hF.o;refine Sz0 ?_;refine fM hP hH rfl rfl rfl ?_;rintro _ ⟨H,e,rfl,I'⟩;by_cases he:¬e=0
 ·have d:decide (¬e=0)=true:=decide_eq_true he;refine Sz1 d ?_;refine kS (eA ?_);refine Sz0 ?_;exact gZ ⟨sQ,e,rfl,.inr ⟨he,rfl⟩⟩ rfl rfl DO (Qf _)
 obtain rfl:e=0:=by omega
 obtain rfl:=I' rfl;refine Sz0 ?_;refine Qa hP hO rfl rfl rfl ?_;refine Sz0 ?_;generalize RX:iD S S.length=H0 at *
 have Jw:(iH S S.length).length<=S.length:=DN S S.length;have Tc:∀k (h:k<(iH S S.length).length),Qd Tryz.prog 42 [PV.oC (iH S S.length)[k],PV.cw S G,PV.frame (eu S) (gL S)] (· = .aG [PV.ao (ic (eu S) (gL S) (iH S S.length)[k]),.int .i64 0]):=fun k h=>acQ hF hb _ (Kah h);have jX:∀g∈G,Qd Tryz.prog 43 [PV.nJ g,PV.frame (eu S) (gL S)] (· = .aG [PV.eI (iC (eu S) g).1,.int .i64 (iC (eu S) g).2]):=fun g hm=>ZZ (WN hF hb (hg g hm) hm);have Sp:nV S=(iH S S.length).map (ic (eu S) (gL S)):=rfl;have SB:l7 S G=G.map fun g=>(iC (eu S) g).1:=rfl;unfold vH;rw[RX,Sp,SB];clear Sp SB RX;show vc _ _ _ _ _;unfold eu gL at *
 generalize iH S S.length=cd at *
 generalize(bC S S.length).1=C0 at *
 generalize(bC S S.length).2.1=V0 at *
 have hHP:=Kad 0;refine bT (pN 9 2000020 bf (by omega) rfl (by omega)) ?_;refine Sz0 ?_;refine bT (pK (γ:=2000020) (e:=7) (ty:=34) (xs:=[.agg (nb S G C0 V0 H0 .aa .aa)]) (fz:=false) bf (by simp) (by omega) (fun x hx=>by rw[Kay.1 hx];rfl)) ?_;refine Sz0 ?_;refine bT (LO (γ:=2000020) (e:=7) (ty:=34) (cs:=nb S G C0 V0 H0 .aa .aa) (cs':=nb S G C0 V0 H0 (.au 2000000 0 0) .aa) 2000000 1 43 bf bf (by omega) (by omega) rfl (by simp[nb])) ?_;refine Sz0 ?_;refine bT (L5 (γ:=2000020) (e:=7) (ty:=34) (cs:=nb S G C0 V0 H0 (.au 2000000 0 0) .aa) (cs':=nb S G C0 V0 H0 (.au 2000000 0 0) (.au 2000001 0 0)) 2000001 1 31 bf bf (by omega) (by omega) rfl (by simp[nb])) ?_;refine Sz0 ?_;refine Qa hP hD rfl rfl rfl ?_;refine Sz0 ?_;refine DK eH [(3,3),(9,9),(12,14),(47,72),(2000020,2000020)] [70,71] (fun q J hp=>∃k,q=cd.length-k/\k<=cd.length/\J 9= .np 2000020 0 0/\J 12= .int .i64 (k:Nat)/\J 2000020= .aF 2000020 7 34 [.aK (nb S G C0 V0 H0 (.au 2000000 0 k) (.au 2000001 0 0))]/\hp 2000020=some ⟨7,34,[],false⟩/\
   hp 2000000=some ⟨1,43,((cd.take k).map (ic C0 V0)).map PV.ao,false⟩/\hp 2000001=some ⟨1,31,[],false⟩/\hp 1=some ⟨2,25,[PV.cw S G],false⟩/\hp 2=some ⟨7,34,[.agg [.aa,.aa,.aa,.aa,.aa,.aa,.aa]],false⟩/\hp 7=some ⟨2,30,[PV.frame C0 V0],false⟩) cd.length ?_ ?_
 ·refine⟨0,rfl,by omega,?_⟩;refine Sz0 ?_;rfl
 rintro _ J h ⟨k,rfl,hk,j9,BK,g5,k5,k0,k1,kf,kr,kx⟩;unfold nb at g5;refine Sz1 BK ?_;refine Qb (fun hc=>?_) (fun hc=>?_)
 ·have cP:k<cd.length:=by omega
  have cp:=Tc k cP;have bN:cd.take (k+1)=cd.take k++[cd[k]]:=Kam cP;have pq:k=((cd.take k).map (ic C0 V0)).length:=by rw[Ka0,Kax];omega
  generalize hx:cd[k]=c at *
  refine Sz4 BK kf kx hx ?_;refine Qa hP cp rfl rfl rfl ?_;obtain⟨p,aw⟩:∃p,ic C0 V0 c=p:=⟨_,rfl⟩
  have uI:(cd.take (k+1)).map (ic C0 V0)=(cd.take k).map (ic C0 V0)++[p]:=by rw[bN,KbW,List.map_singleton,aw]
  rw[aw];refine Sz1 BK ?_;refine Qb (fun h4=>?_) (fun h4=>?_)
  ·refine Sz1 kr ?_;refine kS (eA ?_);refine Sz0 ?_;exact gZ ⟨sQ,4,rfl,.inr ⟨by decide,rfl⟩⟩ rfl rfl DO (Qf _)
  refine Sz3 j9 g5 k5 ?_;rw[CM (f:=PV.ao) (y:=p) (xs:=(cd.take k).map (ic C0 V0)) (ty':=43) (fz:=false) (lf k0) bf (by omega) pq (by omega) (by omega) (by omega)];refine Sz4 j9 g5 k5 BK ?_;refine zu (cd.length-(k+1)) (by omega) ⟨k+1,rfl,by omega,?_⟩;rw[uI,KbW];unfold nb;exact Tz7 j9 g5 k5 k1 kf kr kx
 obtain rfl:k=cd.length:=by omega
 rw[KaE]at k0;clear Tc;generalize hPS:cd.map (ic C0 V0)=PS at *
 have ur:PS.length=cd.length:=by rw[<-hPS,Ka0]
 refine Sz0 ?_;refine DK eH [(3,3),(9,9),(15,17),(73,99),(2000020,2000020)] [97,98] (fun q J hp=>∃i,q=G.length-i/\i<=G.length/\J 9= .np 2000020 0 0/\J 15= .int .i64 (i:Nat)/\J 2000020= .aF 2000020 7 34 [.aK (nb S G C0 V0 H0 (.au 2000000 0 cd.length) (.au 2000001 0 i))]/\hp 2000020=some ⟨7,34,[],false⟩/\
   hp 2000000=some ⟨1,43,PS.map PV.ao,false⟩/\hp 2000001=some ⟨1,31,((G.take i).map fun g=>(iC C0 g).1).map PV.eI,false⟩/\hp 1=some ⟨2,25,[PV.cw S G],false⟩/\hp 2=some ⟨7,34,[.agg [.aa,.aa,.aa,.aa,.aa,.aa,.aa]],false⟩/\hp 7=some ⟨2,30,[PV.frame C0 V0],false⟩) G.length ?_ ?_
 ·refine⟨0,rfl,by omega,?_⟩;unfold nb;refine Sz8 j9 g5 k5 k0 k1 kf kr kx ?_;rfl
 rintro _ J2 h2 ⟨i,rfl,hi,i9,i15,AO,Kv,TL,Ku,Kw,Kx,TM⟩;unfold nb at AO;clear g5 k5 k0 k1 kf kr kx j9 BK hc;refine Sz2 i15 Kw ?_;refine Qb (fun hc=>?_) (fun hc=>?_)
 ·have az:i<G.length:=by omega
  have cp:=jX _ (Kah az);have bN:G.take (i+1)=G.take i++[G[i]]:=Kam az;have pq:i=((G.take i).map fun g=>(iC C0 g).1).length:=by rw[Ka0,Kax];omega
  generalize hx:G[i]=g at *
  refine Sz4 i15 Kw TM hx ?_;refine Qa hP cp rfl rfl rfl ?_;obtain⟨p,aw⟩:∃p,(iC C0 g).1=p:=⟨_,rfl⟩
  obtain⟨z,BH⟩:∃z,(iC C0 g).2=z:=⟨_,rfl⟩
  have uI:((G.take (i+1)).map fun g=>(iC C0 g).1)=((G.take i).map fun g=>(iC C0 g).1)++[p]:=by rw[bN,KbW,List.map_singleton,aw]
  rw[aw,BH];refine Sz1 i15 ?_;by_cases hz:¬z=0
  ·have d:decide (¬z=0)=true:=decide_eq_true hz;refine Sz2 d Kx ?_;refine kS (eA ?_);refine Sz0 ?_;exact gZ ⟨sQ,z,rfl,.inr ⟨hz,rfl⟩⟩ rfl rfl DO (Qf _)
  have d:decide (¬z=0)=false:=decide_eq_false hz;refine Sz4 d i9 AO Kv ?_;rw[CM (f:=PV.eI) (y:=p) (xs:=(G.take i).map fun g=>(iC C0 g).1) (ty':=31) (fz:=false) (lf Ku) bf (by omega) pq (by omega) (by omega) (by omega)];refine Sz4 i9 AO Kv i15 ?_;refine zu (G.length-(i+1)) (by omega) ⟨i+1,rfl,by omega,?_⟩;rw[uI,KbW];unfold nb;exact Tz7 i9 AO Kv TL Kw Kx TM
 obtain rfl:i=G.length:=by omega
 rw[KaE]at Ku;refine Sz2 i9 AO ?_;refine Nm 100 1 (p:=.aK [.sl 6 (S.map PV.oD),.sl 5 (G.map PV.nJ),.sl 2 (C0.map PV.aC),.sl 3 (V0.map PV.fvar),PV.eI H0,.ms 2000000 cd.length,.ms 2000001 G.length]) (D:=PV.iv S G C0 V0 H0 PS (G.map fun g=>(iC C0 g).1)) bf ?_ (fun l hl=>?_)
 ·refine⟨fun c hc=>?_,?_,?_⟩
  ·simp only[KaC,KbE,or_false]at hc;rcases hc with rfl|rfl|rfl|rfl|rfl|rfl|rfl
   all_goals first|exact trivial|rfl
  ·simp[Cj,ob,TL,Ku,PV.iv];exact⟨Kai (by simp[ur]),Kai (by simp)⟩
  ·simp[y5,rT]
 have z2:FW.Qx h2 l 2=some ⟨7,34,[.agg [.aa,.aa,.aa,.aa,.aa,.aa,.aa]],false⟩:=by rw[Px hl (by omega),Kx]
 refine Sz1 z2 ?_;refine kS (eA ?_);refine Sz0 ?_;exact gZ ⟨_,0,rfl,.inl ⟨rfl,rfl⟩⟩ rfl rfl (Qf _) (Qf _)
end Go.Proofs.YtccppnepkfbpkaaGreat
namespace Go.FW
open Go
structure ib(q:List Tm):Prop where
 n:aR q
 b:PB 3 4 q
 m:ML 4 q
 l:q.length<=6
structure Cf(j:Nat)(p:List Tm):Prop where
 d:∃D N:Nat,0<D/\0<N/\nl D<=31+120000*j/\nl N<=13+75000*j/\Dn D p/\n1 p<=(N:Rat)
 w:∀t∈p,iN t.2<=6560
 pos:Pos p
 ml:ML 4 p
 n:aR p
theorem ib.sz{q:List Tm}(h:ib q):SZ 19 11 4 q:=(SZ.of h.b h.l).mono (by omega) (by omega) (by omega)
theorem ib.yT{q:List Tm}(h:ib q):pY q:=⟨h.sz.mono (by omega) (by omega) (by omega),by have:=h.l;omega,h.n⟩
theorem Cf.mono{i j:Nat}{p:List Tm}(h:Cf i p)(Fm:i<=j):Cf j p:=by obtain⟨⟨D,N,h1,h2,h3,h4,h5,h6⟩,h7,h8,h9,bp⟩:=h;exact⟨⟨D,N,h1,h2,by omega,by omega,h5,h6⟩,h7,h8,h9,bp⟩
structure qT(hp:HP)(p:PV)(cs:List PV)(rs:List Nat):Prop where
 d:(Qu hp p).aD=true
 c:(Qu hp p).cells=cs
 r:p.refs=rs
 n:p.nF=false
theorem qT.flat{hp:HP}{p:PV}(h:p.flat=true):qT hp p p.cells []:=by obtain⟨s1,s2,s3⟩:=qH (hp:=hp) h;exact⟨by rw[s1];exact s3,by rw[s1],s2,Pe h⟩
theorem ajP{fr:Fr}{hp:HP}{K:Qh}{z:List PV}{d o1 o2 o3 o4 n1 n2 n3 n4:Nat}{p1 p2 p3 p4:PV}{c1 c2 c3 c4:List PV}{r1 r2 r3 r4:List Nat}(h1:qT hp p1 c1 r1)(h2:qT hp p2 c2 r2)(h3:qT hp p3 c3 r3)(h4:qT hp p4 c4 r4):
  kC z [(o1,n1,p1),(o2,n2,p2),(o3,n3,p3),(o4,n4,p4)] d fr hp K=((c1.length=n1/\o1+n1<=z.length)/\(c2.length=n2/\o2+n2<=z.length)/\(c3.length=n3/\o3+n3<=z.length)/\(c4.length=n4/\o4+n4<=z.length)/\K (ae fr d (.agg (gE z [(o1,c1),(o2,c2),(o3,c3),(o4,c4)]))) (Qx hp (r1++(r2++(r3++r4))))):=by
 unfold kC Aw Gh;rw[if_neg (by simp[h1.n,h2.n,h3.n,h4.n])];apply propext;simp only[KaC,KbE,or_false,forall_eq_or_imp,forall_eq,h1.d,h2.d,h3.d,h4.d,h1.c,h2.c,h3.c,h4.c,h1.r,h2.r,h3.r,h4.r,true_and,Kbe,Kby,KaR,KaV,Kas,and_assoc]
theorem akt{fr:Fr}{hp:HP}{K:Qh}{e ty d:Nat}(h0:0<e):kE e ty [] d fr hp K=K (ae (bE d fr) d (.ms d 0)) (Ql hp d ⟨e,ty,[],false⟩):=by
 have e1:Qx hp []=hp:=by funext β;simp[Qx]
 unfold kE AK;rw[if_neg (by simp[mX])];simp only[KaV,Kby,Kbo,e1];exact propext ⟨fun h=>h.2.2,fun h=>⟨h0,fun p hp=>(by cases hp),h⟩⟩
theorem afU{fr:Fr}{hp:HP}{K:Qh}{ty i d:Nat}{fz:Bool}{l:List (List Tm)}(h:i<l.length):iu (some ⟨1,ty,l.map PV.ao,fz⟩) 1 false i 0 d fr hp K=K (ae fr d (PV.ao (l[i]'h))) hp:=by
 have hi:i<(l.map PV.ao).length:=by simpa using h
 simp[iu,h,dQ,PV.cells]
end Go.FW
