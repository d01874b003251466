/- Part 18 of the proof of InequalityPolys: ID0, ID2, ID3, ID4, ID1, ID5, A2, A3, A4, A5, A6, B1, A7, B2, B3, B5, FwVG. Own lemmas; no conditions. -/
import Derived.Test.YtikalonaompbdaaGreatInequalityPolysPart17
set_option maxHeartbeats 1000000
set_option linter.all false
set_option maxRecDepth 100000
namespace Go.Proofs.YtikalonaompbdaaGreat
open Go.Proofs.Tryz
open Go Go.FW
def atf:ax:=⟨14,[.cell 6 6 true],Zr (Zo (.box 3 6 54 (.t 0))<|jA 4 54 1<|dH 5 3 49 2<|Zo (.alloc 6 6 54 (.agg [.bool false,.aa,.aa,.bool false,.aa,.aa])) .nil)<|Zr (Zh 7 6 3<|Zh 8 6 3<|Zh 9 6 4<|Zh 11 3 5<|Ys 10 291 8 9<|Ys 12 292 10 11<|uo 13 290 7 12 6 6) .ret⟩
def aon:Qc Tryz.prog f193=some atf:=by kernel_rfl
def auf:ax:=⟨16,[.cell 4 6 true],Zr (Zo (.box 2 6 54 (.t 0))<|Zo (.box 3 6 282 (.t 1))<|Zo (.alloc 4 6 54 (.agg [.bool false,.aa,.aa,.bool false,.aa,.aa])) .nil)<|Zr (cM 5 0 2 3<|Zo (.qW 7 2 3 (.t 3) (.c (Zz 0)))<|Zh 8 3 7<|cM 10 3 2 3<|Zo (.qW 12 2 3 (.t 3) (.c (Zz 1)))<|Zh 13 3 12<|Ys 9 64 6 8<|Ys 14 64 11 13<|mZ 15 9 14<|Zs 6 4 15 .nil) .ret⟩
def aoo:Qc Tryz.prog f290=some auf:=by kernel_rfl
def auh:ax:=⟨14,[.cell 4 6 true],Zr (Zo (.box 2 6 282 (.t 0))<|my 3 49 1<|Zo (.alloc 4 6 282 (.agg [.bool false,.aa,.aa,.bool false,.aa,.aa])) .nil)<|Zr (Zh 5 3 3<|Zo (.qW 6 2 3 (.t 2) (.c (Zz 0)))<|Zh 7 3 6<|Zh 9 3 3<|Zo (.qW 10 2 3 (.t 2) (.c (Zz 1)))<|Zh 11 3 10<|Ys 8 67 5 7<|Ys 12 67 9 11<|mZ 13 8 12<|Zs 6 4 13 .nil) .ret⟩
def aoZ:Qc Tryz.prog f292=some auh:=by kernel_rfl
def ate:ax:=⟨8,[.t 2],Zr (YI 2)<| .seq (Zr (Zm 3 0<|Zo (.zY 4 false (.t 3)) .nil)<| .cond (.t 4) (Zr (YI 2) .ret) .skip)<|Zr (Zo (.bs 5 1 159 [])<|Zm 6 0<|Zo (.app 7 1 2 159 (.t 5) (.t 6))<|Zm 2 7 .nil) .ret⟩
def ao0:Qc Tryz.prog f191=some ate:=by kernel_rfl
def asb:ax:=⟨8,[.t 2],Zr (YI 2)<| .seq (Zr (Zm 3 0<|Zo (.zY 4 false (.t 3)) .nil)<| .cond (.t 4) (Zr (YI 2) .ret) .skip)<|Zr (Zo (.bs 5 1 4 [])<|Zm 6 0<|Zo (.app 7 1 1 4 (.t 5) (.t 6))<|Zm 2 7 .nil) .ret⟩
def ao1:Qc Tryz.prog f106=some asb:=by kernel_rfl
def asa:ax:=⟨28,[.t 2],Zr (YI 2)<|Zr (YI 3)<| .seq (Zr (dS 6 0)<| .block 0<| .loop<|Zr (Yu 9 8 7)<| .seq (.cond (.t 9) .skip (.exit 0))<| .seq (.block 1<|Zr (YG 10 3 6 8<|Ye 5<|Zs 3 5 11 .nil)<|Zr (Zf 12 0 5<|Ya 13 1 12<|Ya 16 2 5<|nQ 15 191 14<|Zf 19 0 5<|Zf 20 1 19<|nQ 18 191 17<|Zs 1 20 15<|qw 21 2 5 1 18)<| .rg (Zm 22 3<|Zh 23 3 5<|YA 24 3 49 23 56 22<|Yc 3 25))<| .rg (YC 26 8 8))<|Zr (MZ 27 3 2) .ret⟩
def ao2:Qc Tryz.prog f105=some asa:=by kernel_rfl
def atb:ax:=⟨13,[.t 2],Zr (Yl 2)<|Zr (Zm 3 0<|Zk 4 .eql 3 12<|YE 5 4 0<|Zg 5 false (.bin 7 .eql false (.t 6) (.c (Zz 13)))<|Yk 8 5 7<|YE 9 8 0<|Zg 9 false (.bin 11 .eql false (.t 10) (.c (Zz 14)))<|Yk 12 9 11<|Zm 2 12 .nil) .ret⟩
def ao3:Qc Tryz.prog f189=some atb:=by kernel_rfl
def ar9:ax:=⟨33,[.t 2,.t 3,.t 4],Zr (uu 1 25 0<|Zc 2 0<|Zc 3 0<|Yf 4 0)<|Zr (iB 9 2 1 29<|Zm 8 10<|Yd 11 8<|Yr 5 76<|Zs 2 5 11<|Zm 4 12 .nil)<| .seq (Zr (YQ 13 4)<| .cond (.t 14) (Zr (Zm 15 4<|Zc 2 0<|Zc 3 0<|Zm 4 15 .nil) .ret) .skip)<| .seq (Zr (YT 16 0 1<|Yf 19 0)<| .block 0<| .loop<|Zr (Yu 20 19 18)<| .seq (.cond (.t 20) .skip (.exit 0))<| .seq (.block 1<|Zr (ew 21 17 19 7<|Zs 6 7 22 .nil)<|Zr (Ya 23 0 7<|Yn 25 189 24 .nil)<| .cond (.t 25) (.rg (fO 26 3)) .skip)<| .rg (YH 28 19 19))<|Zr (iB 29 2 5 190<|Zn 31 30<|Zm 32 3<|Yh 2 31 32<|Yf 4 0) .ret⟩
def ao4:Qc Tryz.prog f104=some ar9:=by kernel_rfl
def Xi:ax:=⟨19,[.cell 2 3 true],Zr (fC 2)<|Zr (Zm 4 0<|qv 5 4<|Ya 6 3 5<|Zo (.idx 8 3 (.t 7) (.c (Zz 0)))<|Zh 9 3 8<|Zo (.alloc 3 3 49 (.agg [.bool false,.aa,.aa]))<|Zs 3 3 9 .nil)<|Zr (Yh 10 0 0<|qv 12 11<|Ya 13 3 12<|Zo (.sl 15 3 (.t 14) (some (.c (Zz 1))) none none)<|qv 16 10<|qw 17 3 16 1 15)<|Zr (Zh 18 3 3<|Zs 3 2 18 .nil) .ret⟩
def ao5:Qc Tryz.prog f196=some Xi:=by kernel_rfl
def Ii:ax:=⟨31,[.cell 2 6 true],Zr (Zo (.alloc 2 6 54 (.agg [.bool false,.aa,.aa,.bool false,.aa,.aa])) .nil)<|Zr (Zq 4 false 35 [.c (Zz 0)]<|Zq 5 false 35 [.c (Zz 0)]<|mZ 6 4 5<|Zo (.alloc 3 6 54 (.agg [.bool false,.aa,.aa,.bool false,.aa,.aa]))<|Zs 6 3 6 .nil)<| .seq (Zr (Zm 7 0<|qv 8 7<|Ya 9 5 8<|Zk 11 .gtr 10 0 .nil)<| .cond (.t 11) (.rg (YJ 12 0 196<|qw 14 0 3 3 13)) .skip)<| .seq (Zr (Zm 15 0<|qv 16 15<|Ya 17 5 16<|Zk 19 .gtr 18 1 .nil)<| .cond (.t 19) (.rg (YJ 20 0 196<|qw 22 3 3 3 21)) .skip)<|Zr (Zm 23 0<|qv 24 23<|Ya 25 5 24<|Zk 27 .add 26 1<|qv 28 23<|qw 29 5 28 1 27)<|Zr (Zh 30 6 3<|Zs 6 2 30 .nil) .ret⟩
def Kw:Qc Tryz.prog f192=some Ii:=by kernel_rfl
def Xa:ax:=⟨213,[.cell 4 6 true,.t 5],Zr (Zo (.box 3 6 68 (.t 1))<|Zo (.alloc 4 6 54 (.agg [.bool false,.aa,.aa,.bool false,.aa,.aa]))<|Yf 5 0)<|Zr (YI 6)<| .seq (Zr (YT 9 2 3<|Yf 12 0)<| .block 0<| .loop<|Zr (Yu 13 12 11)<| .seq (.cond (.t 13) .skip (.exit 0))<| .seq (.block 1<|Zr (Yw 14 10 12<|Zm 8 15 .nil)<| .rg (Yh 16 6 0<|qv 18 17<|Zf 19 0 18<|eF 20 2 19 8<|YG 23 6 21 22<|YA 25 6 54 24 112 16<|Yc 6 26))<| .rg (YC 27 12 12))<| .seq (Zr (Ya 28 0 3 .nil)<| .block 2<|Zr (Yq 31 29 1 30)<| .cond (.t 30) (Zr (YJ 32 0 192<|Zs 6 4 33<|Yf 5 0) .ret) (Zr (Yq 35 29 2 34)<| .cond (.t 34) (Zr (Yo 36 6 6 0<|Zh 38 6 37<|Yo 39 6 6 1<|Zh 41 6 40<|cM 42 3 3 3<|mY 44 193 38 41 43<|Zs 6 4 44<|Yf 5 0) .ret) (Zr (Yq 46 29 3 45)<| .cond (.t 45) (Zr (YU 47<|mY 56 194 49 52 55<|Zs 6 4 56<|Yf 5 0) .ret) (Zr (Yq 58 29 4 57)<| .cond (.t 57) (Zr (YU 59<|mY 68 195 61 64 67<|Zs 6 4 68<|Yf 5 0) .ret) (Zr (Yq 70 29 5 69)<| .cond (.t 69) (Zr (Yo 71 6 6 0<|Yo 74 6 6 1<|Zm 77 0<| .br (Zh 73 6 72<| .br (Zh 76 6 75<|Yn 78 196 77<|fe 79 193 73 76 78) (Yn 78 196 77<|Zh 76 6 75<|fe 79 193 73 76 78)) (.br (Zh 76 6 75<| .br (Zh 73 6 72<|Yn 78 196 77<|fe 79 193 73 76 78) (Yn 78 196 77<|Zh 73 6 72<|fe 79 193 73 76 78)) (Yn 78 196 77<| .br (Zh 73 6 72<|Zh 76 6 75<|fe 79 193 73 76 78) (Zh 76 6 75<|Zh 73 6 72<|fe 79 193 73 76 78)))) .ret) (Zr (Yq 81 29 6 80)<| .cond (.t 80) (Zr (Yo 82 6 6 0<|Yo 85 6 6 1<|Zm 88 0<| .br (Zh 84 6 83<| .br (Zh 87 6 86<|Yn 89 196 88<|fe 90 197 84 87 89) (Yn 89 196 88<|Zh 87 6 86<|fe 90 197 84 87 89)) (.br (Zh 87 6 86<| .br (Zh 84 6 83<|Yn 89 196 88<|fe 90 197 84 87 89) (Yn 89 196 88<|Zh 84 6 83<|fe 90 197 84 87 89)) (Yn 89 196 88<| .br (Zh 84 6 83<|Zh 87 6 86<|fe 90 197 84 87 89) (Zh 87 6 86<|Zh 84 6 83<|fe 90 197 84 87 89)))) .ret) (Zr (Yq 92 29 7 91)<| .cond (.t 91) (Zr (YU 93<|mY 102 198 95 98 101<|kA 103 102 6 4 5) .ret) (Zr (Yq 106 29 8 105)<| .cond (.t 105) (Zr (YU 107<|mY 116 199 109 112 115<|kA 117 116 6 4 5) .ret) (Zr (Yq 120 29 9 119)<| .cond (.t 119) (Zr (YU 121<|Yo 130 6 6 3<|Zh 132 6 131<|Zq 133 false 200 [.t 123,.t 126,.t 129,.t 132]<|kA 134 133 6 4 5) .ret) (Zr (Yq 137 29 10 136)<| .cond (.t 136) (Zr (YU 138<|mY 147 201 140 143 146<|kA 148 147 6 4 5) .ret) (Zr (Yq 151 29 11 150)<| .cond (.t 150) (Zr (YU 152<|mY 161 202 154 157 160<|kA 162 161 6 4 5) .ret) (Zr (Yq 165 29 12 164)<| .cond (.t 164) (Zr (YU 166<|Yo 175 6 6 3<|sV 177 6 176 0<|nQ 179 204 178<|Zq 180 true 203 [.t 168,.t 171,.t 174,.t 177,.t 179]<|kA 181 180 6 4 5) .ret) (Zr (Yq 184 29 13 183)<| .cond (.t 183) (Zr (YU 185<|Yo 194 6 6 3<|sV 196 6 195 0<|Zq 198 true 204 [.t 197]<|Zq 199 true 205 [.t 187,.t 190,.t 193,.t 196,.t 198]<|kA 200 199 6 4 5) .ret) .skip)))))))))))))<|Zr (Yo 202 6 6 0<|Zh 204 6 203<|Yo 205 6 6 1<|sV 207 6 206 0<|nQ 209 204 208<|Zq 210 true 206 [.t 204,.t 207,.t 209]<|kA 211 210 6 4 5) .ret⟩
def ao6:Qc Tryz.prog f107=some Xa:=by kernel_rfl
def Xz:ax:=⟨91,[.cell 6 3 true,.t 7,.t 8],Zr (dH 3 2 25 0<|Zo (.alloc 6 3 39 (.agg [.aa,.aa,.aa]))<|Zc 7 0<|Yf 8 0)<|Zr (iB 18 2 3 104<|Zm 17 19<|Yd 20 17<|Zo (.ext 22 (.t 17) 2)<|Zm 9 20<|Zm 10 21<|Yc 8 22)<| .seq (Zr (YQ 23 8)<| .cond (.t 24) (Zr (Zo (.cD 25 [.aa,.aa,.aa] [])<|Zm 26 8<|Zs 3 6 25<|Zc 7 0<|Yc 8 26) .ret) .skip)<| .seq (Zr (Yv 27 1<|Zm 29 9<|Zb 30 .neq 28 29<|YE 31 30 2<|Zg 31 false (.len 33 (.t 32))<|Zg 31 false (.mv 34 (.t 10))<|Zg 31 false (.bin 35 .neq false (.t 33) (.t 34))<|xy 36 31 35)<| .cond (.t 36) (Zr (Zo (.cD 37 [.aa,.aa,.aa] [])<|Zs 3 6 37<|Zc 7 0<|Yf 8 16) .ret) .skip)<|Zr (YJ 38 1 105<|Yc 11 39)<|Zr (Yh 40 11 2<|Zo (.cD 42 [.aa,.aa,.aa,.aa,.aa,Zz 0] [(3,1,.t 40),(4,1,.t 41)])<|dH 43 6 153 42<| .wk<| .wk<| .wk<|Yc 12 43)<|Zr (Yh 44 12 12<|Yh 46 11 2<|Yn 48 106 47<|qv 49 44<|Zf 50 0 49<|Zf 51 0 50<|Zs 1 51 46<|qv 52 45<|Zf 53 0 52<|qw 54 1 53 1 48)<| .seq (Zr (YT 55 0 3<|Yf 58 0)<| .block 0<| .loop<|Zr (Yu 59 58 57)<| .seq (.cond (.t 59) .skip (.exit 0))<| .seq (.block 1<|Zr (Zm 60 58<|YG 61 6 56 58<|Zo (.alloc 14 6 68 (.agg [Zz 0,.str ⟨#[]⟩,.aa,.bool false,.aa,.aa]))<|Zm 13 60<|Zs 6 14 62 .nil)<|Zr (Zm 64 12<|Zh 65 6 14<|Bz 66 107 64 65 63<|Zo (.alloc 15 6 54 (.agg [.bool false,.aa,.aa,.bool false,.aa,.aa]))<|Zs 6 15 67<|Yc 16 68)<| .seq (Zr (YQ 69 16)<| .cond (.t 70) (Zr (Zo (.cD 71 [.aa,.aa,.aa] [])<|Yh 72 13 16<|Zs 3 6 71<|ic 7 72 73) .ret) .skip)<| .rg (Yh 74 12 12<|qv 76 75<|Zf 77 0 76<|Ya 78 2 77<|Zh 80 6 15<|YA 81 6 54 80 112 79<|qv 83 74<|Zf 84 0 83<|qw 85 2 84 1 82))<| .rg (YC 86 58 58))<|Zr (Zm 87 12<|qv 88 87<|cM 89 0 88 3<| .wk<|Zs 3 6 90<|Zc 7 0<|Yf 8 0) .ret⟩
def adX:Qc Tryz.prog f50=some Xz.strip:=by kernel_rfl
variable{k:Nat}{p:Pt}{r:Rat}
def y5(p q:Pt):Pt:=(p.1+q.1,p.2+q.2)
def Bc(r:Rat)(p:Pt):Pt:=(r*p.1,r*p.2)
def aeT(p:Pt):Pt:=(-p.2,p.1)
def akL{m:Nat}(hr:rs r<=m)(hp:lO k p):lO (m+k) (Bc r p):=by have h1:=mO r p.1;have h2:=mO r p.2;obtain⟨a,b⟩:=hp;exact⟨by show rs (r*p.1)<=_;omega,by show rs (r*p.2)<=_;omega⟩
def ao7{q:Pt}(hp:lO k p)(hq:lO k q)(hk:k<=2^28):AC 290 [PV.ju p,PV.ju q] (· =PV.ju (y5 p q)):=by
 have h1:=tY (a:=p.1) (b:=q.1) (k:=k) hp.1 hq.1 Oz;have h2:=tY (a:=p.2) (b:=q.2) (k:=k) hp.2 hq.2 Oz;obtain⟨p1,p2⟩:=p;obtain⟨q1,q2⟩:=q;simp only[y5]at h1 h2⊢;refine aF Qd func290 aoo λC hP=>?_;refine Sz0 ?_
 repeat' first
  |refine fU ?_ ?_
  |refine Qy hP h1 ?_
  |refine Qy hP h2 ?_
  |simp+decide (disch:=try exact D0) only[go_sem]
 all_goals
  refine cx ?_;exact cf
def akM(hp:lO k p)(hr:rs r<=k)(hk:k<=2^28):AC 292 [PV.ju p,PV.rat r] (· =PV.ju (Bc r p)):=by
 have h1:=nI (a:=r) (b:=p.1) (k:=k) hr hp.1 Oz;have h2:=nI (a:=r) (b:=p.2) (k:=k) hr hp.2 Oz;obtain⟨p1,p2⟩:=p;simp only[Bc]at h1 h2⊢;refine aF Qd func292 aoZ λC hP=>?_;refine Sz0 ?_
 repeat' first
  |refine fU ?_ ?_
  |refine Qy hP h1 ?_
  |refine Qy hP h2 ?_
  |simp+decide (disch:=try exact D0) only[go_sem]
 all_goals
  refine cx ?_;exact cf
def Al(a b:Pt)(r:Rat):Pt:=y5 a (Bc r (xq a b))
def adY(p a b:Pt):Pt:=y5 p (xq a b)
def ayU(p a b:Pt):Pt:=y5 p (aeT (xq a b))
def lO.mono{m:Nat}(h:lO k p)(hk:k<=m):lO m p:=⟨KaK h.1 hk,KaK h.2 hk⟩
def aie{a b:Pt}(ha:lO k a)(hb:lO k b)(hr:rs r<=k)(hk:k<=2^20):AC 193 [PV.ju a,PV.ju b,PV.rat r] (· =PV.ju (Al a b r)):=by
 have hv:=adW ha hb;have h1:=aom ha hb Oz;have h2:=akM (r:=r) (hv.mono (show 2*k+1<=4*k+1 by omega)) Oz Oz;have h3:=ao7 (k:=4*k+2) (ha.mono Oz) ((akL hr hv).mono Oz) Oz;rw[show Al a b r=y5 a (Bc r (xq a b))from rfl];generalize xq a b=v at *
 generalize Bc r v=u at *
 generalize y5 a u=s at *
 refine aF Qd func193 aon λC hP=>?_;refine Sz0 ?_
 repeat' first
  |refine fU ?_ ?_
  |refine Qy hP h1 ?_
  |refine Qy hP h2 ?_
  |refine Qy hP h3 ?_
  |simp+decide (disch:=try exact D0) only[go_sem]
 all_goals
  refine cx ?_;exact cf
variable{K:Qf}{d e:Nat}{fr:Fr}{hp:HP}{ps:List Pt}{α:Type}
abbrev Eu(ps:List Pt):HB:=⟨6,54,ps.map PV.ju,false⟩
abbrev Jm(own rest:List Rat)(n:Nat)(k:Int):List PV:=[PV.cg own,.aa,.ms 2000000 n,PV.cg rest,.aa,.int .i64 k]
abbrev FA(f:Nat)(args:List PV)(own rest:List Rat)(ps:List Pt)(k:Int)(ayI:List Rat)(ps':List Pt)(k':Int)(D:PV):Prop:=
 Tc Tryz.prog f args 153 6 (Jm own rest ps.length k) (Eu ps) (Jm own ayI ps'.length k') (Eu ps') D
def adZ{f:α->PV}{L:List α}(h:1<=L.length):jI e (.sl e (L.map f)) (some (.int .i64 1)) none none d fr hp K=K (ae fr d (.sl e ((L.drop 1).map f))) hp:=by
 have h2:((L.map f).take (L.map f).length).drop 1=(L.drop 1).map f:=by rw[KaQ,List.map_drop]
 simp only[jI,jL,Kbi];rw[show(1:Int).toNat=1 from rfl,h2];simp;intro _;omega
attribute [go_sem] adZ
def MC{own rest:List Rat}{q:Rat}{k:Int}(hl:rest.length<=2^20):FA 196 [] own (q::rest) ps k rest ps k (PV.rat q):=by
 obtain⟨L,hL⟩:∃L,q::rest=L:=⟨_,rfl⟩
 have hn:1<=L.length:=by rw[<-hL];simp
 have h0:∀h:0<L.length,L[0]=q:=by subst hL;exact λ_=>rfl
 have hd:L.drop 1=rest:=by subst hL;rfl
 rw[hL];refine jd Qd func196 rfl (rh ao5) Nz λC hP=>?_;simp only[Xi];refine cC ?_;refine Sz2 h0 hd ?_;exact ob (D:=PV.rat q) Qw rfl ⟨rfl,by simp+decide (disch:=try exact D0) only[go_sem]<;>rfl,by simp+decide (disch:=try exact D0) only[go_sem]<;>rfl,by simp+decide (disch:=try exact D0) only[go_sem]<;>rfl⟩
def xc(rest:List Rat)(b:Nat):Pt:=if b=0 then(0,0)else if b=1 then(rest.getD 0 0,0)else(rest.getD 0 0,rest.getD 1 0)
def ao8{own rest:List Rat}{b:Nat}(hl:rest.length<=2^20)(hb:b<1000)(hn:min b 2<=rest.length):FA 192 [] own rest ps (b:Nat) (rest.drop (min b 2)) ps ((b+1:Nat):Int) (PV.ju (xc rest b)):=by
 have h0:=vb (x:=0) Oz Oz;have z0:((0:Int):Rat)=0:=rfl;rw[z0]at h0;rcases(by omega:b=0\/b=1\/2<=b)with rfl|rfl|hb2
 .rw[show rest.drop (min 0 2)=rest from rfl,show xc rest 0=(0,0)from rfl];refine jd Qd func192 rfl (rh Kw) Nz λC hP=>?_;simp only[Ii];refine cC ?_;refine ay hP h0 ?_;refine ay hP h0 ?_;refine Sz0 ?_;exact ob (D:=PV.ju (0,0)) Qw rfl ⟨rfl,by simp+decide (disch:=try exact D0) only[go_sem]<;>rfl,by simp+decide (disch:=try exact D0) only[go_sem]<;>rfl,by simp+decide (disch:=try exact D0) only[go_sem]<;>rfl⟩
 .obtain⟨x,r,rfl⟩:∃x r,rest=x::r:=by
   cases rest with
   |nil=>simp at hn
   |cons x r=>exact⟨x,r,rfl⟩
  have hv:=MC (own:=own) (rest:=r) (q:=x) (ps:=ps) (k:=((1:Nat):Int)) (by simp at hl;omega);rw[show(x::r).drop (min 1 2)=r from rfl,show xc (x::r) 1=(x,0)from rfl];refine jd Qd func192 rfl (rh Kw) Nz λC hP=>?_;simp only[Ii];refine cC ?_;refine ay hP h0 ?_;refine ay hP h0 ?_;refine Sz0 ?_;refine Dr hP hv (.inl rfl) ba ba ba rfl rfl rfl (Ka7 rfl) rfl rfl (Ka7 rfl) (by simp[eE]) (by simp) ⟨⟨rfl,rfl⟩,λ_=>rfl⟩ ?_;refine Sz0 ?_;exact ob (D:=PV.ju (x,0)) Qw rfl ⟨rfl,by simp+decide (disch:=try exact D0) only[go_sem]<;>rfl,by simp+decide (disch:=try exact D0) only[go_sem]<;>rfl,by simp+decide (disch:=try exact D0) only[go_sem]<;>rfl⟩
 .obtain⟨x,y,r,rfl⟩:∃x y r,rest=x::y::r:=by
   match rest,hn with
   | [],hn=>simp at hn;omega
   | [x],hn=>simp at hn;omega
   |x::y::r,_=>exact⟨x,y,r,rfl⟩
  have d1:decide (0<((b:Nat):Int))=true:=decide_eq_true Oz;have d2:decide (1<((b:Nat):Int))=true:=decide_eq_true Oz;have hv:=MC (own:=own) (rest:=y::r) (q:=x) (ps:=ps) (k:=((b:Nat):Int)) (by simp at hl ⊢;omega);have tu:=MC (own:=own) (rest:=r) (q:=y) (ps:=ps) (k:=((b:Nat):Int)) (by simp at hl;omega);rw[show min b 2=2 by omega,show(x::y::r).drop 2=r from rfl,show xc (x::y::r) b=(x,y)by unfold xc;rw[if_neg Oz,if_neg Oz];rfl];refine jd Qd func192 rfl (rh Kw) Nz λC hP=>?_;simp only[Ii];refine cC ?_;refine ay hP h0 ?_;refine ay hP h0 ?_;refine Sz1 d1 ?_;refine Dr hP hv (.inl rfl) ba ba ba rfl rfl rfl (Ka7 rfl) rfl rfl (Ka7 rfl) (by simp[eE]) (by simp) ⟨⟨rfl,rfl⟩,λ_=>rfl⟩ ?_;refine Sz1 d2 ?_;refine Dr hP tu (.inl rfl) ba ba ba rfl rfl rfl (Ka7 rfl) rfl rfl (Ka7 rfl) (by simp[eE]) (by simp) ⟨⟨rfl,rfl⟩,λ_=>rfl⟩ ?_;refine Sz0 ?_;exact ob (D:=PV.ju (x,y)) Qw rfl ⟨rfl,by simp+decide (disch:=try exact D0) only[go_sem]<;>rfl,by simp+decide (disch:=try exact D0) only[go_sem]<;>rfl,by simp+decide (disch:=try exact D0) only[go_sem]<;>rfl⟩
variable{fz:Bool}{i ty:Nat}{s:bR}
def nP(P:List Pt)(l:List Int):List Pt:=l.map λa=>P.getD a.toNat (0,0)
def Bn(k:Int)(q:Rat)(l:List Pt)(rest:List Rat)(b:Nat):Pt:=
 if k=1 then xc rest b else if k=2 then Al (l.getD 0 (0,0)) (l.getD 1 (0,0)) q else if k=3 then adY (l.getD 0 (0,0)) (l.getD 1 (0,0)) (l.getD 2 (0,0))else if k=4 then ayU (l.getD 0 (0,0)) (l.getD 1 (0,0)) (l.getD 2 (0,0))else Al (l.getD 0 (0,0)) (l.getD 1 (0,0)) (rest.getD 0 0)
def Bo(k:Int)(rest:List Rat)(b:Nat):List Rat:=if k=1 then rest.drop (min b 2)else if k=5 then rest.drop 1 else rest
def ad0(h:i<ps.length):lI (some ⟨6,ty,ps.map PV.ju,fz⟩) 6 true i 0 d fr hp K=K (ae fr d (PV.ju (ps[i]'h))) hp:=by rw[ry (by rw[KaC];exact h) Oz (by simp),Kbc];rfl
attribute [go_sem] ad0
set_option maxHeartbeats 4000000 in
def ao9{own rest:List Rat}{b:Nat}(aT:sD i s)(bx:s.k=1\/s.k=2)(fR:ps.length=i)(hi:i<=1000)(hB:∀p∈ps,lO (2^18) p)(hr:rest.length<=2^20)(Ov:∀q∈rest,rs q<=2^18)(hb:b<1000)
  (nc:s.k=1->min b 2<=rest.length) (hq:s.k=2->s.a.length<=2/\s.d.length<=2/\Raw 1048576 s.n s.a s.d):
  FA 107 [PV.gK s] own rest ps (b:Nat) (Bo s.k rest b) ps ((if s.k=1 then b+1 else b:Nat):Int) (.aI [PV.ju (Bn s.k (rv s.n s.a s.d) (nP ps s.args) rest b),.int .i64 0]):=by
 have jU:s.args.length<=4:=by
  have:=aT.l;unfold eG at this
  repeat' split at this
  all_goals omega
 have hk:=bx;have Em:(nP ps s.args).length=s.args.length:=by simp[nP]
 have hL:∀p∈nP ps s.args,lO (2^18) p:=λc hm=>by obtain⟨a,ha,rfl⟩:=KaD.1 hm;have:=aT.r a ha;rw[Kac,Kae (show a.toNat<ps.length by omega)];exact hB _ (Kad _)
 refine jd Qd func107 rfl (rh ao6) Nz λC hP=>?_;simp only[Xa];refine cC ?_;refine Sz0 ?_;refine kq 6 900 6 54 Oz Tz0 ?_;refine je okB [(0,0),(6,6),(8,8),(12,27),(1000000,1000000)] [25,26,900] (λq J hp=>∃j,q=s.args.length-j/\j<=s.args.length/\J 6= .ms 900 j/\J 0= .np 1000000 0 0/\J 12= .int .i64 (j:Nat)/\J 1000000=sX 1000000 153 6 (Jm own rest ps.length (b:Nat))/\hp 1000000=some ⟨6,153,[],false⟩/\
   hp 2000000=some (Eu ps)/\hp 3=some ⟨6,68,[PV.gK s],false⟩/\hp 4=some ⟨6,54,[.agg [.bool false,.aa,.aa,.bool false,.aa,.aa]],false⟩/\hp 900=some ⟨6,54,((nP ps s.args).take j).map PV.ju,false⟩) s.args.length ?_ ?_
 .refine⟨0,rfl,Oz,?_⟩;refine Sz0 ?_;rfl
 rintro _ J h ⟨j,rfl,hj,j6,j0,uT,gN,hN,h2,h3,h4,fE⟩;refine aZ uT (λhg=>?_) (λhg=>?_)
 .have dz:j<s.args.length:=Oz;have N5:j<(nP ps s.args).length:=Oz;obtain⟨m,hm⟩:∃m:Nat,s.args[j]=(m:Int):=⟨s.args[j].toNat,by have:=aT.r _ (Kad dz);omega⟩
  have zH:m<ps.length:=by have:=aT.r _ (Kad dz);omega
  have No:(nP ps s.args)[j]=ps[m]:=by simp only[nP,Kbc,hm,Kbi];rw[Kac,Kae zH];rfl
  have bl:(nP ps s.args).take (j+1)=(nP ps s.args).take j++[ps[m]]:=by rw[<-No];exact Kam N5
  have oM:j=((nP ps s.args).take j).length:=by rw[Kay];omega
  generalize hy:ps[m]=y at *
  refine Sz8 uT j6 j0 @gN h2 h3 hm hy ?_;rw[Qq (f:=PV.ju) (y:=y) (xs:=(nP ps s.args).take j) (ty':=54) (fz:=false) (iQ fE) Qw Oz oM Oz Oz];refine Sz8 uT j6 j0 @gN @hN h2 h3 h4 ?_;refine gO (s.args.length-(j+1)) Oz ⟨j+1,rfl,Oz,?_⟩;refine Sz9 uT j6 j0 @gN @hN h2 h3 h4 bl ?_
  try trivial
 obtain rfl:j=s.args.length:=by omega
 rw[Kaf Oz]at fE;obtain⟨L,Nw⟩:∃L,nP ps s.args=L:=⟨_,rfl⟩
 rw[Nw]at fE Em hL⊢;have hlen:=aT.l;have pL:=aT.q;have bW:∀n,n<s.args.length->∃c,(∀h:n<L.length,L[n]'h=c)/\L.getD n (0,0)=c/\lO (2^18) c:=λn hn=>by have wj:n<L.length:=Oz;exact⟨L[n],λ_=>rfl,by rw[Kac,Kae wj];rfl,hL _ (Kad _)⟩
 clear aT;generalize s.args=args at *
 obtain⟨k,nm,ar,n0,a0,d0⟩:=s;simp only at *
 refine Sz1 h3 ?_;rcases hk with rfl|rfl
 .have hf:=ao8 (own:=own) (rest:=rest) (ps:=ps) (b:=b) hr hb (nc rfl);rw[show Bo 1 rest b=rest.drop (min b 2)from rfl,show Bn 1 (rv n0 a0 d0) L rest b=xc rest b from rfl,show(if(1:Int)=1 then b+1 else b)=b+1 from rfl];refine Sz2 j0 h3 ?_;refine Dr hP hf (.inl rfl) (Tzr3 j0 @gN @hN) (Tzr3 j0 @gN @hN) (iQ h2) rfl rfl rfl (Ka7 rfl) rfl rfl (Ka7 rfl) (by simp[eE]) (by simp) ⟨⟨rfl,rfl⟩,λ_=>rfl⟩ ?_;rw[GM,CL,DQ,DR (λx hx=>by have:=of_decide_eq_true hx;omega)];refine Sz3 j0 h4 @hN ?_;exact Td (D:=PV.ju (xc rest b)) (Tzr3 h4 @hN h2) rfl Qw rfl ⟨rfl,by simp+decide (disch:=try exact D2 gN j0) only[go_sem,gN,j0]<;>rfl,by simp+decide (disch:=try exact D1 hN) only[go_sem,hN]<;>rfl,by simp+decide (disch:=try exact D1 h2) only[go_sem,h2]<;>rfl⟩
 .have td:args.length=2:=by have:eG 2=2:=(by decide);omega
  obtain⟨c0,f0,g0,b0⟩:=bW 0 Oz;obtain⟨c1,f1,g1,b1⟩:=bW 1 Oz;rw[td]at j6;obtain⟨q1,q2,q3⟩:=hq rfl;have cU:rs (rv n0 a0 d0)<=2^18:=by have:=(show Raw 2 n0 a0 d0 from⟨q3.la,q3.ld,q1,q2,Oz⟩).rs;omega
  have rY:=yU q3.la q3.ld (by rwa[if_pos rfl]at pL);have hD:=aie b0 b1 cU Oz;rw[<-rY]at hD;rw[show Bo 2 rest b=rest from rfl,show Bn 2 (rv n0 a0 d0) L rest b=Al (L.getD 0 (0,0)) (L.getD 1 (0,0)) (rv n0 a0 d0)from rfl,show(if(2:Int)=1 then b+1 else b)=b from rfl,g0,g1];refine Sz6 j0 j6 h3 fE f0 f1 ?_;refine Qy hP hD ?_;refine Sz3 j0 h4 @hN ?_;exact Td (D:=PV.ju (Al c0 c1 (rv n0 a0 d0))) (Tzr3 h4 @hN h2) rfl Qw rfl ⟨rfl,by simp+decide (disch:=try exact D2 gN j0) only[go_sem,gN,j0]<;>rfl,by simp+decide (disch:=try exact D1 hN) only[go_sem,hN]<;>rfl,by simp+decide (disch:=try exact D1 h2) only[go_sem,h2]<;>rfl⟩
variable{a:List Nat}
def apa(h:0<e):oz e ty [] d fr hp K=K (ae (cI d fr) d (.ms d 0)) (Qg hp d ⟨e,ty,[],false⟩):=by unfold oz;rw[if_neg (by decide)];unfold DZ;have e1:FW.Qu hp []=hp:=vd;simp[h,Hz,e1]
attribute [go_sem] apa
def PE(ha:a.length<=2^40):AC 191 [PV.nat a] (· =PV.nat a):=by
 refine aF Qd func191 ao0 λC hP=>?_;refine Sz0 ?_;rw[adD];refine⟨λh=>?_,?_⟩
 .have h0:a=[]:=by simpa using h
  subst h0;refine Sz0 ?_;exact⟨rfl,PV.nat [],trivial,rfl⟩
 .refine Sz0 ?_;rw[GA (xs:=[]) (ys:=cK a) (ty:=159) (e:=1) rfl Tz0 Oz (by simp) (by simp;omega) (by simp;omega) (by decide)];refine Sz0 ?_;exact vj (e:=1) (ty:=159) (xs:=cK a) (fz:=false) Qw (by rw[Kaf (by simp)])
def aif:AC 106 [.aa] (· = .aa):=by refine aF Qd func106 ao1 λC hP=>?_;exact cf
def Q7d{l:List Rat}(hl:l.length<=2^20)(hk:∀q∈l,rs q<=2^36):AC 105 [PV.cg l] (· =PV.cg l):=by
 refine aF Qd func105 ao2 λC hP=>?_;refine Sz0 ?_;refine kq 3 900 3 49 Oz Tz0 ?_;refine Qh okB [(3,3),(5,5),(8,26)] [5,24,25,900] (λm J hp=>∃i,m=l.length-i/\i<=l.length/\J 3= .ms 900 i/\J 8= .int .i64 (i:Nat)/\hp 900=some ⟨3,49,(l.take i).map PV.rat,false⟩) l.length ?_ ?_
 .refine⟨0,rfl,Oz,?_⟩;refine Sz0 ?_;rfl
 rintro _ J h ⟨i,rfl,hi,j3,j8,fE⟩;refine aZ j8 (λhc=>?_) (λhc=>?_)
 .have au:i<l.length:=Oz;have hq:=hk _ (Kad au);have bl:l.take (i+1)=l.take i++[l[i]]:=Kam au;have oM:i=(l.take i).length:=by rw[Kay];omega
  generalize hx:l[i]=q at *
  have h1:=PE (a:=aw q.num.natAbs) (by unfold rs nl at hq;omega);have h2:=PE (a:=aw q.den) (by unfold rs nl at hq;omega);refine Sz3 j3 j8 hx ?_
  repeat' first
   |refine fU ?_ ?_
   |refine Qy hP h1 ?_
   |refine Qy hP h2 ?_
   |simp+decide (disch:=try exact D3 j3 j8 hx) only[go_sem,j3,j8,hx]
  all_goals
   rw[Qq (f:=PV.rat) (y:=q) (xs:=l.take i) (ty':=49) (fz:=false) (Tz1 fE) Qw Oz oM Oz Oz];refine Sz2 j3 j8 ?_;refine Qe (l.length-(i+1)) Oz ⟨i+1,rfl,Oz,?_⟩;exact Tz1 bl
 obtain rfl:i=l.length:=by omega
 refine Sz1 j3 ?_;exact vj (e:=3) (ty:=49) (xs:=(l.take l.length).map PV.rat) (fz:=false) fE (by rw[Kaf (by simp),Kaf (by simp)])
variable{G:List bB}{S:List bR}{cs:List Cd}{vs:List Vr}
def aih(hv:vs.length<=1000):AC 190 [PV.frame cs vs] (λr=>∃l:List Int,r=PV.mono l/\l.length=(vs.filter λv=>decide (v.1=1)).length):=by
 refine aF Qd func190 aoq λC hP=>?_;refine Sz0 ?_;refine kq 3 900 1 3 Oz Tz0 ?_;refine Qh okB [(3,5),(9,21)] [5,19,20,900] (λm J hp=>∃(i:Nat)(l:List Int),m=vs.length-i/\i<=vs.length/\l.length=((vs.take i).filter λv=>decide (v.1=1)).length/\J 3= .ms 900 l.length/\J 9= .int .i64 (i:Nat)/\hp 900=some ⟨1,3,nL l,false⟩) vs.length ?_ ?_
 .refine⟨0,[],rfl,Oz,rfl,?_⟩;refine Sz0 ?_;rfl
 rintro _ J h ⟨i,l,rfl,hi,hl,j3,j9,fE⟩;refine aZ j9 (λhc=>?_) (λhc=>?_)
 .have au:i<vs.length:=Oz;have bl:vs.take (i+1)=vs.take i++[vs[i]]:=Kam au;have mB:l.length<=1000:=by have:=KcI (λv:Vr=>decide (v.1=1)) (vs.take i);rw[Kay]at this;omega
  generalize hx:vs[i]=v at *
  by_cases hk:v.1=1
  .have d:decide (v.1=1)=true:=decide_eq_true hk;have hf:(l++[(i:Int)]).length=((vs.take (i+1)).filter λv=>decide (v.1=1)).length:=by rw[bl,List.filter_append,Kaz,Kaz,hl];simp[hk]
   refine Sz4 j3 j9 hx d ?_;rw[Qq (f:=PV.int .i64) (y:=(i:Int)) (xs:=l) (ty':=3) (fz:=false) (Tz1 fE) Qw Oz rfl Oz Oz];refine Sz2 j3 j9 ?_;refine Qe (vs.length-(i+1)) Oz ⟨i+1,l++[(i:Int)],rfl,Oz,hf,?_⟩;refine Sz0 ?_;simp
  .have d:decide (v.1=1)=false:=decide_eq_false hk;have hf:l.length=((vs.take (i+1)).filter λv=>decide (v.1=1)).length:=by rw[bl,List.filter_append,Kaz,hl];simp[hk]
   refine Sz4 j3 j9 hx d ?_;refine Qe (vs.length-(i+1)) Oz ⟨i+1,l,rfl,Oz,hf,?_⟩;exact Tz2 j3 fE
 obtain rfl:i=vs.length:=by omega
 rw[KaQ]at hl;refine Sz1 j3 ?_;rw[MX h 900 l.length 1 3 (nL l) false fE];exact ez ⟨l,by rw[Kaf (by simp)],hl⟩ rfl
def Q7e{k:Int}(hk:kZ k=true):AC 189 [.int .i64 k] (· = .bool false):=by
 have cY:k=1\/k=2\/k=3\/k=4\/k=5:=of_decide_eq_true hk;rcases cY with rfl|rfl|rfl|rfl|rfl
 all_goals
  refine aF Qd func189 ao3 λC hP=>?_;exact cf
def JE(vs:List Vr):Nat:=(vs.filter λv=>decide (v.1=1)).length
def agd(zq:AC 29 [PV.cn S G] (· = .aI [PV.frame cs vs,.int .i64 0]))(hS:S.length<=1000)(hv:vs.length<=1000)(bx:∀s∈S,kZ s.k=true):
  AC 104 [PV.cn S G] (· = .aI [.int .i64 (JE vs:Nat),.int .i64 0,.int .i64 0]):=by
 have hp:=aih (cs:=cs) hv;refine aF Qd func104 ao4 λC hP=>?_;refine ay hP zq ?_;refine Sz0 ?_;refine Qh okB [(3,3),(7,7),(19,28)] [7] (λm J hp=>∃i:Nat,m=S.length-i/\i<=S.length/\J 3= .int .i64 0/\J 19= .int .i64 (i:Nat)/\hp 1=some ⟨2,25,[PV.cn S G],false⟩/\hp 5=some ⟨2,76,[PV.frame cs vs],false⟩) S.length ?_ ?_
 .refine⟨0,rfl,Oz,?_⟩;refine Sz0 ?_;rfl
 rintro _ J h ⟨i,rfl,hi,j3,Fj,hb1,gf⟩;refine aZ Fj (λhc=>?_) (λhc=>?_)
 .have au:i<S.length:=Oz;have BM:=Q7e (bx _ (Kad au));generalize hx:S[i]=s at *
  refine eL j3 Fj hx hP BM ?_;refine Sz2 j3 Fj ?_;refine Qe (S.length-(i+1)) Oz ⟨i+1,rfl,Oz,?_⟩;exact Tz3 j3 hb1 gf
 obtain rfl:i=S.length:=by omega
 refine Sz2 j3 gf ?_;refine kG hP hp rfl rfl rfl ?_;rintro _ ⟨l,rfl,hl⟩;refine Sz2 j3 hl ?_;exact ox rfl rfl rfl rfl (Qi _) (Qi _) (Qi _)
def dP(S:List bR)(aL:List Rat):Nat->List Pt×List Rat×Nat
 |0=>([],aL,0)
 | i+1=>((dP S aL i).1++[Bn (S.getD i fY).k (rv (S.getD i fY).n (S.getD i fY).a (S.getD i fY).d) (nP (dP S aL i).1 (S.getD i fY).args) (dP S aL i).2.1 (dP S aL i).2.2],
   Bo (S.getD i fY).k (dP S aL i).2.1 (dP S aL i).2.2,if(S.getD i fY).k=1 then(dP S aL i).2.2+1 else(dP S aL i).2.2)
def HJ(S:List bR)(aL:List Rat):∀i,(dP S aL i).1.length=i/\(dP S aL i).2.2<=i
 |0=>⟨rfl,Kag _⟩
 |i+1=>by obtain⟨h1,h2⟩:=HJ S aL i;rw[dP];refine⟨by simp[h1],?_⟩;simp only;split<;>omega
abbrev PV.Fh(aL:List Rat)(ps:List Pt):PV:=.agg [PV.cg aL,.aa,.sl 6 (ps.map PV.ju)]
set_option maxHeartbeats 4000000 in
def aeU{aL:List Rat}(zq:AC 29 [PV.cn S G] (· = .aI [PV.frame cs vs,.int .i64 0]))(hS:S.length<=900)(hv:vs.length<=1000)(bx:∀s∈S,kZ s.k=true)(eX:∀s∈S,s.k=1\/s.k=2)(lE:aL.length=JE vs)
  (aT:∀i (h:i<S.length),sD i S[i]) (hq:∀s∈S,s.k=2->s.a.length<=2/\s.d.length<=2/\Raw 1048576 s.n s.a s.d) (hvB:∀q∈aL,rs q<=2^18)
  (hI:∀i,i<=S.length->(∀p∈(dP S aL i).1,lO (2^18) p)/\(∀q∈(dP S aL i).2.1,rs q<=2^18)/\(dP S aL i).2.1.length<=2^20)
  (hn:∀i (h:i<S.length),(S[i].k=1->min (dP S aL i).2.2 2<=(dP S aL i).2.1.length)/\(S[i].k=5->1<=(dP S aL i).2.1.length)):
  AC 50 [PV.cn S G,PV.cg aL,.aa] (· = .aI [PV.Fh aL (dP S aL S.length).1,.int .i64 0,.int .i64 0]):=by
 have Ey:=agd zq Oz hv bx;have OG:aL.length<=1000:=by have:=KcI (λv:Vr=>decide (v.1=1)) vs;unfold JE at lE;omega
 have ff:=Q7d (l:=aL) Oz (λq hq=>by have:=hvB q hq;omega);have iG:=aif;refine tM Qd func50 rfl adX Nz λC hP=>?_;simp only[Xz];refine cC ?_;refine ay hP Ey ?_;refine gE lE hP ff ?_;refine Sz0 ?_;refine bV (kv 43 2000010 Qw Oz rfl Oz) ?_;refine Sz0 ?_;refine bV (me (γ:=2000010) (e:=6) (ty:=153) (xs:=[.agg [.aa,.aa,.aa,PV.cg aL,.aa,.int .i64 0]]) (fz:=false) Tz0 (by simp) Oz (λx hx=>by rw[Kax.1 hx];rfl)) ?_;refine Sz0 ?_;refine bV (Dc (γ:=2000010) (e:=6) (ty:=153) (cs:=[.aa,.aa,.aa,PV.cg aL,.aa,.int .i64 0]) (cs':=[.aa,.aa,.aD 2000000 0 0,PV.cg aL,.aa,.int .i64 0]) 2000000 6 54 Tz0 Qw Oz Oz rfl (by simp)) ?_;refine ay hP iG ?_;refine Sz0 ?_;refine je okB [(7,8),(12,16),(58,86),(2000010,2000010)] [14,15,81,82] (λq J hp=>∃i,q=S.length-i/\i<=S.length/\J 12= .np 2000010 0 0/\J 58= .int .i64 (i:Nat)/\J 2000010=sX 2000010 153 6 (Jm aL (dP S aL i).2.1 i ((dP S aL i).2.2:Nat))/\hp 2000010=some ⟨6,153,[],false⟩/\
   hp 2000000=some (Eu (dP S aL i).1)/\hp 3=some ⟨2,25,[PV.cn S G],false⟩/\hp 6=some ⟨3,39,[.agg [.aa,.aa,.aa]],false⟩) S.length ?_ ?_
 .refine⟨0,rfl,Oz,?_⟩;refine Sz0 ?_;exact⟨rfl,rfl,rfl⟩
 rintro _ J h ⟨i,rfl,hi,uT,OS,gN,hN,h2,h3,h6⟩;refine aZ OS (λhc=>?_) (λhc=>?_)
 .have au:i<S.length:=Oz;have hd:S.getD i fY=S[i]:=by rw[Kac,Kae au];rfl
  obtain⟨kS,jr⟩:=HJ S aL i;obtain⟨i1,i2,i3⟩:=hI i hi;obtain⟨n1,n2⟩:=hn i au;have hm:=Kad au;have a9:=ao9 (own:=aL) (b:=(dP S aL i).2.2) (aT i au) (eX _ hm) kS Oz i1 i3 i2 Oz n1 (hq _ hm);have mC:dP S aL (i+1)=((dP S aL i).1++[Bn S[i].k (rv S[i].n S[i].a S[i].d) (nP (dP S aL i).1 S[i].args) (dP S aL i).2.1 (dP S aL i).2.2],Bo S[i].k (dP S aL i).2.1 (dP S aL i).2.2,if S[i].k=1 then(dP S aL i).2.2+1 else(dP S aL i).2.2):=by rw[dP,hd]
  rw[FA,kS]at a9;obtain⟨F,tc⟩:∃F,dP S aL i=F:=⟨_,rfl⟩
  rw[tc]at gN h2 kS jr a9 mC;generalize Bn S[i].k (rv S[i].n S[i].a S[i].d) (nP F.1 S[i].args) F.2.1 F.2.2=y at *
  generalize Bo S[i].k F.2.1 F.2.2=r' at *
  generalize(if S[i].k=1 then F.2.2+1 else F.2.2)=b' at *
  generalize hx:S[i]=s at *
  clear i1 i2 i3 n1 n2;refine Sz5 OS uT @gN h3 hx ?_;refine Dr hP a9 (.inr rfl) (iQ @gN) (iQ @hN) (iQ h2) rfl rfl rfl (Ka7 rfl) rfl rfl (Ka7 rfl) (by simp[eE]) (by simp) ⟨⟨rfl,rfl⟩,λ_=>rfl⟩ ?_;rw[GM,CL,DQ,DR (λx hx=>by have:=of_decide_eq_true hx;omega)];refine Sz2 uT @hN ?_;rw[wK (f:=PV.ju) (y:=y) (xs:=F.1) (ty':=54) (fz:=false) Qw Qw Oz kS.symm Oz Oz Oz];refine Sz3 uT OS @hN ?_;refine gO (S.length-(i+1)) Oz ⟨i+1,rfl,Oz,?_⟩;rw[mC];refine Sz4 uT @hN h3 h6 ?_
  try trivial
 obtain rfl:i=S.length:=by omega
 refine Sz3 uT @gN @hN ?_;obtain⟨kS,jr⟩:=HJ S aL S.length;obtain⟨F,tc⟩:∃F,dP S aL S.length=F:=⟨_,rfl⟩
 rw[tc]at h2 kS⊢;refine HV 90 1 (p:=.aU [PV.cg aL,.aa,.ms 2000000 S.length]) (D:=PV.Fh aL F.1) Qw ?_ (λl hl=>?_)
 .refine⟨λc hc=>?_,?_,?_⟩
  .simp only[KaA,KaR,or_false]at hc;rcases hc with rfl|rfl|rfl
   .unfold qY;trivial
   .unfold qY;trivial
   .rfl
  .simp[vJ,iE,h2,Eu,PV.Fh];exact Kaf (by simp[kS])
  .simp[xp,nw]
 have z2:FW.Qu h l 6=some ⟨3,39,[.agg [.aa,.aa,.aa]],false⟩:=by rw[Gv hl Oz,h6]
 refine Sz1 z2 ?_;refine ss (FD ?_);refine Sz0 ?_;exact ox rfl rfl rfl rfl (Qi _) (Qi _) (Qi _)
variable{L:Nat->Nat}{j γ:Nat}{xs0:List PV}
def akN{n B m:Nat}{e0 ty0:Nat}(h:i<n)(hm:L i=m):
  uY (.aH γ 1 ty (jj B i n L)) (some ⟨e0,ty0,xs0,false⟩) (some [.ms (B+i) m]) γ 1 i 0 fr hp K=K (ae (gC γ fr) γ (.aH γ 1 ty (jj B (i+1) n L))) hp:=by
 subst hm;have hl:i<(jj B i n L).length:=by rw[Vq Oz];exact h
 have h0:(jj B i n L)[i]= .aa:=by
  have h1:(bn (rws B i L)).length=i:=by simp[bn,rws]
  simp[jj,List.getElem_append,h1]
 simp only[uY,hl,exists_true_left,true_and,Kag,Ka2,KaX,Kbm,KaG,exists_eq_left',h0];rw[<-ajM h];simp[eW,rF,PV.aV,PV.cells]
def akO{n B:Nat}(h:j<i)(hi:i<=n):yb (.aH γ 1 ty (jj B i n L)) γ 1 false j 0 d fr hp K=K (ae fr d (.ms (B+j) (L j))) hp:=by
 have hl:j<(jj B i n L).length:=by rw[Vq hi];omega
 have h0:(jj B i n L)[j]= .ms (B+j) (L j):=by have:=ajL (B:=B) (n:=n) (L:=L) h;rw[Kae hl]at this;exact Kbn this
 simp only[yb,hl,exists_true_left,true_and,Kag,Ka2,implies_true,h0];simp[tx,PV.aV,PV.cells]
def afU{l:List Rat}{R m:Nat}(hl:l.length=R*m)(hR:0<R)(iF:R<=40)(hm:m<=40):
  jc Tryz.prog 280 [PV.dU R m l] (λ_=>.undef) aB (λr F H=>r= .aK 2000000 0 R/\F 2000000= .aH 2000000 1 35 (bn (rws 3000000 R λ_=>m))/\H 2000000=some ⟨1,35,[],false⟩/\
   ∀i,i<R->H (3000000+i)=some ⟨3,49,aR PV.rat (dG l m i) m,false⟩):=by
 refine jd Qd func280 rfl aoI Nz λC hP=>?_;simp only[Xm];refine cC ?_;refine Sz0 ?_;refine bV (kv 7 2000000 rfl Oz rfl Oz) ?_;refine Sz0 ?_;refine bV (me (γ:=2000000) (e:=1) (ty:=35) (xs:=List.replicate R .aa) (fz:=false) Tz0 (by intro h;have:=congrArg List.length h;simp at this;omega) Oz (λx hx=>by rw[Kcu hx];rfl)) ?_;rw[ahx 3000000 R λ_=>m];refine Sz0 ?_;refine je eO [(3,4),(10,36),(2000000,2000000)] [17] (λn J hp=>∃i,n=R-i/\i<=R/\J 3= .aK 2000000 0 R/\J 10= .int .i64 (i:Nat)/\J 2000000= .aH 2000000 1 35 (jj 3000000 i R λ_=>m)/\
   hp 1=some ⟨3,145,[PV.dU R m l],false⟩/\hp 2000000=some ⟨1,35,[],false⟩/\(∀j,j<i->hp (3000000+j)=some ⟨3,49,aR PV.rat (dG l m j) m,false⟩)/\∀j,i<=j->hp (3000000+j)=none) R ?_ ?_
 .refine⟨0,rfl,Oz,?_⟩;refine Sz0 ?_;exact⟨rfl,(λj hj=>by omega),λj hj=>trivial⟩
 rintro _ J h ⟨i,rfl,hi,h3,bp,hg,h1,hh,jY,gG⟩;refine cH h3 bp (λhc=>?_) (λhc=>?_)
 .have au:i<R:=Oz;have na:=gG i (Kag _);refine Sz4 h3 bp h1 hg ?_;refine bV (kv 17 (3000000+i) (Tz1 na) Oz rfl Oz) ?_;have IS:∀L,bF (kW 17 (3000000+i)) (.aH 2000000 1 35 (jj 3000000 i R L))= .aH 2000000 1 35 (jj 3000000 i R L):=λL=>amE Oz Oz Oz
  refine Sz6 h3 bp h1 hg hh IS ?_;rw[akN (ty:=35) (B:=3000000) (i:=i) (n:=R) (L:=λ_=>m) (e0:=1) (ty0:=35) (xs0:=[]) au rfl];have tq:=λ(K:Qf) (fr:Fr) (hp:HP) d=>akO (d:=d) (fr:=fr) (hp:=hp) (K:=K) (γ:=2000000) (j:=i) (i:=i+1) (n:=R) (ty:=35) (B:=3000000) (L:=λ_=>m)
  have hb1:(i+1)*m<=R*m:=Kap _ au;have hb2:i*m<=(i+1)*m:=Kap _ Oz;have e1:(i:Int)*(m:Int)=((i*m:Nat):Int):=by rw[KcJ]
  have e2:((i:Int)+1)*(m:Int)=(((i+1)*m:Nat):Int):=by rw[KcJ];rfl
  have xM:=ahd hl au;have IF:R*m<=40*40:=KaZ iF hm;refine Sz9 h3 bp h1 hg hh IS tq e1 e2 ?_;rw[aeD (xs:=List.replicate m (.agg [.bool false,.aa,.aa])) (ty:=49) Tz0 Oz (by simp) (by rw[xM,lQ])];rw[xM];refine Sz2 h3 bp ?_;refine gO (R-(i+1)) Oz ⟨i+1,rfl,Oz,?_⟩;refine Sz4 h3 bp h1 hh ?_;refine⟨λj hj=>?_,λj hj=>?_⟩
  .by_cases e:j=i
   .subst e;simp+decide (disch:=try exact D0) only[go_sem]
   .refine Sz1 e ?_;exact jY j Oz
  .have e:¬j=i:=Oz;refine Sz1 e ?_;exact gG j Oz
 .obtain rfl:i=R:=by omega
  rw[ahy]at hg;refine Sz1 h3 ?_;refine MR ?_;refine Sz2 hg hh ?_;exact jY
def FT(M:MF)(R w:Nat):List PV:=(List.range R).map λr=>.sl 3 (aR PV.rat (M r) w)
def afV{x y:Nat->Rat}{c:Rat}{w ty1 ty2 k K:Nat}(hw:0<w)(OI:w<=2^30)(hx:∀i,i<w->rs (x i)<=k)(hy:∀i,i<w->rs (y i)<=k)(hc:rs c<=k)(hk:k<=2^33):
  Ko Tryz.prog 283 [.ms 1000000 w,.ms 1500001 w,PV.rat c] ⟨3,ty1,aR PV.rat x w,false⟩ ⟨3,ty2,aR PV.rat y w,false⟩ (λr xs=>r= .aI []/\xs=aR PV.rat (λi=>x i-c*y i) w):=by
 unfold Ko;refine jd Qd func283 rfl Sr Nz λC hP=>?_;simp only[M8];refine cC ?_;refine Sz0 ?_;refine Qy hP (o8 (a:=c) (by omega)) ?_;refine Sz0 ?_;refine Qm (λh0=>?_) (λh0=>?_)
 .refine Sz0 ?_;refine G3 ?_;refine Sz0 ?_;refine⟨_,rfl,rfl,qe λi hi=>?_⟩;rw[fy.1 h0,Rat.zero_mul,Rat.sub_eq_add_neg,Rat.neg_zero,Rat.add_zero]
 refine Sz0 ?_;refine Qh eO [(6,6),(12,29)] [] (λn J hp=>∃i,n=w-i/\i<=w/\J 12= .int .i64 (i:Nat)/\hp 5=some ⟨3,49,[PV.rat c],false⟩/\hp 1000000=some ⟨3,ty1,aR PV.rat (λj=>if j<i then x j-c*y j else x j) w,false⟩/\hp 1500001=some ⟨3,ty2,aR PV.rat y w,true⟩) w ?_ ?_
 .refine⟨0,rfl,by omega,?_⟩;refine Sz0 ?_;exact⟨rfl,FH (qe λk _=>(if_neg (Nat.not_lt_zero k)).symm)⟩
 rintro _ J h ⟨i,rfl,hi,eX,h5,nn,lG⟩;refine Sz1 eX ?_;refine Qm (λhg=>?_) (λhg=>?_)
 .have au:i<w:=by omega
  have hm:=mO c (y i);have h1:=hx i au;have h2:=hy i au;refine Sz4 eX h5 nn lG ?_;rw[if_neg (KcL i)];refine Qy hP (nI (k:=k) hc h2 (by omega)) ?_;refine Sz4 eX h5 nn lG ?_;refine Qy hP (Bm (k:=2*k) (by omega) (by omega) (by omega)) ?_;refine Sz4 eX h5 nn lG ?_;rw[HF au];refine Sz1 eX ?_;refine Qe (w-(i+1)) (by omega) ⟨i+1,rfl,by omega,?_⟩;refine Sz2 h5 lG ?_;refine FH (qe λk _=>?_);by_cases e:k=i
  .subst e;rw[if_pos rfl,if_pos (by omega)]
  .rw[if_neg e];by_cases e2:k<i
   .rw[if_pos e2,if_pos (by omega)]
   .rw[if_neg e2,if_neg (by omega)]
 .obtain rfl:i=w:=by omega
  refine Sz1 eX ?_;refine G3 ?_;refine Sz2 nn lG ?_;exact⟨_,rfl,by rw[lQ,lQ],qe λk hk=>if_pos hk⟩
variable{M:MF}{R tyr w:Nat}{π:Nat->Nat}
abbrev PV.BI(R w:Nat)(E:yp):PV:=.agg [.sl 1 (FT E.M R w),.sl 1 (E.bG.map λk=>.int .i64 (k:Nat)),.bool (decide (E.gd.num<0)),PV.num E.gd.num.natAbs,PV.num E.gd.den]
abbrev xr(l:List Nat):List PV:=l.map λk=>.int .i64 (k:Nat)
abbrev tZ(R:Nat)(E:yp):PV:=.aU [.aK 2000000 0 R,.aD 2000002 0 E.bG.length,.bool (decide (E.gd.num<0)),PV.num E.gd.num.natAbs,PV.num E.gd.den]
structure oh(M:MF)(R w tyr:Nat)(π:Nat->Nat)(hp:HP):Prop where
 lt:∀r,r<R->π r<R
 inj:∀r s,r<R->s<R->π r=π s->r=s
 row:∀r,r<R->hp (3000000+π r)=some ⟨3,tyr,aR PV.rat (M r) w,false⟩
def oh.set{M':MF}{r:Nat}{f:Nat->Rat}(h:oh M R w tyr π hp)(hr:r<R)(h1:∀c,c<w->M' r c=f c)(h2:∀s,s<R->s≠r->∀c,c<w->M' s c=M s c):
  oh M' R w tyr π (Qg hp (3000000+π r) ⟨3,tyr,aR PV.rat f w,false⟩):=by
 refine⟨h.lt,h.inj,λs hs=>?_⟩;unfold Qg;by_cases e:s=r
 .subst e;rw[if_pos rfl,qe h1]
 .rw[if_neg (λe2=>e (h.inj s r hs hr Oz)),h.row s hs,qe (h2 s hs e)]
def oh.congr{M':MF}{hp':HP}(h:oh M R w tyr π hp)(h1:∀r,r<R->∀c,c<w->M' r c=M r c)(h2:∀x,3000000<=x->hp' x=hp x):oh M' R w tyr π hp':=
 ⟨h.lt,h.inj,λs hs=>by rw[h2 _ Oz,h.row s hs,qe (h1 s hs)]⟩
def oh.swap{m:Nat}(h:oh M R w tyr π hp)(hi:i<R)(hm:m<R):oh (pa M i m) R w tyr (λx=>if x=m then π i else if x=i then π m else π x) hp:=by
 have hl:∀r,r<R->∃s,s<R/\(if r=m then π i else if r=i then π m else π r)=π s/\pa M i m r=M s/\((r=m/\s=i)\/(r≠m/\r=i/\s=m)\/(r≠m/\r≠i/\s=r)):=λr hr=>by
  unfold pa;by_cases e:r=m
  .exact⟨i,hi,by simp[e],by simp[e],.inl ⟨e,rfl⟩⟩
  .by_cases e2:r=i
   .exact⟨m,hm,by rw[if_neg e,if_pos e2],by rw[if_neg e,if_pos e2],.inr (.inl ⟨e,e2,rfl⟩)⟩
   .exact⟨r,hr,by rw[if_neg e,if_neg e2],by rw[if_neg e,if_neg e2],.inr (.inr ⟨e,e2,rfl⟩)⟩
 refine⟨λr hr=>?_,λr s hr hs e=>?_,λr hr=>?_⟩
 .obtain⟨s,h1,h2,_⟩:=hl r hr;show(if r=m then π i else if r=i then π m else π r)<R;rw[h2];exact h.lt s h1
 .obtain⟨a,a1,a2,_,a4⟩:=hl r hr;obtain⟨b,b1,b2,_,b4⟩:=hl s hs;have:=h.inj a b a1 b1 (by rw[<-a2,<-b2];exact e);omega
 .obtain⟨s,h1,h2,h3,_⟩:=hl r hr;show hp (3000000+(if r=m then π i else if r=i then π m else π r))=_;rw[h2,h3];exact h.row s h1
def apb{E:yp}(hg:fr 2000000= .aH 2000000 1 ty (bn (cw 3000000 R w π)))(zN:hp 2000002=some ⟨1,3,xr E.bG,false⟩)(wv:oh E.M R w tyr π hp):
  Ai fr 2 (tZ R E)/\vJ fr hp 2 (tZ R E)=PV.BI R w E/\∀x∈xp fr 2 (tZ R E),2000000<=x:=by
 have hl:R=(cw 3000000 R w π).length:=(Q8o _ _ _ _).symm;have hm:∀x∈cw 3000000 R w π,2000000<=x.1/\∃r,r<R/\x=(3000000+π r,w):=λx hx=>by obtain⟨r,hr,rfl⟩:=KaD.1 hx;exact⟨by show 2000000<=3000000+π r;omega,r,KbY.1 hr,rfl⟩
 have o1:=ahK hg hl Oz (λx hx=>(hm x hx).1);refine⟨?_,?_,?_⟩
 .intro c hc;simp only[KaA,KaR,or_false]at hc;rcases hc with rfl|rfl|rfl|rfl|rfl
  .exact o1
  .simp only[qY,aP];simp
  .trivial
  .trivial
  .trivial
 .obtain⟨ys,pO⟩:∃ys:Nat->List PV,∀r,r<R->ys (3000000+π r)=aR PV.rat (E.M r) w:=by refine⟨λx=>match hp x with|some hb=>hb.xs|none=>[],λr hr=>?_⟩;simp only[wv.row r hr]
  have o2:=ajv (hp:=hp) (e':=3) hg hl ys (λx hx=>by obtain⟨_,r,hr,rfl⟩:=hm x hx;refine⟨tyr,false,?_⟩;show hp (3000000+π r)=some ⟨3,tyr,ys (3000000+π r),false⟩;rw[pO r hr,wv.row r hr]);have o3:iE fr hp 2 (.aK 2000000 0 R)= .sl 1 (FT E.M R w):=by
   refine Eq.trans o2 ?_;unfold FT cw;rw[KbT];congr 1;refine KaF λr hr=>?_
   simp only[Function.comp,pO r (KbY.1 hr)];rw[Kaf (by rw[lQ];omega)]
  have o4:iE fr hp 2 (.aD 2000002 0 E.bG.length)= .sl 1 (xr E.bG):=by simp only[iE,zN,Ka6];rw[Kaf (by simp)]
  show PV.agg [iE fr hp 2 (.aK 2000000 0 R),iE fr hp 2 (.aD 2000002 0 E.bG.length),_,_,_]=_;rw[o3,o4];rfl
 .intro x hx;obtain⟨c,hc,hx⟩:=Kat.1 hx;simp only[KaA,KaR,or_false]at hc;rcases hc with rfl|rfl|rfl|rfl|rfl
  .simp only[nw,hg,KaA,Ka6]at hx;rcases hx with rfl|hx
   .omega
   .obtain⟨y,hy,hx⟩:=Kat.1 hx;obtain⟨z,hz,rfl⟩:=KaD.1 (Kby hy);have:=(hm z hz).1;simp only[PV.aV,PV.cells,Kal,Kaq,nw,Kai,Kax]at hx;omega
  .simp only[nw,Kax]at hx;omega
  .simp[nw]at hx
  .simp[nw]at hx
  .simp[nw]at hx
def Q7f  {n K:Nat} (hR:0<R) (iF:R<=40) (hw:w<=40) (hn:n<=w) (hK:K<=2^20) (hB:∀k,k<=n->sj K R w (eK R M k).M/\rs (eK R M k).gd<=K):
  jc Tryz.prog 348 [.aK 2000000 0 R,.int .i64 (n:Nat)] (ae (λ_=>.undef) 2000000 (.aH 2000000 1 ty (bn (cw 3000000 R w id))))
   (λx=>if x=2000000 then some ⟨1,ty,[],false⟩else if 3000000<=x/\x<3000000+R then some ⟨3,tyr,aR PV.rat (M (x-3000000)) w,false⟩else none)
   (λr _ _=>r=PV.BI R w (eK R M n)):=by
 refine jd Qd func348 rfl aoL Nz λC hP=>?_;simp only[Xu];refine cC ?_;have hN:∀r,r<R->(3000000+r<3000000+R):=λr h=>by omega
 refine ay hP (qt (x:=1) Oz Oz) ?_;refine Sz0 ?_;refine bV (kv 5 2000001 rfl Oz rfl Oz) ?_;refine Sz0 ?_;refine bV (me (γ:=2000001) (e:=5) (ty:=313) (xs:=[.agg [.aa,.aa,.bool false,.aa,.aa]]) (fz:=false) Tz0 (by simp) Oz (λx hx=>by rw[Kax.1 hx];rfl)) ?_;refine Sz0 ?_;refine bV (JX (γ:=2000001) (e:=5) (ty:=313) (cs:=[.aK 2000000 0 R,.aa,.bool false,PV.num ((1:Int):Rat).num.natAbs,PV.num ((1:Int):Rat).den]) (cs':=[.aK 2000000 0 R,.aD 2000002 0 0,.bool false,PV.num ((1:Int):Rat).num.natAbs,PV.num ((1:Int):Rat).den]) 2000002 1 3 Tz0 Tz0 Oz Oz rfl (by simp)) ?_;refine Sz0 ?_;refine je okB [(0,0),(5,11),(16,135),(2000000,2000001)] [9,132,133] (λm J hp=>∃k π,m=n-k/\k<=n/\J 0= .aK 2000000 0 R/\J 5= .np 2000001 0 0/\J 16= .int .i64 (k:Nat)/\J 2000000= .aH 2000000 1 ty (bn (cw 3000000 R w π))/\J 2000001= .aH 2000001 5 313 [tZ R (eK R M k)]/\
   hp 2000000=some ⟨1,ty,[],false⟩/\hp 2000001=some ⟨5,313,[],false⟩/\hp 2000002=some ⟨1,3,xr (eK R M k).bG,false⟩/\hp 4=some ⟨5,313,[.agg [.aa,.aa,.bool false,.aa,.aa]],false⟩/\oh (eK R M k).M R w tyr π hp) n ?_ ?_
 .refine⟨0,id,rfl,Oz,?_⟩;refine Sz0 ?_;refine⟨rfl,rfl,rfl,λr hr=>hr,λr s _ _ e=>e,λr hr=>?_⟩;simp+decide (disch:=first|omega|rfl|(simp+decide only[go_sem,id,KbD,hr]<;>rfl)|fail) only[go_sem,id,KbD,hr];rw[if_pos ⟨by omega,Oz⟩];rfl
 rintro _ J h ⟨k,π,rfl,hk,j0,j5,oQ,jg,jb,hg,hb,zN,h4,wv⟩;refine aZ oQ (λhc=>?_) (λhc=>?_)
 .have cY:k<n:=Oz;have EK:k<w:=Oz;have ux:=hB k hk;have uy:=hB (k+1) cY;have bx:=My R M k;have hS:eK R M (k+1)=xk R (eK R M k) k:=rfl;obtain⟨E,hE⟩:∃E,eK R M k=E:=⟨_,rfl⟩
  rw[hS]at uy;rw[hE]at ux uy bx jb zN wv hS;refine Sz9 j0 j5 oQ jg jb hg hb zN h4 ?_;refine je okB [(0,0),(5,5),(8,8),(23,39),(2000000,2000001)] [] (λq J hp=>∃i,q=R-i/\E.bG.length<=i/\i<=R/\Ae E.M k (R-i) i=sQ E.M R k E.bG.length/\J 0= .aK 2000000 0 R/\J 5= .np 2000001 0 0/\J 8= .int .i64 (i:Nat)/\J 2000000= .aH 2000000 1 ty (bn (cw 3000000 R w π))/\J 2000001= .aH 2000001 5 313 [tZ R E]/\h=hp) (R-E.bG.length) ?_ ?_
  .refine⟨E.bG.length,rfl,Kag _,bx.2.1,rfl,?_⟩;exact Tz4 j0 j5 jg jb
  rintro _ J2 _ ⟨i,rfl,IU,jW,uI,i0,i5,i8,ig,ib,rfl⟩;refine Sz4 i0 i8 ig hg ?_;have cX:i=sQ E.M R k E.bG.length->True:=λ_=>trivial
  refine fJ (λuB=>?_) (λuB=>?_)
  .have hi:i<R:=Oz;have Jb:=wv.row i hi;refine kN i0 i8 ig hg Jb hP (o8 (a:=E.M i k) (by have:=ux.1 i hi k EK;omega)) ?_;refine Sz5 i0 i8 ig hg Jb ?_;refine Qm (λhz=>?_) (λhz=>?_)
   .refine Sz1 i8 ?_;refine gO (R-(i+1)) Oz ⟨i+1,rfl,Oz,Oz,?_⟩;refine Sz4 i0 i5 ig ib ?_;rw[<-uI,show R-i=(R-(i+1))+1 by omega];exact(if_pos (fy.1 hz)).symm
   .have XQ:E.M i k≠0:=λe=>hz (fy.2 e)
    have ET:sQ E.M R k E.bG.length=i:=by rw[<-uI,show R-i=(R-(i+1))+1 by omega];exact if_neg XQ
    generalize hm:E.bG.length=m at *
    have uE:m<R:=Oz;have hS2:xk R E k=⟨FG (Bj (pa E.M i m) m (E.M i k)) m k,E.bG++[k],(if i=m then E.gd else -E.gd)*E.M i k⟩:=by unfold xk;rw[hm,ET,if_neg Oz]
    rw[hS2]at uy hS;refine Sz4 i0 i8 (show ¬i=R from by omega) (show ¬((i:Int)=(R:Int))from by omega) ?_;simp (disch:=decide) only[rk,tG,gY,tI];refine af4 okB [(0,0),(5,5),(47,64),(2000000,2000001)] [] (λJ hp=>∃oS,J 0= .aK 2000000 0 R/\J 5= .np 2000001 0 0/\J 2000000= .aH 2000000 1 ty (bn (cw 3000000 R w oS))/\J 2000001= .aH 2000001 5 313 [tZ R ⟨E.M,E.bG,if i=m then E.gd else -E.gd⟩]/\h=hp/\oh (pa E.M i m) R w tyr oS hp) ?_ ?_
    .refine Qm (λhs=>?_) (λhs=>?_)
     .have him:¬i=m:=Oz;have hq:=K9 (a:=E.gd) (k:=K) Oz Oz;refine Sz7 i0 i5 i8 ig ib hg hb ?_;refine Qy hP hq ?_;refine Sz7 i0 i5 i8 ig ib hg hb ?_;refine vl ⟨λx=>if x=m then π i else if x=i then π m else π x,?_⟩;refine Sz8 i0 i5 i8 ig ib hg hb him ?_;exact wv.swap hi uE
     .obtain rfl:i=m:=by omega
      simp only[cO,iM];refine Sz0 ?_;refine vl ⟨π,?_⟩;refine Sz7 i0 i5 i8 ig ib hg hb ?_;refine wv.congr (λr hr c hc=>?_) (λ_ _=>rfl);unfold pa;by_cases e:r=i
      .subst e;rw[if_pos rfl]
      .rw[if_neg e,if_neg e]
    rintro J3 _ ⟨oS,k0,k5,kg,kb,rfl,kr⟩;simp (disch:=decide) only[rk,tG,gY,tI];have krm:=kr.row m uE;have oK:∀c,pa E.M i m m c=E.M i c:=λc=>by unfold pa;rw[if_pos rfl]
    refine Sz7 k0 k5 kg kb hg krm oK ?_;have zw:rs (if i=m then E.gd else -E.gd)<=K:=by
     split
     .exact ux.2
     .rw[DC];exact ux.2
    have ZP:=ux.1 i hi k EK;refine Qy hP (nI (a:=if i=m then E.gd else -E.gd) (b:=E.M i k) zw ZP Oz) ?_;generalize lC:E.M i k=pv at *
    refine Sz8 k0 k5 kg kb hg hb krm oK ?_;refine je okB [(0,0),(5,5),(10,10),(82,103),(2000000,2000001)] [] (λq J hp=>∃c,q=w-c/\c<=w/\J 0= .aK 2000000 0 R/\J 5= .np 2000001 0 0/\J 82= .int .i64 (c:Nat)/\J 2000000= .aH 2000000 1 ty (bn (cw 3000000 R w oS))/\J 2000001= .aH 2000001 5 313 [tZ R ⟨E.M,E.bG,(if i=m then E.gd else -E.gd)*pv⟩]/\
      hp 2000000=some ⟨1,ty,[],false⟩/\hp 2000001=some ⟨5,313,[],false⟩/\hp 2000002=some ⟨1,3,xr E.bG,false⟩/\hp 4=some ⟨5,313,[.agg [.aa,.aa,.bool false,.aa,.aa]],false⟩/\hp 9=some ⟨3,49,[PV.rat pv],false⟩/\
      oh (λr c'=>if r=m/\c'<c then pa E.M i m r c'/pv else pa E.M i m r c') R w tyr oS hp) w ?_ ?_
    .refine⟨0,rfl,Oz,?_⟩;refine Sz8 k0 k5 kg kb hg hb zN h4 ?_;refine⟨rfl,kr.congr (λr hr c hc=>if_neg Oz) (λx hx=>?_)⟩;exact Tz1 (show ¬x=9 from by omega)
    rintro _ J4 h2 ⟨c,rfl,ik,m0,m5,z3,mg,mb,n0,n1,n2,n4,n9,mr⟩;refine aZ z3 (λhcw=>?_) (λhcw=>?_)
    .have NR:c<w:=Oz;have Jx:=mr.row m uE;have zH:=ux.1 i hi c NR;have BP:=Bl (a:=E.M i c) (b:=pv) zH ZP Oz XQ;simp+decide (disch:=first|omega|rfl|(simp+decide only[go_sem,m0,m5,mg,mb,z3,n0,n9,Jx,KcL c,oK]<;>rfl)|fail) only[go_sem,m0,m5,mg,mb,z3,n0,n9,Jx,KcL c,oK];refine Qy hP BP ?_;simp+decide (disch:=first|omega|rfl|(simp+decide only[go_sem,m0,m5,mg,mb,z3,n0,n9,Jx,KcL c,oK]<;>rfl)|fail) only[go_sem,m0,m5,mg,mb,z3,n0,n9,Jx,KcL c,oK];rw[HF NR];refine Sz1 z3 ?_;refine gO (w-(c+1)) Oz ⟨c+1,rfl,Oz,?_⟩;refine Sz9 m0 m5 mg mb n0 n1 n2 n4 n9 ?_;refine mr.set uE (λc' fl=>?_) (λs hs Z' c' fl=>?_)
     .by_cases e:c'=c
      .subst e;rw[if_pos rfl,if_pos ⟨rfl,Oz⟩,oK]
      .rw[if_neg e];by_cases e2:c'<c
       .rw[if_pos ⟨rfl,Oz⟩,if_pos e2,oK]
       .rw[if_neg Oz,if_neg e2,oK]
     .rw[if_neg (λe=>Z' e.1),if_neg (λe=>Z' e.1)]
    .have NR:c=w:=Oz;have mr2:oh (Bj (pa E.M i m) m pv) R w tyr oS h2:=mr.congr (λr hr c' fl=>by
      unfold Bj;by_cases e:r=m
      .rw[if_pos e,if_pos ⟨e,Oz⟩,e]
      .rw[if_neg e,if_neg (λe2=>e e2.1)]) (λ_ _=>rfl)
     clear mr;obtain⟨N,Eo⟩:∃N,Bj (pa E.M i m) m pv=N:=⟨_,rfl⟩
     rw[Eo]at mr2 uy;have hNm:∀c',c'<w->rs (N m c')<=K:=λc' fl=>by simpa only[FG,if_true]using uy.1 m uE c' fl
     have XS:∀r',r'<R->r'≠m->∀c',c'<w->rs (N r' c')<=K:=λr' dO aS c' fl=>by
      rw[<-Eo];unfold Bj pa;rw[if_neg aS,if_neg aS];split
      .exact ux.1 m uE c' fl
      .exact ux.1 r' dO c' fl
     refine Sz6 m0 m5 mg mb z3 n0 ?_;simp (disch:=decide) only[rk,tG,gY,tI];refine je okB [(0,0),(5,5),(11,11),(106,128),(2000000,2000001)] [] (λq J hp=>∃r,q=R-r/\r<=R/\J 0= .aK 2000000 0 R/\J 5= .np 2000001 0 0/\J 106= .int .i64 (r:Nat)/\J 2000000= .aH 2000000 1 ty (bn (cw 3000000 R w oS))/\J 2000001= .aH 2000001 5 313 [tZ R ⟨E.M,E.bG,(if i=m then E.gd else -E.gd)*pv⟩]/\
      hp 2000000=some ⟨1,ty,[],false⟩/\hp 2000001=some ⟨5,313,[],false⟩/\hp 2000002=some ⟨1,3,xr E.bG,false⟩/\hp 4=some ⟨5,313,[.agg [.aa,.aa,.bool false,.aa,.aa]],false⟩/\
      oh (λr' c'=>if r'=m\/r<=r' then N r' c' else N r' c'-N r' k*N m c') R w tyr oS hp) R ?_ ?_
     .refine⟨0,rfl,Oz,?_⟩;refine Sz8 m0 m5 mg mb n0 n1 n2 n4 ?_;refine⟨rfl,mr2.congr (λr hr c' fl=>if_pos (.inr Oz)) (λ_ _=>rfl)⟩
     rintro _ J5 h3 ⟨r,rfl,jX,u0,u5,JR,ug,ub,v0,v1,v2,v4,ur⟩;refine aZ JR (λI'=>?_) (λI'=>?_)
     .have hr:r<R:=Oz;refine aZ JR (λZS=>?_) (λZS=>?_)
      .have e0:¬r=m:=Oz;have O5:h3 (3000000+oS r)=some ⟨3,tyr,aR PV.rat (N r) w,false⟩:=by rw[ur.row r hr,qe λc' _=>if_pos (.inr (Kag r))]
       have O6:h3 (3000000+oS m)=some ⟨3,tyr,aR PV.rat (N m) w,false⟩:=by rw[ur.row m uE,qe λc' _=>if_pos (.inl rfl)]
       simp+decide (disch:=first|omega|rfl|(simp+decide only[go_sem,u0,u5,ug,ub,v0,v1,v2,v4,O5,O6,e0,Kag r]<;>rfl)|fail) only[go_sem,u0,u5,ug,ub,v0,v1,v2,v4,O5,O6,e0,Kag r];have aS:3000000+oS r≠3000000+oS m:=λe=>e0 (ur.inj r m hr uE Oz)
       have sub:=afV (w:=w) (x:=N r) (y:=N m) (c:=N r k) (ty1:=tyr) (ty2:=tyr) (k:=K) (K:=0) Oz Oz (XS r hr e0) hNm (XS r hr e0 k EK) Oz;refine aqT hP sub O5 O6 aS rfl (Kq Oz) (by simp[bN];omega) (Tz1 (show ¬oS m=oS r from λe=>aS Oz)) (λγ ak=>by simpa[PV.refs,PV.aO]using ak) (by simp) ?_;rintro _ xs _ ⟨rfl,rfl⟩;refine Sz1 JR ?_;refine gO (R-(r+1)) Oz ⟨r+1,rfl,Oz,?_⟩;refine Sz8 u0 u5 ug ub v0 v1 v2 v4 ?_;refine ur.set hr (λc' fl=>?_) (λs hs nY c' fl=>?_)
       .rw[if_neg Oz]
       .by_cases e:s=m
        .rw[if_pos (.inl e),if_pos (.inl e)]
        .by_cases e2:r<=s
         .rw[if_pos (.inr Oz),if_pos (.inr e2)]
         .rw[if_neg Oz,if_neg Oz]
      .obtain rfl:r=m:=by omega
       refine Sz1 JR ?_;refine gO (R-(r+1)) Oz ⟨r+1,rfl,Oz,?_⟩;refine Sz8 u0 u5 ug ub v0 v1 v2 v4 ?_;refine ur.congr (λr' dO c' fl=>?_) (λ_ _=>rfl);by_cases e:r'=r
       .rw[if_pos (.inl e),if_pos (.inl e)]
       .by_cases e2:r<=r'
        .rw[if_pos (.inr Oz),if_pos (.inr e2)]
        .rw[if_neg Oz,if_neg Oz]
     .simp (disch:=decide) only[rk,tG,gY,tI];refine Sz8 u0 u5 ug ub v0 v1 v2 v4 ?_;rw[wK (f:=λk:Nat=>PV.int .i64 (k:Nat)) (y:=k) (xs:=E.bG) (ty':=3) (fz:=false) (Tz1 v2) Tz0 Oz rfl Oz Oz Oz];refine Sz9 u0 u5 ug ub v0 v1 v2 v4 oQ ?_;refine gO (n-(k+1)) Oz ⟨k+1,oS,rfl,Oz,?_⟩;rw[hS,Eo];refine Sz8 u0 u5 ug ub v0 v1 v2 v4 ?_;refine⟨by simp only[tZ,Kaz,List.length_singleton],ur.congr (λr' dO c' fl=>?_) (λx hx=>?_)⟩
      .unfold FG;by_cases e:r'=m
       .rw[if_pos e,if_pos (.inl e),e]
       .rw[if_neg e,if_neg Oz]
      .exact Tz2 (show ¬x=132 from by omega) (show ¬x=2000002 from by omega)
  .obtain rfl:i=R:=by omega
   refine Sz3 i0 i8 oQ ?_;have e1:xk i E k=E:=by unfold xk;rw[if_pos];rw[<-uI,Kbz];rfl
   simp (disch:=decide) only[rk,tG,gY,tI];refine gO (n-(k+1)) Oz ⟨k+1,π,rfl,Oz,?_⟩;rw[hS,e1];refine Sz4 i0 i5 ig ib ?_;exact⟨hg,hb,zN,h4,wv⟩
 .obtain rfl:k=n:=by omega
  refine Sz5 j0 j5 jb hg hb ?_;refine HV 136 2 (p:=tZ R (eK R M k)) Tz0 (apb (ty:=ty) (tyr:=tyr) (Tz1 jg) zN wv) λl hl=>?_
  have Yt:=(Gv (hp:=h) hl (x:=4) Oz).trans h4;refine Sz1 Yt ?_;refine rp (cx ?_);refine Sz1 Yt ?_;exact Qb rfl rfl
variable{l:List RQ}
def PF(hl:yZ l):AC 344 [PV.Ab l] (· = .bool (l.all vL)):=by
 have mB:=hl.1;refine aF Qd func344 aoG λC hP=>?_;refine Sz0 ?_;refine Qh okB [(2,2),(4,4),(7,14)] [4] (λm J hp=>∃i,m=l.length-i/\i<=l.length/\(∀j (h:j<l.length),j<i->vL l[j]=true)/\J 7= .int .i64 (i:Nat)) l.length ?_ ?_
 .refine⟨0,rfl,Oz,Oz,?_⟩;refine Sz0 ?_;rfl
 rintro _ J h ⟨i,rfl,hi,h1,h7⟩;refine aZ h7 (λhg=>?_) (λhg=>?_)
 .skip
  have au:i<l.length:=Oz;have dX:=hl.2 _ (Kad au);have eV:=Kad au;have bI:vL l[i]=true->∀j (h:j<l.length),j<i+1->vL l[j]=true:=λh j hj fP=>by
   by_cases e:j=i
   .subst e;exact h
   .exact h1 j hj Oz
  generalize hx:l[i]=x at *
  refine bE h7 hx hP (Ar dX Oz) ?_;have uN:vL x=fL x.n x.a x.d:=rfl;simp+decide (disch:=first|omega|rfl|(simp+decide only[go_sem,h7,<-uN]<;>rfl)|fail) only[go_sem,h7,<-uN];cases hs:vL x
  .refine Sz2 h7 hs ?_;refine Qb ?_ rfl;congr 1;symm;rw[Kcb];exact⟨x,eV,by simp[hs]⟩
  .refine Sz2 h7 hs ?_;refine Qe (l.length-(i+1)) Oz ⟨i+1,rfl,Oz,bI hs,?_⟩;exact Tz0
 .obtain rfl:i=l.length:=by omega
  refine Sz0 ?_;refine Qb ?_ rfl;congr 1;symm;rw[Kas];intro t ht;obtain⟨j,hj,rfl⟩:=KaH ht;exact h1 j hj hj
def Te{r c:Int}(hl:yZ l):AC 277 [PV.uW r c l] (· = .bool (og r c l)):=by
 refine aF Qd func277 aoF λC hP=>?_;have mB:=hl.1;refine Sz0 ?_;by_cases h1:r<0
 .refine Sz1 h1 ?_;exact Qb (by rw[og,decide_eq_false Oz];rfl) rfl
 refine Sz1 h1 ?_;by_cases h2:40<r
 .refine Sz1 h2 ?_;exact Qb (by rw[og,decide_eq_false Oz];rfl) rfl
 refine Sz1 h2 ?_;by_cases h3:c<0
 .refine Sz1 h3 ?_;exact Qb (by rw[og,decide_eq_false Oz];rfl) rfl
 refine Sz1 h3 ?_;by_cases h4:40<c
 .refine Sz1 h4 ?_;exact Qb (by rw[og,decide_eq_false Oz];rfl) rfl
 obtain⟨R,rfl⟩:=Kb8 (show 0<=r by omega);obtain⟨m,rfl⟩:=Kb8 (show 0<=c by omega);have IF:R*m<=40*40:=KaZ Oz Oz;have e1:(R:Int)*(m:Int)=((R*m:Nat):Int):=by rw[KcJ]
 refine cH h4 e1 (λjr=>?_) (λjr=>?_)
 .refine Sz0 ?_;exact Qb (by rw[og,e1,decide_eq_false (λh=>jr h.2.2.2.2)];rfl) rfl
 refine ay hP (PF hl) ?_;refine Sz0 ?_;exact Qb (by rw[og,e1,decide_eq_true ⟨by omega,Oz,Oz,Oz,Oz⟩,KcK]) rfl
def xu(k:Nat)(l:List RQ):Prop:=∀q∈l,Raw k q.n q.a q.d
def xu.of{l:List Rat}(h:∀q∈l,rs q<=k):xu k (l.map qR):=λx hx=>by obtain⟨q,hq,rfl⟩:=KaD.1 hx;exact jf (h q hq)
def vV(r c r' c':Int)(a b:List RQ):Bool:=decide (r=r'/\c=c'/\a.map lf=b.map lf)
def apc{r c r' c':Int}{a b:List RQ}(ha:xu k a)(hb:xu k b)(hk:k<2^34)(la:a.length<2^40)(lb:b.length<2^40):AC 279 [PV.uW r c a,PV.uW r' c' b] (· = .bool (vV r c r' c' a b)):=by
 refine aF Qd func279 aoH λC hP=>?_;refine Sz0 ?_;by_cases h1:¬r=r'
 .refine Sz1 h1 ?_;exact Qb (by rw[vV,decide_eq_false λe=>h1 e.1]) rfl
 obtain rfl:=Classical.not_not.1 h1;refine Sz0 ?_;by_cases h2:¬c=c'
 .refine Sz1 h2 ?_;exact Qb (by rw[vV,decide_eq_false λe=>h2 e.2.1]) rfl
 obtain rfl:=Classical.not_not.1 h2;refine bD (λh3=>?_) (λh3=>?_)
 .refine Sz0 ?_;refine Qb ?_ rfl;rw[vV,decide_eq_false];intro e;have:=congrArg List.length e.2.2;simp at this;omega
 have IJ:a.length=b.length:=Oz;refine Sz0 ?_;refine Qh okB [(4,5),(30,45)] [] (λm J hp=>∃i,m=a.length-i/\i<=a.length/\(∀j (h1:j<a.length) (h2:j<b.length),j<i->lf a[j]=lf b[j])/\J 30= .int .i64 (i:Nat)/\hp 2=some ⟨3,145,[PV.uW r c a],false⟩/\hp 3=some ⟨3,145,[PV.uW r c b],false⟩) a.length ?_ ?_
 .refine⟨0,rfl,Oz,Oz,?_⟩;refine Sz0 ?_;rfl
 rintro _ J h ⟨i,rfl,hi,h1,kQ,b2,b3⟩;refine aZ kQ (λhg=>?_) (λhg=>?_)
 .have au:i<a.length:=Oz;have EE:i<b.length:=Oz;have dX:=ha _ (Kad au);have awt:=hb _ (Kad EE);have aS:lf a[i]≠lf b[i]->a.map lf≠b.map lf:=λh e=>h (by have:=congrArg (λl=>l[i]?) e;simpa[au,EE]using this)
  have bI:lf a[i]=lf b[i]->∀j (h1:j<a.length) (h2:j<b.length),j<i+1->lf a[j]=lf b[j]:=λh j hj tl fP=>by
   by_cases e:j=i
   .subst e;exact h
   .exact h1 j hj tl Oz
  generalize hx:a[i]=x at *
  generalize hy:b[i]=y at *
  refine kN kQ b2 b3 hx hy hP (Vw dX awt Oz) ?_;by_cases e:lf x=lf y
  .have e':rv x.n x.a x.d=rv y.n y.a y.d:=e;refine Sz4 kQ b2 b3 e' ?_;refine Qe (a.length-(i+1)) Oz ⟨i+1,rfl,Oz,bI e,?_⟩;exact Tz2 b2 b3
  .have e':¬rv x.n x.a x.d=rv y.n y.a y.d:=e;refine Sz4 kQ b2 b3 e' ?_;refine Qb ?_ rfl;rw[vV,decide_eq_false λe2=>aS e e2.2.2]
 .obtain rfl:i=a.length:=by omega
  refine Sz1 kQ ?_;refine Qb ?_ rfl;rw[vV,decide_eq_true];refine⟨rfl,rfl,Ka9 (by simp[IJ]) λj j1 j2=>?_⟩;rw[Kbc,Kbc];exact h1 j (by simpa using j1) (by simpa using j2) (by simpa using j1)
variable{C:Ctx}{O:Nat}{l:List Rat}{pr:Bool}
def L3{m:Nat}(hl:l.length=R*m)(hR:R<=40)(hm:m<=40)(hs:∀q∈l,rs q<=1048576):AC 277 [PV.dU R m l] (· = .bool true):=by have IF:R*m<=40*40:=KaZ hR hm;have h:=Te (r:=(R:Int)) (c:=(m:Int)) (l:=l.map qR) ⟨by rw[KaC];omega,xu.of hs⟩;rw[<-H2,ahe hl hR hm]at h;exact h
def sL(R w:Nat)(M:MF)(hp:HP):HP:=λx=>if x=2000000 then some ⟨1,35,[],false⟩else if 3000000<=x/\x<3000000+R then some ⟨3,49,aR PV.rat (M (x-3000000)) w,false⟩else hp x
def kX(R:Nat)(x:Nat):Bool:=decide (x=2000000\/(3000000<=x/\x<3000000+R))
def xd{x:Nat}(h:kX R x=true):x=2000000\/(3000000<=x/\x<3000000+R):=of_decide_eq_true h
def UH{x:Nat}(h:kX R x=false):¬(x=2000000\/(3000000<=x/\x<3000000+R)):=of_decide_eq_false h
def vu{R x:Nat}(h:x<2000000):kX R x=false:=decide_eq_false Oz
def vz{R:Nat}:kX R 2000000=true:=decide_eq_true (.inl rfl)
def CU{r:Nat}(h:r<R):sL R w M hp (3000000+r)=some ⟨3,49,aR PV.rat (M r) w,false⟩:=by unfold sL;rw[if_neg Oz,if_pos ⟨by omega,Oz⟩,KbD]
def Kx{R w:Nat}{M:MF}{hp:HP}:sL R w M hp 2000000=some ⟨1,35,[],false⟩:=by unfold sL;rw[if_pos rfl]
def yI{R w x:Nat}{M:MF}{hp:HP}(h:x<2000000):sL R w M hp x=hp x:=by unfold sL;rw[if_neg Oz,if_neg Oz]
def PG(hπ:∀r,r<R->π r<R)(h:O∈(PV.aH 2000000 1 ty (bn (cw 3000000 R w π))).refs++(PV.aH 2000000 1 ty (bn (cw 3000000 R w π))).aO):kX R O=true:=by
 refine decide_eq_true ?_;simp only[PV.refs,PV.aO,KaO,KaA]at h;rcases h with rfl|h
 .exact .inl rfl
 .obtain⟨r,hr,rfl⟩:=WA O h;have:=hπ r hr;exact .inr ⟨by omega,Oz⟩
def PH{m:Nat}(hP:C.P=Tryz.prog)(hl:l.length=R*m)(hR:0<R)(iF:R<=40)(hm:m<=40)(hd:d≠2000000)(qJ:∀x,kX R x=true->hp x=none)
  (hK:K (ae (ae fr d (.aK 2000000 0 R)) 2000000 (.aH 2000000 1 35 (bn (cw 3000000 R m id)))) (sL R m (dG l m) hp)):eI C pr (.fn 280 [] []) [PV.dU R m l] (some d) fr hp K:=by
 refine H0 hP (afU hl hR iF hm) (λ_=>false) (kX R) [2000000] (λx h=>by cases h) (λx=>rfl) rfl (by simp) (λx hx γ e ty xs e2=>?_) (λγ ak=>?_) (λs _=>.inl rfl) (λx hx=>?_) (λ_ _=>rfl) (λr F H dY=>?_)
 .rw[Kax.1 hx]at e2;cases e2
 .simp[PV.refs,PV.aO]at ak
 .have:=xd hx;exact⟨.inl (qJ x hx),Oz⟩
 .obtain⟨rfl,h1,h2,h3⟩:=dY;rw[K7]at h1;have hr:∀O∈(F 2000000).refs++(F 2000000).aO,kX R O=true:=λO ao=>by rw[h1]at ao;exact PG (λr h=>h) ao
  refine⟨λx hx=>?_,(λγ e ty xs h=>by cases h),λO ao=>?_,λs hs=>?_,?_⟩
  .rcases xd hx with rfl|⟨k1,k2⟩
   .rw[h2];simp
   .have:=h3 (x-3000000) Oz;rw[show 3000000+(x-3000000)=x by omega]at this;rw[this];simp
  .simp[PV.refs,PV.aO]at ao;subst ao;exact decide_eq_true (.inl rfl)
  .rw[Kax.1 hs];exact⟨by omega,⟨_,_,_,_,h1,Wz _⟩,hr⟩
  .have e1:qz [2000000] F (dj (ep (λ_=>false) fr) (some d) (.aK 2000000 0 R))=ae (ae fr d (.aK 2000000 0 R)) 2000000 (.aH 2000000 1 35 (bn (cw 3000000 R m id))):=by
    funext s;have awI:ep (λ_=>false) fr=fr:=by funext t;simp[ep,lk]
    rw[awI];by_cases e:s=2000000
    .subst e;simp[qz,ae,h1]
    .simp[qz,ae,dj,e]
   have e2:pB (λ_=>false) (kX R) H hp=sL R m (dG l m) hp:=by
    funext x;unfold pB sL;cases hq:kX R x with
    | true=>
     rw[if_pos rfl];rcases xd hq with rfl|⟨k1,k2⟩
     .rw[h2,if_pos rfl]
     .have:=h3 (x-3000000) Oz;rw[show 3000000+(x-3000000)=x by omega]at this;rw[this,if_neg Oz,if_pos ⟨k1,k2⟩]
    |false=>have:=UH hq;rw[if_neg (by simp),if_neg (by simp),if_neg Oz,if_neg Oz]
   rw[e1,e2];exact hK
def Q9d{Kt:Qf}{n K:Nat}(hP:C.P=Tryz.prog)(hR:0<R)(iF:R<=40)(hw:w<=40)(hn:n<=w)(hKb:K<=2^20)(hB:JV K R w n M)
  (hg:fr 2000000= .aH 2000000 1 ty (bn (cw 3000000 R w id))) (h0:hp 2000000=some ⟨1,ty,[],false⟩) (jY:∀r,r<R->hp (3000000+r)=some ⟨3,tyr,aR PV.rat (M r) w,false⟩)
  (hK:Kt (ae (ep (kX R) fr) d (PV.BI R w (eK R M n))) (λx=>if kX R x then none else hp x)):eI C false (.fn 348 [] []) [.aK 2000000 0 R,.int .i64 (n:Nat)] (some d) fr hp Kt:=by
 refine H0 hP (Q7f (ty:=ty) (tyr:=tyr) hR iF hw hn hKb hB) (kX R) (λ_=>false) [] (λx hx=>?_) (λx=>?_) rfl (by simp) (λx hx γ e ty xs e2=>?_) (λγ ak=>?_) (λs hs=>?_) (λx hx=>by cases hx) (λh=>by cases h) (λr F H dY=>?_)
 .rcases xd hx with rfl|⟨k1,k2⟩
  .exact⟨_,h0,rfl,Oz⟩
  .have:=jY (x-3000000) Oz;rw[show 3000000+(x-3000000)=x by omega]at this;exact⟨_,this,rfl,Oz⟩
 .cases hq:kX R x with
  | true=>
   rw[if_pos rfl];rcases xd hq with rfl|⟨k1,k2⟩
   .rw[if_pos rfl,h0]
   .have:=jY (x-3000000) Oz;rw[show 3000000+(x-3000000)=x by omega]at this;rw[this,if_neg Oz,if_pos ⟨k1,k2⟩]
  |false=>have:=UH hq;rw[if_neg Oz,if_neg Oz];rfl
 .simp only[KaA,KaR,or_false]at hx;rcases hx with rfl|rfl<;>cases e2
 .simp[PV.refs,PV.aO]at ak;subst ak;exact decide_eq_true (.inl rfl)
 .by_cases e:s=2000000
  .subst e;refine .inr ⟨2000000,1,ty,_,?_,hg,Wz _,λγ ak=>?_⟩
   .rw[hg];simp[ae]
   .rw[hg]at ak;exact PG (λr h=>h) ak
  .left;simp[ae,e]
 .subst dY;refine⟨(λx hx=>by cases hx),(λγ e ty xs h=>by cases h),(λO ao=>by simp[PV.refs,PV.aO]at ao),(λs hs=>by cases hs),?_⟩;have e1:qz [] F (dj (ep (kX R) fr) (some d) (PV.BI R w (eK R M n)))=ae (ep (kX R) fr) d (PV.BI R w (eK R M n)):=by funext s;simp[qz,dj]
  have e2:pB (kX R) (λ_=>false) H hp=λx=>if kX R x then none else hp x:=by funext x;simp[pB]
  rw[e1,e2];exact hK
end Go.Proofs.YtikalonaompbdaaGreat
namespace Go.FW
open Go
variable {C : Ctx} {fr : Fr} {hp : HP} {w : World} {K R : Qf}
variable{B:List Nat}{W:List (Nat×Nat)}{nm:Nat->Bool}{sk:List It}
def Hr{x y:RT}(aT:gu R sk)(W:List (Nat×Nat))(B:List Nat)(M:Fr->HP->Prop)
  (h:vQ C R x y (.el (pg W (cO B fr) M)::sk) (aY W fr (cO B fr)) hp) (hM:∀J hp,M J hp->vc C R sk (aY W J (cO B fr)) hp):vQ C R x y sk fr hp:=by
 have key:∀(r:RT),vc C R (.o r:: .el (pg W (cO B fr) M)::sk) (aY W fr (cO B fr)) hp->vc C R (.o r::sk) fr hp:=by
  intro r hr;refine Dj (M:=pg W (cO B fr) M) ?_ _ [.o r] _ _ (Kag _) ?_
  .rintro aG hp' ⟨J,h1,h2⟩;exact rA aT.1 _ _ _ _ _ _ (Kag _) aT.2 h1 (hM J hp' h2)
  .exact rA aT.1 _ _ _ _ _ _ (Kag _) (.o r (.el AJ aT.2)) (Hx W B) hr
 exact⟨key x h.1,key y h.2⟩
def akP{J F:Fr}:ep nm (aY W J F)=aY W (ep nm J) (ep nm F):=by funext s;unfold ep aY;split<;>rfl
def akQ(h:∀x,nm x=true->2000000<=x){F:Fr}:ep nm (cO B F)=cO B F:=by
 funext s;obtain⟨h1,h2,_,_⟩:=wU B F s;show lk nm (cO B F s)=cO B F s;unfold lk;rw[if_neg];intro hn;obtain⟨x,hx,jF⟩:=KaJ.1 hn;have:=h x jF;rcases KaN.1 hx with hx|hx
 .have:=h1 x hx;simp[kU]at this;omega
 .have:=h2 x hx;simp[mH,kU]at this;omega
def mT(bG:List Nat)(n:Nat):List Nat:=(List.range n).filter λk=> !bG.contains k
end Go.FW
