/- Part 11 of the proof of SquaresProofs: B2, B3, FwVD. Own lemmas; no conditions. -/
import Derived.Test.YtkoclfmjlolkhaaGreatSquaresProofsPart10
set_option maxHeartbeats 1000000
set_option linter.unusedSimpArgs false
set_option linter.unusedVariables false
set_option linter.unnecessarySimpa false
set_option maxRecDepth 100000
namespace Go.Proofs.YtkoclfmjlolkhaaGreat
open Go Go.FW
def TH:ay:=⟨20,[.t 2],Zr (gZ 1 24<|
 YE 2)<|Zr (YE 3)<| .seq (Zr (Yl 4 0)<| .block 0<| .loop<| .seq (Zr (Zm 5 4<|
 Yf 6 0 1<|
 Ys 8 5 7)<| .cond (.t 8) .skip (.exit 0))<| .seq (.block 1<| .rg (Zm 11 3<|
 Zo (.bs 12 3 51 [])<|
 Zh 13 3 1<|
 Zm 14 4<|
 Ym 15 124 13 14<|
 mZ 16 3 56 51 12 15<|
 .wk<|Zo (.bs 17 1 22 [.t 16])<|
 Zo (.app 18 1 24 22 (.t 11) (.t 17))<|
 Yc 3 18))<| .rg (jj 9 4))<|Zr (YW 19 3 2) .ret⟩
theorem akt:Qe Tryz.prog Tryz.f59=some TH.strip:=by kernel_rfl
theorem aku{l:List Rat}{R m i:Nat}(hl:l.length=R*m)(hi:i<R)(df:R<=40)(hm:m<=40):Qd Tryz.prog 124 [PV.bO R m l,.int .i64 (i:Nat)] (· = .sl 3 (Qo PV.rat (Qu l m i) m)):=by
 have hb1:(i+1)*m<=R*m:=Kah _ hi
 have hb2:i*m<=(i+1)*m:=Kah _ Oz
 have e1:(i:Int)*(m:Int)=((i*m:Nat):Int):=by rw[KbX]
 have e2:((i:Int)+1)*(m:Int)=(((i+1)*m:Nat):Int):=by rw[KbX];rfl
 have qh:=MG hl hi
 have vU:R*m<=40*40:=KaY df hm
 refine aE Qg Tryz.func124 agh fun C hP=> ?_
 refine Sz2 e1 e2 ?_
 refine Qc ?_ rfl
 rw[qh]
theorem XR{R m:Nat}{l:List Rat}(hl:l.length=R*m)(hR:R<=40)(hm:m<=40)(hs:∀q∈l,rs q<=1048576):Qd Tryz.prog 57 [PV.bO R m l] (· = .bool true):=by
 have vU:R*m<=40*40:=KaY hR hm
 have h:=ad7 (r:=(R:Int)) (c:=(m:Int)) (l:=l.map qR) ⟨by rw[Kap];omega,qb.of hs⟩
 rw[<-vg,IZ hl hR hm]at h
 exact h
end Go.Proofs.YtkoclfmjlolkhaaGreat
namespace Go.FW
open Go
theorem xe{a b:Rat}(h:b≠0):rs (a/b)<=rs a+rs b:=by
 rw[KbA]
 have:=eX a b⁻¹
 have:=FE b h
 omega
theorem xb(a b:Rat):rs (a-b)<=rs a+rs b+1:=by
 rw[KcI]
 have:=ki a (-b)
 rw[qE]at this
 exact this
theorem ahL{R w B:Nat}{E:ox}{k:Nat}(hk:k<w)(hB:1<=B)(hM:eV B R w E.M)(hd:rs E.cr<=B)(hm:E.ax.length<=R):eV (5*B) R w (dM R E k).M/\rs (dM R E k).cr<=5*B:=by
 unfold dM
 split
 ·exact⟨fun r hr c hc=>by have:=hM r hr c hc;omega,by omega⟩
 ·rename_i hp
  have h1:=y6 E.M k (R-E.ax.length) E.ax.length
  obtain⟨i,hi⟩:∃i,dX E.M R k E.ax.length=i:=⟨_,rfl⟩
  have wa:E.ax.length<=i/\i<=R:=by
   rw[<-hi];unfold dX;omega
  rw[hi]at hp⊢
  have wb:i<R:=by omega
  have aA:E.M i k≠0:=by
   have:=Bo E.M k (R-E.ax.length) E.ax.length (by unfold dX at hi;rw[hi];omega)
   unfold dX at hi
   rwa[hi]at this
  have GF:=hM i wb k hk
  generalize CL:E.ax.length=m at *
  have kF:m<R:=by omega
  have hS:∀r,r<R->∀c,c<w->rs (cz E.M i m r c)<=B:=fun r hr c hc=>by
   unfold cz
   split
   ·exact hM i wb c hc
   ·split
    ·exact hM m kF c hc
    ·exact hM r hr c hc
  have hN:∀r,r<R->∀c,c<w->rs (di (cz E.M i m) m (E.M i k) r c)<=2*B:=fun r hr c hc=>by
   unfold di
   split
   ·have:=hS m kF c hc
    have:=xe (a:=cz E.M i m m c) aA
    omega
   ·have:=hS r hr c hc;omega
  have Uj:∀r,r<R->r≠m->∀c,c<w->rs (di (cz E.M i m) m (E.M i k) r c)<=B:=fun r hr aH c hc=>by
   unfold di
   rw[if_neg aH];exact hS r hr c hc
  refine⟨fun r hr c hc=> ?_,?_⟩
  ·show rs (mM (di (cz E.M i m) m (E.M i k)) m k r c)<=5*B
   unfold mM
   split
   ·have:=hN m kF c hc;omega
   ·rename_i aH
    have a1:=Uj r hr aH c hc
    have a2:=Uj r hr aH k hk
    have a3:=hN m kF c hc
    generalize di (cz E.M i m) m (E.M i k)=N at *
    have a4:=eX (N r k) (N m c)
    have a5:=xb (N r c) (N r k*N m c)
    omega
  ·show rs ((if i=m then E.cr else -E.cr)*E.M i k)<=5*B
   have uj:rs (if i=m then E.cr else -E.cr)<=B:=by
    split
    ·exact hd
    ·rw[qE];exact hd
   have:=eX (if i=m then E.cr else -E.cr) (E.M i k)
   omega
theorem Pm{R w b:Nat}{M:MF}(hb:1<=b)(hM:eV b R w M):∀k,k<=w->∃s,s<=k/\s<=R/\eV (b*5^s) R w (Qt R M k).M/\rs (Qt R M k).cr<=b*5^s/\(Qt R M k).ax.length=s
 | 0,_=>⟨0,Kaf _,Kbv _,by rw[KcZ,KbG];exact hM,by
   have:=lO
   show rs 1<=b*5^0
   omega,rfl⟩
 | k+1,h=>by
  obtain⟨s,h1,h2,h3,h4,h5⟩:=Pm hb hM k (by omega)
  have fS:1<=b*5^s:=Nat.mul_pos hb (Kbp (by omega))
  have bx:=(kR R M (k+1)).2.1
  show ∃s,s<=k+1/\s<=R/\eV (b*5^s) R w (dM R (Qt R M k) k).M/\rs (dM R (Qt R M k) k).cr<=b*5^s/\(dM R (Qt R M k) k).ax.length=s
  have bx:(dM R (Qt R M k) k).ax.length<=R:=bx
  have bA:=ahL (k:=k) (by omega) fS h3 h4 (by omega)
  by_cases hp:dX (Qt R M k).M R k (Qt R M k).ax.length=R
  ·have e:dM R (Qt R M k) k=Qt R M k:=by unfold dM;rw[if_pos hp]
   rw[e];exact⟨s,by omega,h2,h3,h4,h5⟩
  ·have hl:(dM R (Qt R M k) k).ax.length=s+1:=by
    unfold dM;rw[if_neg hp];simp[h5]
   have hm:b*5^(s+1)=5*(b*5^s):=by rw[Kbr];simp only[KaR,Kbi]
   exact⟨s+1,by omega,by omega,by rw[hm];exact bA.1,by rw[hm];exact bA.2,hl⟩
theorem ahM{R w n b:Nat}{M:MF}(hb:1<=b)(hM:eV b R w M)(hn:n<=w)(h5:R<=5∨n<=5):xt (b*3125) R w n M:=fun k hk=>by
 obtain⟨s,h1,h2,h3,h4,_⟩:=Pm hb hM k (by omega)
 have hs:s<=5:=by omega
 have hp:5^s<=5^5:=KaN (by omega) hs
 have hm:b*5^s<=b*3125:=KaA _ hp
 exact⟨fun r hr c hc=>Kao (h3 r hr c hc) hm,Kao h4 hm⟩
end Go.FW
