/- Part 12 of the proof of SquaresGrams: B2, B3, FwVD. Own lemmas; no conditions. -/
import Derived.Test.YtkoclfmjlolkhaaGreatSquaresGramsPart11
set_option linter.unusedSimpArgs false
set_option linter.unusedVariables false
set_option linter.unnecessarySimpa false
set_option maxRecDepth 100000
namespace Go.Proofs.YtkoclfmjlolkhaaGreat
open Go Go.FW
def c59:SFn:=⟨20,[.t 2],Zr (Zo (.box 1 3 24 (.t 0))<|
 Zo (.mv 2 (.c .nilS)) .nil)<|Zr (Zo (.mv 3 (.c .nilS)) .nil)<| .seq (Zr (Zc 4 0 .nil)<| .block 0<| .loop<| .seq (Zr (Zm 5 4<|
 Zf 6 0 1<|
 Zl 7 1 6<|
 Zb 8 .lss 5 7 .nil)<| .cond (.t 8) .skip (.exit 0))<| .seq (.block 1<| .rg (Zm 11 3<|
 Zo (.bs 12 3 51 [])<|
 Zh 13 3 1<|
 Zm 14 4<|
 Zq 15 false 124 [.t 13,.t 14]<|
 Zo (.app 16 3 56 51 (.t 12) (.t 15))<|
 Zo (.bs 17 1 22 [.t 16])<|
 Zo (.app 18 1 24 22 (.t 11) (.t 17))<|
 Zm 3 18 .nil))<| .rg (Zm 9 4<|
 Zk 10 .add 9 1<|
 Zm 4 10 .nil))<|Zr (Zm 19 3<|
 Zm 2 19 .nil) .ret⟩
theorem Qaq1:Qe Tryz.prog Tryz.f59=some c59.strip:=by kernel_rfl
theorem Qaq2{l:List Rat}{R m i:Nat}(hl:l.length=R*m)(hi:i<R)(hR2:R<=40)(hm:m<=40):Qd Tryz.prog 124 [PV.mat R m l,.int .i64 (i:Nat)] (· = .sl 3 (Qad PV.rat (Qai l m i) m)):=by
 have hb1:(i+1)*m<=R*m:=Nat.mul_le_mul_right _ hi
 have hb2:i*m<=(i+1)*m:=Nat.mul_le_mul_right _ (by omega)
 have e1:(i:Int)*(m:Int)=((i*m:Nat):Int):=by rw[Int.natCast_mul]
 have e2:((i:Int)+1)*(m:Int)=(((i+1)*m:Nat):Int):=by rw[Int.natCast_mul];rfl
 have hcr:=Qxs hl hi
 have hRm:R*m<=40*40:=Nat.mul_le_mul hR2 hm
 refine Qf Qq Tryz.func124 rfl Qalk (by simp[c124]) fun C hP=> ?_;simp only[c124,Zo,Zg,Zm,Zc,Zf,Zl,Zh,Zs,Zi,Zb,Zk,Zn,Zu,Zq,Zr,Zz]
 simp+decide (disch:=try exact D2 e1 e2) only[go_sem,e1,e2]
 refine Qc ?_ rfl
 rw[hcr]
theorem Qsw{R m:Nat}{l:List Rat}(hl:l.length=R*m)(hR:R<=40)(hm:m<=40)(hs:∀q∈l,rs q<=1048576):Qd Tryz.prog 57 [PV.mat R m l] (· = .bool true):=by
 have hRm:R*m<=40*40:=Nat.mul_le_mul hR hm
 have h:=Q1p (r:=(R:Int)) (c:=(m:Int)) (l:=l.map qR) ⟨by rw[List.length_map];omega,RRk.of hs⟩
 rw[<-Qiz,Qxt hl hR hm]at h
 exact h
end Go.Proofs.YtkoclfmjlolkhaaGreat
namespace Go.FW
open Go
theorem Qvf{a b:Rat}(h:b≠0):rs (a/b)<=rs a+rs b:=by
 rw[Rat.div_def]
 have:=Qdc a b⁻¹
 have:=Q1f b h
 omega
theorem Qq0(a b:Rat):rs (a-b)<=rs a+rs b+1:=by
 rw[Rat.sub_eq_add_neg]
 have:=Qkd a (-b)
 rw[Qke]at this
 exact this
theorem Qamw{R w B:Nat}{E:Ech}{k:Nat}(hk:k<w)(hB:1<=B)(hM:MBd B R w E.M)(hd:rs E.det<=B)(hm:E.piv.length<=R):MBd (5*B) R w (Qf5 R E k).M/\rs (Qf5 R E k).det<=5*B:=by
 unfold Qf5
 split
 ·exact⟨fun r hr c hc=>by have:=hM r hr c hc;omega,by omega⟩
 ·rename_i hp
  have h1:=Qwo E.M k (R-E.piv.length) E.piv.length
  obtain⟨i,hi⟩:∃i,Qhk E.M R k E.piv.length=i:=⟨_,rfl⟩
  have hi1:E.piv.length<=i/\i<=R:=by
   rw[<-hi];unfold Qhk;omega
  rw[hi]at hp⊢
  have hiR:i<R:=by omega
  have hp0:E.M i k≠0:=by
   have:=Q4k E.M k (R-E.piv.length) E.piv.length (by unfold Qhk at hi;rw[hi];omega)
   unfold Qhk at hi
   rwa[hi]at this
  have hpk:=hM i hiR k hk
  generalize hmm:E.piv.length=m at *
  have hmR:m<R:=by omega
  have hS:∀r,r<R->∀c,c<w->rs (Qd5 E.M i m r c)<=B:=fun r hr c hc=>by
   unfold Qd5
   split
   ·exact hM i hiR c hc
   ·split
    ·exact hM m hmR c hc
    ·exact hM r hr c hc
  have hN:∀r,r<R->∀c,c<w->rs (Qhx (Qd5 E.M i m) m (E.M i k) r c)<=2*B:=fun r hr c hc=>by
   unfold Qhx
   split
   ·have:=hS m hmR c hc
    have:=Qvf (a:=Qd5 E.M i m m c) hp0
    omega
   ·have:=hS r hr c hc;omega
  have hN1:∀r,r<R->r≠m->∀c,c<w->rs (Qhx (Qd5 E.M i m) m (E.M i k) r c)<=B:=fun r hr hne c hc=>by
   unfold Qhx
   rw[if_neg hne];exact hS r hr c hc
  refine⟨fun r hr c hc=> ?_,?_⟩
  ·show rs (Qrm (Qhx (Qd5 E.M i m) m (E.M i k)) m k r c)<=5*B
   unfold Qrm
   split
   ·have:=hN m hmR c hc;omega
   ·rename_i hne
    have a1:=hN1 r hr hne c hc
    have a2:=hN1 r hr hne k hk
    have a3:=hN m hmR c hc
    generalize Qhx (Qd5 E.M i m) m (E.M i k)=N at *
    have a4:=Qdc (N r k) (N m c)
    have a5:=Qq0 (N r c) (N r k*N m c)
    omega
  ·show rs ((if i=m then E.det else -E.det)*E.M i k)<=5*B
   have hdd:rs (if i=m then E.det else -E.det)<=B:=by
    split
    ·exact hd
    ·rw[Qke];exact hd
   have:=Qdc (if i=m then E.det else -E.det) (E.M i k)
   omega
theorem Q4y{R w b:Nat}{M:MF}(hb:1<=b)(hM:MBd b R w M):∀k,k<=w->∃s,s<=k/\s<=R/\MBd (b*5^s) R w (Qbo R M k).M/\rs (Qbo R M k).det<=b*5^s/\(Qbo R M k).piv.length=s
 | 0,_=>⟨0,Nat.le_refl _,Nat.zero_le _,by rw[Nat.pow_zero,Nat.mul_one];exact hM,by
   have:=Qql
   show rs 1<=b*5^0
   omega,rfl⟩
 | k+1,h=>by
  obtain⟨s,h1,h2,h3,h4,h5⟩:=Q4y hb hM k (by omega)
  have hpos:1<=b*5^s:=Nat.mul_pos hb (Nat.pow_pos (by omega))
  have hpl:=(Qo9 R M (k+1)).2.1
  show ∃s,s<=k+1/\s<=R/\MBd (b*5^s) R w (Qf5 R (Qbo R M k) k).M/\rs (Qf5 R (Qbo R M k) k).det<=b*5^s/\(Qf5 R (Qbo R M k) k).piv.length=s
  have hpl:(Qf5 R (Qbo R M k) k).piv.length<=R:=hpl
  have hst:=Qamw (k:=k) (by omega) hpos h3 h4 (by omega)
  by_cases hp:Qhk (Qbo R M k).M R k (Qbo R M k).piv.length=R
  ·have e:Qf5 R (Qbo R M k) k=Qbo R M k:=by unfold Qf5;rw[if_pos hp]
   rw[e];exact⟨s,by omega,h2,h3,h4,h5⟩
  ·have hl:(Qf5 R (Qbo R M k) k).piv.length=s+1:=by
    unfold Qf5;rw[if_neg hp];simp[h5]
   have hm:b*5^(s+1)=5*(b*5^s):=by rw[Nat.pow_succ];simp only[Nat.mul_comm,Nat.mul_left_comm]
   exact⟨s+1,by omega,by omega,by rw[hm];exact hst.1,by rw[hm];exact hst.2,hl⟩
theorem Qamx{R w n b:Nat}{M:MF}(hb:1<=b)(hM:MBd b R w M)(hn:n<=w)(h5:R<=5∨n<=5):Q6p (b*3125) R w n M:=fun k hk=>by
 obtain⟨s,h1,h2,h3,h4,_⟩:=Q4y hb hM k (by omega)
 have hs:s<=5:=by omega
 have hp:5^s<=5^5:=Nat.pow_le_pow_right (by omega) hs
 have hm:b*5^s<=b*3125:=Nat.mul_le_mul_left _ hp
 exact⟨fun r hr c hc=>Nat.le_trans (h3 r hr c hc) hm,Nat.le_trans h4 hm⟩
end Go.FW
