/- Part 10 of the proof of MatrixSolves: B2, FwNL. Own lemmas; no conditions. -/
import Derived.Test.YtkoclfmjlolkhaaGreatMatrixSolvesPart9
set_option linter.unusedSimpArgs false
set_option linter.unusedVariables false
set_option linter.unnecessarySimpa false
set_option maxRecDepth 100000
namespace Go.Proofs.YtkoclfmjlolkhaaGreat
open Go Go.FW
def c59:SFn:=⟨20,[.t 2],Zr (Zo (.box 1 3 24 (.t 0))<|
 Zo (.mv 2 (.c .nilS)) .nil)<|Zr (Zo (.mv 3 (.c .nilS)) .nil)<| .seq (Zr (Zc 4 0 .nil)<| .block 0<| .loop<| .seq (Zr (Zm 5 4<|
 Zf 6 0 1<|
 Zl 7 1 6<|
 Zb 8 .lss 5 7 .nil)<| .cond (.t 8) .skip (.exit 0))<| .seq (.block 1<| .rg (Zm 11 3<|
 Zo (.bs 12 3 51 [])<|
 Zh 13 3 1<|
 Zm 14 4<|
 Zq 15 false 124 [.t 13,.t 14]<|
 Zo (.app 16 3 56 51 (.t 12) (.t 15))<|
 .wk<|Zo (.bs 17 1 22 [.t 16])<|
 Zo (.app 18 1 24 22 (.t 11) (.t 17))<|
 Zm 3 18 .nil))<| .rg (Zm 9 4<|
 Zk 10 .add 9 1<|
 Zm 4 10 .nil))<|Zr (Zm 19 3<|
 Zm 2 19 .nil) .ret⟩
theorem Q38:Qe Tryz.prog Tryz.f59=some c59.strip:=by kernel_rfl
def c60:SFn:=⟨103,[.t 4,.t 5],Zr (Zo (.mv 4 (.c .nilS))<|
 Zo (.mv 5 (.c .nilS)) .nil)<|Zr (Zo (.mv 6 (.c .nilS)) .nil)<| .seq (Zr (Zc 7 0 .nil)<| .block 0<| .loop<| .seq (Zr (Zm 11 7<|
 Zm 12 1<|
 Zb 13 .lss 11 12 .nil)<| .cond (.t 13) .skip (.exit 0))<| .seq (.block 1<|Zr (Zm 16 6<|
 Zn 17 16<|
 Zm 8 17 .nil)<|Zr (Zm 18 8<|
 Zm 9 18 .nil)<| .seq (.block 2<| .loop<| .seq (Zr (Zm 19 9<|
 Zm 20 0<|
 Zn 21 20<|
 Zb 22 .lss 19 21<|
 Zm 23 22<|
 Zg 23 true (.mv 24 (.t 0))<|
 Zg 23 true (.mv 25 (.t 9))<|
 Zg 23 true (.idx 26 1 (.t 24) (.t 25))<|
 Zg 23 true (.ld 27 1 false (.t 26))<|
 Zg 23 true (.mv 28 (.t 7))<|
 Zg 23 true (.idx 29 3 (.t 27) (.t 28))<|
 Zg 23 true (.ld 30 3 true (.t 29))<|
 Zg 23 true (.call (some 31) false (.c (.fn 27 [] [])) [.t 30])<|
 Zg 23 true (.bin 32 .eql false (.t 31) (.c (Zz 0)))<|
 Zo (.pick 33 (.t 23) (.t 32) (.c (.bool false))) .nil)<| .cond (.t 33) .skip (.exit 2))<| .block 3<| .rg (Zm 34 9<|
 Zk 35 .add 34 1<|
 Zm 9 35 .nil))<| .seq (Zr (Zm 36 9<|
 Zm 37 0<|
 Zn 38 37<|
 Zb 39 .eql 36 38 .nil)<| .cond (.t 39) (.exit 1) .skip)<|Zr (Zm 40 0<|
 Zm 41 8<|
 Zm 42 0<|
 Zm 43 9<|
 Zm 44 0<|
 Zm 45 9<|
 Zi 46 1 44 45<|
 Zl 47 1 46<|
 Zm 48 0<|
 Zm 49 8<|
 Zi 50 1 48 49<|
 Zl 51 1 50<|
 Zi 52 1 40 41<|
 Zs 1 52 47<|
 Zi 53 1 42 43<|
 Zs 1 53 51 .nil)<|Zr (Zm 54 0<|
 Zm 55 8<|
 Zm 56 0<|
 Zm 57 8<|
 Zi 58 1 56 57<|
 Zl 59 1 58<|
 Zm 60 0<|
 Zm 61 8<|
 Zi 62 1 60 61<|
 Zl 63 1 62<|
 Zm 64 7<|
 Zi 65 3 63 64<|
 Zh 66 3 65<|
 Zq 67 false 125 [.t 59,.t 66]<|
 Zi 68 1 54 55<|
 Zs 1 68 67 .nil)<| .seq (Zr (Zc 10 0 .nil)<| .block 4<| .loop<| .seq (Zr (Zm 69 10<|
 Zm 70 0<|
 Zn 71 70<|
 Zb 72 .lss 69 71 .nil)<| .cond (.t 72) .skip (.exit 4))<| .seq (.block 5<|Zr (Zm 75 10<|
 Zm 76 8<|
 Zb 77 .neq 75 76 .nil)<| .cond (.t 77) (.rg (Zm 78 0<|
 Zm 79 10<|
 Zm 80 0<|
 Zm 81 10<|
 Zi 82 1 80 81<|
 Zl 83 1 82<|
 Zm 84 0<|
 Zm 85 8<|
 Zi 86 1 84 85<|
 Zl 87 1 86<|
 Zm 88 0<|
 Zm 89 10<|
 Zi 90 1 88 89<|
 Zl 91 1 90<|
 Zm 92 7<|
 Zi 93 3 91 92<|
 Zh 94 3 93<|
 Zq 95 false 126 [.t 83,.t 87,.t 94]<|
 Zi 96 1 78 79<|
 Zs 1 96 95 .nil)) .skip)<| .rg (Zm 73 10<|
 Zk 74 .add 73 1<|
 Zm 10 74 .nil))<| .rg (Zm 97 6<|
 Zm 98 7<|
 Zo (.bs 99 1 3 [.t 98])<|
 Zo (.app 100 1 8 3 (.t 97) (.t 99))<|
 Zm 6 100 .nil))<| .rg (Zm 14 7<|
 Zk 15 .add 14 1<|
 Zm 7 15 .nil))<|Zr (Zm 101 0<|
 Zm 102 6<|
 Zm 4 101<|
 Zm 5 102 .nil) .ret⟩
theorem Qagp:Qe Tryz.prog Tryz.f60=some c60.strip:=by kernel_rfl
theorem Q39{l:List Rat}{R m i:Nat}(hl:l.length=R*m)(hi:i<R)(hR2:R<=40)(hm:m<=40):Qd Tryz.prog 124 [PV.mat R m l,.int .i64 (i:Nat)] (· = .sl 3 (Qh PV.rat (Q3 l m i) m)):=by
 have hb1:(i+1)*m<=R*m:=Nat.mul_le_mul_right _ hi
 have hb2:i*m<=(i+1)*m:=Nat.mul_le_mul_right _ (by omega)
 have e1:(i:Int)*(m:Int)=((i*m:Nat):Int):=by rw[Int.natCast_mul]
 have e2:((i:Int)+1)*(m:Int)=(((i+1)*m:Nat):Int):=by rw[Int.natCast_mul];rfl
 have hcr:=Qtj hl hi
 have hRm:R*m<=40*40:=Nat.mul_le_mul hR2 hm
 refine Qi Qt Tryz.func124 rfl Qac0 (by simp[Q8r]) fun C hP=> ?_;simp only[Q8r,Zo,Zg,Zm,Zc,Zf,Zl,Zh,Zs,Zi,Zb,Zk,Zn,Zu,Zq,Zr,Zz]
 simp+decide (disch:=try exact D2 e1 e2) only[go_sem,e1,e2]
 refine Qc ?_ rfl
 rw[hcr]
theorem Qyp{l:List Rat}{R m:Nat}(hl:l.length=R*m)(hR2:R<=40)(hm:m<=40):
  Qbr Tryz.prog 59 [PV.mat R m l] (fun _=> .undef) hp0 (fun r _ H=>r= .ms 2000000 R/\H 2000000=some ⟨1,22,Qh (PV.rowD m) (Q3 l m) R,false⟩):=by
 refine Qdb Qt Tryz.func59 rfl Q38 (by simp[c59]) fun C hP=> ?_;simp only[c59,Zo,Zg,Zm,Zc,Zf,Zl,Zh,Zs,Zi,Zb,Zk,Zn,Zu,Zq,Zr,Zz]
 simp+decide (disch:=try exact D0) only[go_sem]
 refine Qd6 3 900 1 22 (by omega) T0 ?_
 refine Qai (by repeat (first|exact Qw|exact Qo|exact Qp|exact Qq|exact Qr|apply Qn|apply Qv|apply Qz|apply Q6|apply Q7|apply Qk|apply Qu)) [(3,18)] [12,16,17,18,900] (fun n J hp=>∃i,n=R-i/\i<=R/\J 3= .ms 900 i/\J 4= .int .i64 (i:Nat)/\hp 1=some ⟨3,24,[PV.mat R m l],false⟩/\hp 900=some ⟨1,22,(List.range i).map (fun r=> .sl 3 (Qh PV.rat (Q3 l m r) m)),false⟩/\hp 2000000=none) R ?_ ?_
 ·refine⟨0,rfl,by omega,?_⟩
  simp+decide (disch:=try exact D0) only[go_sem]
  exact⟨rfl,rfl⟩
 rintro _ J h ⟨i,rfl,hi,h3,h4,h1,hh,hn⟩
 simp+decide (disch:=try exact D3 h3 h4 h1) only[go_sem,h3,h4,h1]
 refine Qb (fun hg=> ?_) (fun hg=> ?_)
 ·have hi':i<R:=by omega
  have c1:=Q39 hl hi' hR2 hm
  have hml:((List.range m).map (Q3 l m i)).length=m:=by simp
  rw[Qfe]at c1
  simp+decide (disch:=try exact D3 h3 h4 h1) only[go_sem,h3,h4,h1]
  rw[bs0 (by omega)]
  simp+decide (disch:=try exact D3 h3 h4 h1) only[go_sem,h3,h4,h1]
  refine Qa hP c1 rfl rfl rfl ?_
  simp+decide (disch:=try exact D3 h3 h4 h1) only[go_sem,h3,h4,h1]
  rw[Qi7 (n:=0) (f:=PV.rat) (xs:=[]) (ys:=(List.range m).map (Q3 l m i)) T0 rfl (by omega) (by omega) (by omega)]
  simp+decide (disch:=try exact D3 h3 h4 h1) only[go_sem,h3,h4,h1]
  refine Qch (Wk.refl _ _) ?_
  simp+decide (disch:=try exact D3 h3 h4 h1) only[go_sem,h3,h4,h1]
  rw[Q9n (e':=3) (ty':=51) (xs:=((List.range m).map (Q3 l m i)).map PV.rat) (fz:=false) T0,List.take_of_length_le (by simp)]
  simp+decide (disch:=try exact D3 h3 h4 h1) only[go_sem,h3,h4,h1]
  rw[Qaz (f:=fun r=>PV.sl 3 (Qh PV.rat (Q3 l m r) m)) (y:=i) (xs:=List.range i) (ty':=22) (fz:=false) (U1 hh) (by simp+decide (disch:=first|omega|rfl|(simp+decide only[go_sem,Qfe,Qac,List.contains_cons,List.contains_nil,List.flatMap_cons,List.flatMap_nil,List.append_nil]<;>rfl)|fail) only[go_sem,Qfe,Qac,List.contains_cons,List.contains_nil,List.flatMap_cons,List.flatMap_nil,List.append_nil]) (by omega) (by simp) (by omega) (by omega)]
  simp+decide (disch:=try exact D3 h3 h4 h1) only[go_sem,h3,h4,h1]
  refine Qab (R-(i+1)) (by omega) ⟨i+1,rfl,by omega,?_⟩
  simp+decide (disch:=try exact E2 h1 hn) only[go_sem,h1,hn,Qac,List.contains_cons,List.contains_nil,List.flatMap_cons,List.flatMap_nil,List.append_nil]
  trace_state
 ·obtain rfl:i=R:=by omega
  simp+decide (disch:=try exact D2 h3 hh) only[go_sem,h3,hh]
  refine Qyf (Qiy 900 2000000 (T1 hn) (by omega) rfl (by omega)) ?_
  refine Qmv ?_
  simp+decide (disch:=try exact D2 h3 hh) only[go_sem,h3,hh]
  rfl
theorem Qm5{M:MF}{R w n K ty:Nat}(hR2:R<=40)(hw:w<=40)(hn:n<=w)(hK:K<=2^20)(hB:Qhh K R w n M):
  Qbr Tryz.prog 60 [.ms 2000000 R,.int .i64 (n:Nat)] (fun _=> .undef) (Qg hp0 2000000 ⟨1,ty,Qh (PV.rowD w) M R,false⟩)
   (fun r _ _=>r= .tup [.sl 1 (Qh (PV.rowD w) (Qaf R M n).M R),.sl 1 (Qeg (Qaf R M n).piv)]):=by
 refine Qdb Qt Tryz.func60 rfl Qagp (by simp[c60]) fun C hP=> ?_;simp only[c60,Zo,Zg,Zm,Zc,Zf,Zl,Zh,Zs,Zi,Zb,Zk,Zn,Zu,Zq,Zr,Zz]
 simp+decide (disch:=try exact D0) only[go_sem]
 refine Qd6 6 900 1 3 (by omega) T0 ?_
 refine Qat (by repeat (first|exact Qw|exact Qo|exact Qp|exact Qq|exact Qr|apply Qn|apply Qv|apply Qz|apply Q6|apply Q7|apply Qk|apply Qu)) [(0,0),(6,100)] [99,100,900] (fun q J hp=>∃k,q=n-k/\k<=n/\J 0= .ms 2000000 R/\J 6= .ms 900 (Qaf R M k).piv.length/\J 7= .int .i64 (k:Nat)/\hp 2000000=some ⟨1,ty,Qh (PV.rowD w) (Qaf R M k).M R,false⟩/\hp 900=some ⟨1,3,(Qaf R M k).piv.map (fun k:Nat=>PV.int .i64 (k:Nat)),false⟩) n ?_ ?_
 ·refine⟨0,rfl,by omega,?_⟩
  simp+decide (disch:=try exact D0) only[go_sem]
  exact⟨rfl,rfl,rfl,rfl⟩
 rintro _ J h ⟨k,rfl,hk,j0,j6,j7,hr,hpv⟩
 simp+decide (disch:=try exact D3 j0 j6 j7) only[go_sem,j0,j6,j7]
 refine Qb (fun hc=> ?_) (fun hc=> ?_)
 ·have hk':k<n:=by omega
  have hkw:k<w:=by omega
  have hB0:=hB k hk
  have hB1:=hB (k+1) hk'
  have hpl:=Qdn R M k
  have hS:Qaf R M (k+1)=Qdm R (Qaf R M k) k:=rfl
  obtain⟨E,hE⟩:∃E,Qaf R M k=E:=⟨_,rfl⟩
  rw[hS]at hB1
  rw[hE]at hB0 hB1 hpl j6 hr hpv hS
  simp+decide (disch:=try exact D3 j0 j6 j7) only[go_sem,j0,j6,j7]
  refine Qat (by repeat (first|exact Qw|exact Qo|exact Qp|exact Qq|exact Qr|apply Qn|apply Qv|apply Qz|apply Q6|apply Q7|apply Qk|apply Qu)) [(0,0),(9,9),(19,35)] [] (fun q J hp=>∃i,q=R-i/\E.piv.length<=i/\i<=R/\Qjy E.M k (R-i) i=Qfs E.M R k E.piv.length/\J 0= .ms 2000000 R/\J 9= .int .i64 (i:Nat)/\h=hp) (R-E.piv.length) ?_ ?_
  ·refine⟨E.piv.length,rfl,Nat.le_refl _,hpl.2.1,rfl,?_⟩
   simp+decide (disch:=try exact D1 j0) only[go_sem,j0]
  rintro _ J2 _ ⟨i,rfl,hi1,hi2,hpi,i0,i9,rfl⟩
  simp+decide (disch:=try exact D2 i0 i9) only[go_sem,i0,i9]
  refine Qbq (fun hg1=> ?_) (fun hg1=> ?_)
  ·have hi:i<R:=by omega
   simp+decide (disch:=try exact D5 i0 i9 hr j6 j7) only[go_sem,i0,i9,hr,j6,j7]
   refine Qa hP (Qtn (a:=E.M i k) (by have:=hB0.1 i hi k hkw;omega)) rfl rfl rfl ?_
   simp+decide (disch:=try exact D5 i0 i9 hr j6 j7) only[go_sem,i0,i9,hr,j6,j7]
   refine Qb (fun hz=> ?_) (fun hz=> ?_)
   ·simp+decide (disch:=try exact D1 i9) only[go_sem,i9]
    refine Qak (R-(i+1)) (by omega) ⟨i+1,rfl,by omega,by omega,?_⟩
    simp+decide (disch:=try exact D1 i0) only[go_sem,i0]
    rw[<-hpi,show R-i=(R-(i+1))+1 by omega]
    exact(if_pos (Qb8.1 hz)).symm
   ·have hM0:E.M i k≠0:=fun e=>hz (Qb8.2 e)
    have hpe:Qfs E.M R k E.piv.length=i:=by
     rw[<-hpi,show R-i=(R-(i+1))+1 by omega]
     exact if_neg hM0
    generalize hm:E.piv.length=m at *
    have hmR:m<R:=by omega
    have hS2:Qdm R E k=⟨Qh6 (Qek (Qb4 E.M i m) m (E.M i k)) m k,E.piv++[k],(if i=m then E.det else -E.det)*E.M i k⟩:=by
     unfold Qdm;rw[hm,hpe,if_neg (by omega)]
    rw[hS2]at hB1 hS
    have hpk:=hB0.1 i hi k hkw
    simp+decide (disch:=first|exact D7 i0 i9 j6 j7 hr (show ¬i=R from by omega) (show ¬((i:Int)=(R:Int))from by omega)|fail) only[go_sem,i0,i9,j6,j7,hr,show ¬i=R from by omega,show ¬((i:Int)=(R:Int))from by omega]
    rw[Qoy hmR]
    simp+decide (disch:=try exact D4 i0 i9 j6 j7) only[go_sem,i0,i9,j6,j7]
    rw[Qoy hi]
    have hsw:Qh (PV.rowD w) (fun r=>if r=i then E.M m else if r=m then E.M i else E.M r) R=Qh (PV.rowD w) (Qb4 E.M i m) R:=Qff fun r hr c hc=>by
     unfold Qb4
     by_cases e:r=m
     ·subst e
      rw[if_pos rfl,if_pos rfl]
      by_cases e2:r=i
      ·subst e2;rw[if_pos rfl]
      ·rw[if_neg e2]
     ·rw[if_neg e,if_neg e]
    rw[hsw]
    have hsm:Qb4 E.M i m m=E.M i:=by unfold Qb4;rw[if_pos rfl]
    simp+decide (disch:=try exact D5 i0 i9 j6 j7 hsm) only[go_sem,i0,i9,j6,j7,hsm]
    refine Qa hP (Qadg (x:=E.M i) (c:=E.M i k) (k:=K) (by omega) (fun c hc=>hB0.1 i hi c hc) hpk hM0 (by omega)) rfl rfl rfl ?_
    simp+decide (disch:=try exact D5 i0 i9 j6 j7 hsm) only[go_sem,i0,i9,j6,j7,hsm]
    rw[show PV.sl 3 (Qh PV.rat (fun c=>E.M i c/E.M i k) w)=PV.rowD w (fun c=>E.M i c/E.M i k)from rfl,Qoy hmR]
    have hno:Qh (PV.rowD w) (fun r=>if r=m then fun c=>E.M i c/E.M i k else Qb4 E.M i m r) R=Qh (PV.rowD w) (Qek (Qb4 E.M i m) m (E.M i k)) R:=Qff fun r hr c hc=>by
     unfold Qek
     by_cases e:r=m
     ·rw[if_pos e,if_pos e,hsm]
     ·rw[if_neg e,if_neg e]
    rw[hno]
    obtain⟨N,hN2⟩:∃N,Qek (Qb4 E.M i m) m (E.M i k)=N:=⟨_,rfl⟩
    rw[hN2]at hB1 hS⊢
    have hNm:∀c',c'<w->rs (N m c')<=K:=fun c' hc'=>by
     simpa only[Qh6,if_true]using hB1.1 m hmR c' hc'
    have hNr:∀r',r'<R->r'≠m->∀c',c'<w->rs (N r' c')<=K:=fun r' hr' hne c' hc'=>by
     rw[<-hN2]
     unfold Qek Qb4
     rw[if_neg hne,if_neg hne]
     split
     ·exact hB0.1 m hmR c' hc'
     ·exact hB0.1 r' hr' c' hc'
    simp+decide (disch:=try exact D4 i0 i9 j6 j7) only[go_sem,i0,i9,j6,j7]
    simp (disch:=decide) only[Qce,Qci,Qcf,Qct]
    refine Qat (by repeat (first|exact Qw|exact Qo|exact Qp|exact Qq|exact Qr|apply Qn|apply Qv|apply Qz|apply Q6|apply Q7|apply Qk|apply Qu)) [(0,0),(10,10),(69,96)] [] (fun q J hp=>∃r,q=R-r/\r<=R/\J 0= .ms 2000000 R/\J 10= .int .i64 (r:Nat)/\hp 2000000=some ⟨1,ty,Qh (PV.rowD w) (fun r' c'=>if r'=m∨r<=r' then N r' c' else N r' c'-N r' k*N m c') R,false⟩/\hp 900=some ⟨1,3,E.piv.map (fun k:Nat=>PV.int .i64 (k:Nat)),false⟩) R ?_ ?_
    ·refine⟨0,rfl,by omega,?_⟩
     simp+decide (disch:=try exact D2 i0 hpv) only[go_sem,i0,hpv]
     refine⟨rfl,Qm2 (Qff fun r hr c hc=>(if_pos (.inr (by omega))).symm)⟩
    rintro _ J5 h3 ⟨r,rfl,hr2,u0,u10,v1,v2⟩
    simp+decide (disch:=try exact D2 u0 u10) only[go_sem,u0,u10]
    refine Qb (fun hrR=> ?_) (fun hrR=> ?_)
    ·have hr1:r<R:=by omega
     simp+decide (disch:=try exact D3 u0 u10 j6) only[go_sem,u0,u10,j6]
     refine Qb (fun hrm=> ?_) (fun hrm=> ?_)
     ·have e0:¬r=m:=by omega
      have f1:Qh (PV.rowD w) (fun r' c'=>if r'=m∨r<=r' then N r' c' else N r' c'-N r' k*N m c') R=Qh (PV.rowD w) (fun r'=>if r'=m∨r<=r' then N r' else fun c'=>N r' c'-N r' k*N m c') R:=Qff fun r' _ c' _=>by
       by_cases e:r'=m∨r<=r'
       ·rw[if_pos e,if_pos e]
       ·rw[if_neg e,if_neg e]
      rw[f1]at v1
      obtain⟨Z,hZ⟩:∃Z:MF,(fun r'=>if r'=m∨r<=r' then N r' else fun c'=>N r' c'-N r' k*N m c')=Z:=⟨_,rfl⟩
      have g1:Z r=N r:=by rw[<-hZ];exact if_pos (.inr (Nat.le_refl r))
      have g2:Z m=N m:=by rw[<-hZ];exact if_pos (.inl rfl)
      rw[hZ]at v1
      have ls:=Qadf (w:=w) (x:=N r) (y:=N m) (c:=N r k) (k:=K) (by omega) (hNr r hr1 e0) hNm (hNr r hr1 e0 k hkw) (by omega)
      simp+decide (disch:=try exact D8 u0 u10 v1 v2 j6 j7 g1 g2) only[go_sem,u0,u10,v1,v2,j6,j7,g1,g2]
      refine Qa hP ls rfl rfl rfl ?_
      simp+decide (disch:=try exact D8 u0 u10 v1 v2 j6 j7 g1 g2) only[go_sem,u0,u10,v1,v2,j6,j7,g1,g2]
      rw[show PV.sl 3 (Qh PV.rat (fun i=>N r i-N r k*N m i) w)=PV.rowD w (fun i=>N r i-N r k*N m i)from rfl,Qoy hr1]
      simp+decide (disch:=try exact D3 u0 u10 v2) only[go_sem,u0,u10,v2]
      refine Qak (R-(r+1)) (by omega) ⟨r+1,rfl,by omega,?_⟩
      simp+decide (disch:=try exact D3 u0 u10 v2) only[go_sem,u0,u10,v2]
      refine Qm2 (Qff fun r' hr' c' hc'=> ?_)
      by_cases e:r'=r
      ·subst e
       rw[if_pos rfl,if_neg (by omega)]
      ·rw[if_neg e,<-hZ]
       show(if r'=m∨r<=r' then N r' else fun c'=>N r' c'-N r' k*N m c') c'=_
       by_cases e2:r'=m∨r<=r'
       ·rw[if_pos e2,if_pos (by omega)]
       ·rw[if_neg e2,if_neg (by omega)]
     ·obtain rfl:r=m:=by omega
      simp+decide (disch:=try exact D1 u10) only[go_sem,u10]
      refine Qak (R-(r+1)) (by omega) ⟨r+1,rfl,by omega,?_⟩
      simp+decide (disch:=try exact D3 u0 v1 v2) only[go_sem,u0,v1,v2]
      refine Qm2 (Qff fun r' hr' c' hc'=> ?_)
      by_cases e:r'=r
      ·rw[if_pos (.inl e),if_pos (.inl e)]
      ·by_cases e2:r<=r'
       ·rw[if_pos (.inr e2),if_pos (.inr (by omega))]
       ·rw[if_neg (by omega),if_neg (by omega)]
    ·have hrR':r=R:=by omega
     have hfin:Qh (PV.rowD w) (fun r' c'=>if r'=m∨r<=r' then N r' c' else N r' c'-N r' k*N m c') R=Qh (PV.rowD w) (Qh6 N m k) R:=Qff fun r' hr' c' hc'=>by
      unfold Qh6
      by_cases e:r'=m
      ·rw[if_pos (.inl e),if_pos e,e]
      ·rw[if_neg (by omega),if_neg e]
     rw[hfin]at v1
     simp (disch:=decide) only[Qce,Qci,Qcf,Qct]
     simp+decide (disch:=try exact D5 u0 v1 v2 j6 j7) only[go_sem,u0,v1,v2,j6,j7]
     rw[Qaz (f:=fun k:Nat=>PV.int .i64 (k:Nat)) (y:=k) (xs:=E.piv) (ty':=3) (fz:=false) (T1 v2) T0 (by omega) hm.symm (by omega) (by omega)]
     simp+decide (disch:=try exact D5 u0 v1 v2 j6 j7) only[go_sem,u0,v1,v2,j6,j7]
     refine Qak (n-(k+1)) (by omega) ⟨k+1,rfl,by omega,?_⟩
     rw[hS]
     simp+decide (disch:=try exact D2 u0 v1) only[go_sem,u0,v1]
     simp[hm]
  ·have hiR:i=R:=by omega
   subst hiR
   simp+decide (disch:=try exact D4 i0 i9 j6 j7) only[go_sem,i0,i9,j6,j7]
   have e1:Qdm i E k=E:=by
    unfold Qdm
    rw[if_pos]
    rw[<-hpi,Nat.sub_self];rfl
   simp (disch:=decide) only[Qce,Qci,Qcf,Qct]
   refine Qak (n-(k+1)) (by omega) ⟨k+1,rfl,by omega,?_⟩
   rw[hS,e1]
   simp+decide (disch:=try exact D4 i0 hr hpv j6) only[go_sem,i0,hr,hpv,j6]
 ·obtain rfl:k=n:=by omega
  simp+decide (disch:=try exact D4 j0 j6 hr hpv) only[go_sem,j0,j6,hr,hpv]
  refine Qd4 ?_
  simp+decide (disch:=try exact E2 hr hpv) only[go_sem,Qac,List.contains_cons,List.contains_nil,List.flatMap_cons,List.flatMap_nil,List.append_nil,hr,hpv]
  rw[List.take_of_length_le (by rw[Qaa];omega),List.take_of_length_le (by simp)]
  exact Qb2 rfl rfl rfl (Qy _) (Qy _)
end Go.Proofs.YtkoclfmjlolkhaaGreat
namespace Go.FW
open Go
variable {C : Ctx} {ρ : Nat -> Option Nat} {fr : Fr} {hp : HP} {w : World} {K R : Qf}
theorem Qagq{β n d ty γ:Nat}(hβ:5000000<=β)(hγ:γ=4000000+d):bsK 1 ty [.ms β n] d fr hp K=K (upd (upd (Qb3 γ fr) γ (.nst γ 1 ty [.mso β 0 n])) d (.nso γ 0 1)) (Qg hp γ ⟨1,ty,[],false⟩):=by
 subst hγ
 have hb:Qfo [.mso β 0 n]=true:=by simp[Qfo,Qcl,hβ]
 unfold bsK bsN nmN
 rw[if_pos hb]
 simp
theorem Q86{by_ ty ty' δ β m d γ:Nat}(hδ:fr δ= .nst δ 1 ty' [.mso β 0 m])(hβ:5000000<=β)(hγ:γ=4000000+d)(hb:by_<=140737488355328):
  Qdr 1 by_ ty .nilS (.nso δ 0 1) d fr hp K=K (upd (upd (Qb3 γ fr) γ (.nst γ 1 ty [.mso β 0 m])) d (.nso γ 0 1)) (Qg hp γ ⟨1,ty,[],false⟩):=by
 subst hγ
 unfold Qdr Qnh nmN
 simp[Qc1,hδ,Qcl,hβ,hb]
theorem Qadl{by_ ty ty' δ β m d γ k e0 ty0:Nat}{xs0:List PV}{L:List (Nat×Nat)}(hδ:fr δ= .nst δ 1 ty' [.mso β 0 m])(hβ:5000000<=β)(hg:fr γ= .nst γ 1 ty (Qx L))(h2:2000000<=γ)(h5:γ<5000000)
  (hh:hp γ=some ⟨e0,ty0,xs0,false⟩) (hk:k=L.length) (hL:∀x∈L,5000000<=x.1) (hb:(k+1)*by_<=140737488355328) (hm:k+1<=9223372036854775807):
  Qdr 1 by_ ty (.nso γ 0 k) (.nso δ 0 1) d fr hp K=K (upd (upd (Qb3 γ fr) γ (.nst γ 1 ty (Qx (L++[(β,m)])))) d (.nso γ 0 (k+1))) (Qg hp γ ⟨1,ty,[],false⟩):=by
 have hy:isY γ=false:=by simp[isY];omega
 have ha:(Qx L).all Qcl=true:=by
  rw[List.all_eq_true]
  intro x hx
  obtain⟨y,hy,rfl⟩:=List.mem_map.1 hx
  simp[Qcl,hL y hy]
 have hl:k=(Qx L).length:=by simpa[Qx]using hk
 have hr:Qx (L++[(β,m)])=Qx L++[.mso β 0 m]:=by simp[Qx]
 rw[hr]
 unfold Qdr Qnh
 simp[Qc1,hδ,hg,Qcl,hβ,h5,hy,<-hl,ha,hb,hm,hh]
theorem Qadm{γ e ty n:Nat}{xs:List PV}{hb0:HB}(s:Nat)(hfr:fr γ= .nst γ e ty xs)(hsg:fr s= .nso γ 0 n)(h0:hp γ=some hb0)(hn:n<=xs.length)(h2:isY γ=false)(hd:∀x∈xs,x.cells=x.ncells/\x.isData=true/\∀c∈x.ncells,c.isRefC=false):
  Wk fr hp (upd (Qcr γ fr) s (.mso γ 0 n)) (Qg hp γ ⟨e,ty,xs,hb0.fz⟩):=by
 rintro C tmps w ⟨ρ,hs⟩
 have hsl:=hs.slots γ
 rw[hfr]at hsl
 obtain⟨k0,he,b,hb,cur,cap,k1,k2,k3,k4,k5,k6,k7,k8,k9,k10,k11⟩:=hsl
 obtain rfl:hb=hb0:=by rw[k2]at h0;exact Option.some.inj h0
 obtain⟨hp',hpE⟩:∃f,f=Qg hp γ ⟨e,ty,xs,hb.fz⟩:=⟨_,rfl⟩
 rw[<-hpE]
 have pγ:hp' γ=some ⟨e,ty,xs,hb.fz⟩:=by rw[hpE];simp[Qg]
 have po:∀β,β≠γ->hp' β=hp β:=fun β hβ=>by rw[hpE];simp[Qg,hβ]
 have hX:∀c,Xof C ρ hp' c->Xof C ρ hp c:=by
  rintro c (hx|⟨β,hb',g1,g2,g3⟩)
  ·exact .inl hx
  ·by_cases hβ:β=γ
   ·subst hβ;rw[pγ]at g1;cases g1;exact .inr ⟨β,hb,k2,g2,g3⟩
   ·rw[po β hβ]at g1;exact .inr ⟨β,hb',g1,g2,g3⟩
 have hst:Qgq w w (Xof C ρ hp) (Xof C ρ hp'):=⟨fun _ _ _=>rfl,fun c _ hn h=>hn (hX c h),Nat.le_refl _⟩
 have c1:∀β,β≠γ->Cnd ρ ρ hp hp' w w β:=fun β hβ=>⟨rfl,fun hb hq=>⟨hb,by rw[po β hβ];exact hq,rfl,Nat.le_refl _,fun _ _ _ h=>h,fun h=>⟨h,rfl,fun _ _=>rfl⟩⟩⟩
 have c0:∀β,Ql1 ρ ρ hp hp' w w β:=fun β=>by
  by_cases hβ:β=γ
  ·subst hβ
   refine⟨rfl,fun hb1 hq=>⟨_,pγ,?_,?_,fun _ _ _ h=>h⟩⟩
   ·rw[k2]at hq;cases hq;exact k4.symm
   ·rw[k2]at hq;cases hq;rw[k3];exact Nat.zero_le _
  ·exact(c1 β hβ).weak
 have hown:=hs.own γ hb k2
 refine⟨ρ,hs.sz,hs.ext,hs.keep,fun β hb1 hβ=> ?_,fun β δ c g1 g2 g3 g4=> ?_,fun i=> ?_⟩
 ·by_cases hq:β=γ
  ·subst hq
   rw[pγ]at hβ;cases hβ
   refine⟨he,fun i x hx=> ?_,?_,(fun h=>by rw[h2]at h;cases h),fun h=>hown.ro h⟩
   ·obtain⟨d1,d2,_⟩:=hd x (List.mem_of_getElem? hx)
    exact⟨by rw[d1];exact k10 i x hx,d2⟩
   ·have hblk:=hown.blk
    rw[k1]at hblk⊢
    refine⟨hblk.1,hblk.2.1,cur,cap,k6,k7,k8,k9,fun i x hx j y hy=> ?_⟩
    obtain⟨d1,_,d3⟩:=hd x (List.mem_of_getElem? hx)
    rw[d1]at hy
    exact((k11 i x hx j y hy).toC (d3 y (List.mem_of_getElem? hy))).sub hX
  ·rw[po β hq]at hβ
   obtain⟨q1,q2,q3,q4,q5⟩:=hs.own β hb1 hβ
   refine⟨q1,q2,?_,q4,q5⟩
   cases hr:ρ β with
   |none=>rw[hr]at q3;exact q3
   |some c=>rw[hr]at q3;exact⟨q3.1,q3.2.1,q3.2.2.move rfl rfl rfl rfl hst.rc⟩
 ·have f:∀β,hp' β≠none->hp β≠none:=fun β hβ=>by
   by_cases hq:β=γ
   ·subst hq;simp[k2]
   ·rwa[po β hq]at hβ
  exact hs.inj β δ c (f β g1) (f δ g2) g3 g4
 ·unfold upd
  split
  ·rename_i hi;subst hi
   have hsl:=hs.slots i
   rw[hsg]at hsl
   obtain⟨_,hb',b',cap',g1,g2,g3,g4,g5,_⟩:=hsl
   rw[k2]at g1;cases g1
   exact⟨_,pγ,by simpa using hn,.inr ⟨b',cap',g2,by rw[g3,k4],by rw[k4]at g4;exact g4,g5⟩⟩
  ·have hsl:=hs.slots i
   show Qm C ρ hp' w (Qcg γ (fr i)) _
   by_cases hn:∃e' ty' ys,fr i= .nst γ e' ty' ys
   ·obtain⟨e',ty',ys,hq⟩:=hn
    rw[hq];simp only[Qcg,if_true];trivial
   ·have e1:Qcg γ (fr i)=fr i:=by
     cases hq:fr i with
     |nst γ' e' ty' ys=>
      simp only[Qcg]
      rw[if_neg]
      intro h;subst h;exact hn ⟨_,_,_,hq⟩
     |_=>rfl
    rw[e1]
    refine hsl.move hst (fun β _=>⟨rfl,(c0 β).h⟩) (fun β _=>c0 β) (fun γ' e' ty' ys hq=>c1 γ' fun h=>by subst h;exact hn ⟨_,_,_,hq⟩)
theorem Qadn{k c:Nat}(h:c<5000000):(5000000+k=c)=False:=by simp;omega
theorem Q87{k c:Nat}(h:c<5000000):(c=5000000+k)=False:=by simp;omega
theorem Qado{k j:Nat}:(5000000+k=5000000+j)=(k=j):=by simp
attribute [go_sem] Qadn Q87 Qado
theorem Q88{β δ γ e ty:Nat}{L:List (Nat×Nat)}(hγ:γ≠β)(hL:∀x∈L,x.1≠β):rnP (mvN β δ) (.nst γ e ty (Qx L))= .nst γ e ty (Qx L):=by
 have e1:mvN β δ γ=γ:=by unfold mvN;rw[if_neg hγ]
 simp only[rnP,e1]
 congr 1
 conv=>rhs;rw[<-List.map_id (Qx L)]
 refine List.map_congr_left fun x hx=> ?_
 obtain⟨y,hy,rfl⟩:=List.mem_map.1 hx
 refine Qou (.inr ⟨_,_,rfl⟩) fun β' n' h=> ?_
 cases h;unfold mvN;rw[if_neg (hL y hy)]
theorem Q0q{β γ e ty:Nat}{L:List (Nat×Nat)}(hγ:γ≠β)(hL:∀x∈L,x.1≠β):Qav β (.nst γ e ty (Qx L))= .nst γ e ty (Qx L):=by
 simp only[Qav,if_neg hγ]
 congr 1
 conv=>rhs;rw[<-List.map_id (Qx L)]
 refine List.map_congr_left fun x hx=> ?_
 obtain⟨y,hy,rfl⟩:=List.mem_map.1 hx
 simp[PV.ncells,PV.cells,Qcp,Qdf,hL y hy]
theorem Qoz{B n:Nat}{L:Nat->Nat}{x:Nat×Nat}(h:x∈rws B n L):∃i,i<n/\x=(B+i,L i):=by
 obtain⟨i,hi,rfl⟩:=List.mem_map.1 h
 exact⟨i,List.mem_range.1 hi,rfl⟩
def Qwl(B n:Nat)(hp:HP):HP:=fun x=>if B<=x/\x<B+n then(hp x).map fun hb=>{ hb with fz:=true }else hp x
theorem Qadp{B n x:Nat}(h:x<B):Qwl B n hp x=hp x:=by unfold Qwl;rw[if_neg (by omega)]
theorem Qadq(B n:Nat):Q9 hp ((List.range n).map (B+ ·))=Qwl B n hp:=by
 funext x
 unfold Q9 Qwl
 by_cases h:B<=x/\x<B+n
 ·rw[if_pos h,if_pos (List.contains_iff_mem.2 (List.mem_map.2 ⟨x-B,List.mem_range.2 (by omega),by omega⟩))]
 ·rw[if_neg h,if_neg]
  intro hc
  obtain⟨i,hi,rfl⟩:=List.mem_map.1 (List.contains_iff_mem.1 hc)
  have:=List.mem_range.1 hi
  omega
theorem Q89{γ ty B n m e' tyr:Nat}{ys:Nat->List PV}(hfr:fr γ= .nst γ 1 ty (Qx (rws B n fun _=>m)))(hB:2000000<=B)(hh:∀r,r<n->hp (B+r)=some ⟨e',tyr,ys r,false⟩)(hw:∀r,r<n->(ys r).length=m):
  Wk fr hp (upd fr γ (.nst γ 1 ty (Qh (fun r=>PV.sl e' (ys r)) id n))) (Qwl B n hp):=by
 have h:=Q37 (fr:=fr) (hp:=hp) 1 hfr (fun x hx c hc=>by
  obtain⟨y,hy,rfl⟩:=List.mem_map.1 hx
  obtain⟨i,hi,rfl⟩:=Qoz hy
  rw[show(PV.mso (B+i,m).1 0 (B+i,m).2).ncells=[.mso (B+i) 0 m]from rfl]at hc
  rw[List.mem_singleton.1 hc]
  show isY (B+i)=false
  simp[isY];omega)
 have e1:((Qx (rws B n fun _=>m)).map fun x=>Qcp (x.ncells.map (dsn fr hp 1)))=Qh (fun r=>PV.sl e' (ys r)) id n:=by
  refine List.ext_getElem (by simp[Qx,rws,Qh]) fun j h1 h2=> ?_
  have hj:j<n:=by simpa[Qx,rws]using h1
  simp only[Qx,rws,List.getElem_map,List.getElem_range,PV.ncells,PV.cells,List.map_cons,List.map_nil,Qcp,dsn,hh j hj,List.drop_zero,Qh,id]
  rw[List.take_of_length_le (by rw[hw j hj];exact Nat.le_refl _)]
 have e2:((Qx (rws B n fun _=>m)).flatMap fun x=>x.ncells.flatMap (rch fr 1))=(List.range n).map (B+ ·):=by
  simp only[Qx,rws,List.map_map]
  rw[List.flatMap_map]
  simp only[Function.comp,PV.ncells,PV.cells,List.flatMap_cons,List.flatMap_nil,rch,List.append_nil]
  rw[<-List.map_eq_flatMap]
 rw[e1,e2,Qadq]at h
 exact h
attribute [go_sem] Qadp
end Go.FW
