/- Part 9 of the proof of MatrixSolves: B1, A7, FwNJ, FwVC. Own lemmas; no conditions. -/
import Derived.Test.YtkoclfmjlolkhaaGreatMatrixSolvesPart8
set_option linter.unusedSimpArgs false
set_option linter.unusedVariables false
set_option linter.unnecessarySimpa false
set_option maxRecDepth 100000
namespace Go.Proofs.YtkoclfmjlolkhaaGreat
open Go Go.FW
theorem Qadf{x y:Nat->Rat}{c:Rat}{w k:Nat}(hw:w<=2^30)(hx:∀i,i<w->rs (x i)<=k)(hy:∀i,i<w->rs (y i)<=k)(hc:rs c<=k)(hk:k<=2^32):
  Qd Tryz.prog 126 [.sl 3 (Qh PV.rat x w),.sl 3 (Qh PV.rat y w),PV.rat c] (· = .sl 3 (Qh PV.rat (fun i=>x i-c*y i) w)):=by
 have hrl:(Qh PV.rat x w).length=w:=Qaa _ _ _
 refine Qi Qt Tryz.func126 rfl Qac1 (by simp[Q8s]) fun C hP=> ?_;simp only[Q8s,Zo,Zg,Zm,Zc,Zf,Zl,Zh,Zs,Zi,Zb,Zk,Zn,Zu,Zq,Zr,Zz]
 simp+decide (disch:=try exact D1 hrl) only[go_sem,hrl]
 refine Qd6 7 900 3 51 (by omega) T0 ?_
 refine Qai (by repeat (first|exact Qw|exact Qo|exact Qp|exact Qq|exact Qr|apply Qn|apply Qv|apply Qz|apply Q6|apply Q7|apply Qk)) [(7,28)] [27,28,900] (fun n J hp=>∃i,n=w-i/\i<=w/\J 7= .ms 900 i/\J 8= .int .i64 (i:Nat)/\hp 5=some ⟨3,51,[PV.rat c],false⟩/\hp 900=some ⟨3,51,((List.range i).map fun i=>x i-c*y i).map PV.rat,false⟩) w ?_ ?_
 ·refine⟨0,rfl,by omega,?_⟩
  simp+decide (disch:=try exact D0) only[go_sem]
  exact⟨rfl,rfl⟩
 rintro _ J h ⟨i,rfl,hi,h7,h8,h5,hh⟩
 simp+decide (disch:=try exact D3 h7 h8 hrl) only[go_sem,h7,h8,hrl]
 refine Qb (fun hg=> ?_) (fun hg=> ?_)
 ·have hi':i<w:=by omega
  have h1:=hx i hi'
  have h2:=hy i hi'
  have hm:=Qf2 c (y i)
  simp+decide (disch:=try exact D3 h7 h8 h5) only[go_sem,h7,h8,h5]
  refine Qa hP (Q8p (k:=k) hc h2 (by omega)) rfl rfl rfl ?_
  simp+decide (disch:=try exact D3 h7 h8 h5) only[go_sem,h7,h8,h5]
  refine Qa hP (Q8w (k:=2*k) (by omega) (by omega) (by omega)) rfl rfl rfl ?_
  simp+decide (disch:=try exact D3 h7 h8 h5) only[go_sem,h7,h8,h5]
  rw[Qaz (f:=PV.rat) (y:=x i-c*y i) (xs:=(List.range i).map fun i=>x i-c*y i) (ty':=51) (fz:=false) (T1 hh) Tr0 (by omega) (by simp) (by omega) (by omega)]
  simp+decide (disch:=try exact D3 h7 h8 h5) only[go_sem,h7,h8,h5]
  refine Qab (w-(i+1)) (by omega) ⟨i+1,rfl,by omega,?_⟩
  simp+decide (disch:=try exact D1 h5) only[go_sem,h5]
  simp only[List.map_append,List.map_cons,List.map_nil]
 ·obtain rfl:i=w:=by omega
  simp+decide (disch:=try exact E2 h7 hh) only[go_sem,h7,hh,Qac,List.contains_cons,List.contains_nil,List.flatMap_cons,List.flatMap_nil,List.append_nil]
  refine Qc ?_ rfl
  rw[List.take_of_length_le (by simp),Qfe]
theorem Qadg{x:Nat->Rat}{c:Rat}{w k:Nat}(hw:w<=2^30)(hx:∀i,i<w->rs (x i)<=k)(hc:rs c<=k)(h0:c≠0)(hk:k<=2^32):
  Qd Tryz.prog 125 [.sl 3 (Qh PV.rat x w),PV.rat c] (· = .sl 3 (Qh PV.rat (fun i=>x i/c) w)):=by
 have hrl:(Qh PV.rat x w).length=w:=Qaa _ _ _
 refine Qi Qt Tryz.func125 rfl Qac2 (by simp[Q8t]) fun C hP=> ?_;simp only[Q8t,Zo,Zg,Zm,Zc,Zf,Zl,Zh,Zs,Zi,Zb,Zk,Zn,Zu,Zq,Zr,Zz]
 simp+decide (disch:=try exact D1 hrl) only[go_sem,hrl]
 refine Qd6 5 900 3 51 (by omega) T0 ?_
 refine Qai (by repeat (first|exact Qw|exact Qo|exact Qp|exact Qq|exact Qr|apply Qn|apply Qv|apply Qz|apply Q6|apply Q7|apply Qk)) [(5,27)] [7,26,27,900] (fun n J hp=>∃i,n=w-i/\i<=w/\J 5= .ms 900 i/\J 6= .int .i64 (i:Nat)/\hp 3=some ⟨3,51,[PV.rat c],false⟩/\hp 900=some ⟨3,51,((List.range i).map fun i=>x i/c).map PV.rat,false⟩) w ?_ ?_
 ·refine⟨0,rfl,by omega,?_⟩
  simp+decide (disch:=try exact D0) only[go_sem]
  exact⟨rfl,rfl⟩
 rintro _ J h ⟨i,rfl,hi,h5,h6,h3,hh⟩
 simp+decide (disch:=try exact D3 h5 h6 hrl) only[go_sem,h5,h6,hrl]
 refine Qb (fun hg=> ?_) (fun hg=> ?_)
 ·have hi':i<w:=by omega
  have h1:=hx i hi'
  simp+decide (disch:=try exact D3 h5 h6 h3) only[go_sem,h5,h6,h3]
  have c1:=Q8q (k:=k) h1 hc (by omega) h0
  repeat' first
   |refine Qeu ?_ ?_
   |refine Qa hP c1 rfl rfl rfl ?_
   |simp+decide (disch:=try exact D3 h5 h6 h3) only[go_sem,h5,h6,h3]
  all_goals
   rw[Qaz (f:=PV.rat) (y:=x i/c) (xs:=(List.range i).map fun i=>x i/c) (ty':=51) (fz:=false) (T1 hh) Tr0 (by omega) (by simp) (by omega) (by omega)]
   simp+decide (disch:=try exact D3 h5 h6 h3) only[go_sem,h5,h6,h3]
   refine Qab (w-(i+1)) (by omega) ⟨i+1,rfl,by omega,?_⟩
   simp+decide (disch:=try exact D1 h3) only[go_sem,h3]
   simp only[List.map_append,List.map_cons,List.map_nil]
 ·obtain rfl:i=w:=by omega
  simp+decide (disch:=try exact E2 h5 hh) only[go_sem,h5,hh,Qac,List.contains_cons,List.contains_nil,List.flatMap_cons,List.flatMap_nil,List.append_nil]
  refine Qc ?_ rfl
  rw[List.take_of_length_le (by simp),Qfe]
theorem Qhl{R m:Nat}{l:List Rat}(hl:l.length=R*m)(hR:R<=40)(hm:m<=40)(hs:∀q∈l,rs q<=1048576):Qd Tryz.prog 52 [PV.mat R m l] (· = .bool true):=by
 have hRm:R*m<=40*40:=Nat.mul_le_mul hR hm
 have h:=Qox (r:=(R:Int)) (c:=(m:Int)) (l:=l.map qR) ⟨by rw[List.length_map];omega,RRk.of hs⟩
 rw[<-Qv6,Qn0 hl hR hm]at h
 exact h
theorem Qm4{M:MF}{w n:Nat}(hn:n<=40):Qd Tryz.prog 55 [.sl 1 [],.int .i64 (n:Nat)] (· =PV.ech 0 w (Qaf 0 M n)):=by
 rw[Qrd]
 refine Qcz Qt Tryz.func55 rfl Q3v (by simp[c55]) fun C hP=> ?_;simp only[c55,Zo,Zg,Zm,Zc,Zf,Zl,Zh,Zs,Zi,Zb,Zk,Zn,Zu,Zq,Zr,Zz]
 simp+decide (disch:=try exact D0) only[go_sem]
 refine Qa hP (Qn5 (x:=1) (by omega) (by omega)) rfl rfl rfl ?_
 simp+decide (disch:=try exact D0) only[go_sem]
 refine Qch (Wk.refl _ _) ?_
 refine Qch (Wk.refl _ _) ?_
 simp+decide (disch:=try exact D0) only[go_sem]
 refine Qch (Wk.refl _ _) ?_
 simp+decide (disch:=try exact D0) only[go_sem]
 refine Qai (by repeat (first|exact Qw|exact Qo|exact Qp|exact Qq|exact Qr|apply Qn|apply Qv|apply Qz|apply Q6|apply Q7|apply Qk|apply Qu)) [(6,11),(16,135)] [9,132,133] (fun q J hp=>∃k,q=n-k/\k<=n/\J 16= .int .i64 (k:Nat)/\hp 4=some ⟨5,87,[.agg [.nilS,.nilS,.bool false,.nilS,.nilS]],false⟩/\hp 5=some ⟨5,87,[.agg [.sl 1 [],.nilS,.bool (decide (((1:Int):Rat).num<0)),PV.num ((1:Int):Rat).num.natAbs,PV.num ((1:Int):Rat).den]],false⟩) n ?_ ?_
 ·refine⟨0,rfl,by omega,?_⟩
  simp+decide (disch:=try exact D0) only[go_sem]
  rfl
 rintro _ J h ⟨k,rfl,hk,h16,h4,h5⟩
 simp+decide (disch:=try exact D1 h16) only[go_sem,h16]
 refine Qb (fun hc=> ?_) (fun hc=> ?_)
 ·simp+decide (disch:=try exact D2 h16 h5) only[go_sem,h16,h5]
  refine Qai (by repeat (first|exact Qw|exact Qo|exact Qp|exact Qq|exact Qr|apply Qn|apply Qv|apply Qz|apply Q6|apply Q7|apply Qk|apply Qu)) [(8,8),(23,39)] [] (fun q J hp=>J 8= .int .i64 (0:Nat)/\h=hp) 0 ?_ ?_
  ·simp+decide (disch:=try exact D0) only[go_sem]
   rfl
  rintro _ J2 _ ⟨h8,rfl⟩
  simp+decide (disch:=try exact D1 h8) only[go_sem,h8]
  simp+decide (disch:=try exact D1 h16) only[go_sem,h16]
  simp (disch:=decide) only[Qbu,Qcf]
  refine Qab (n-(k+1)) (by omega) ⟨k+1,rfl,by omega,?_⟩
  simp+decide (disch:=try exact D2 h4 h5) only[go_sem,h4,h5]
 ·simp+decide (disch:=try exact D1 h5) only[go_sem,h5]
  refine Qch (Wk.refl _ _) ?_
  simp+decide (disch:=try exact D2 h5 h4) only[go_sem,h5,h4]
  refine Qb9 (Qa1 ?_)
  simp+decide (disch:=try exact D2 h5 h4) only[go_sem,h5,h4]
  exact⟨rfl,PV.ech 0 w ⟨M,[],1⟩,⟨rfl,trivial,rfl,rfl,rfl,trivial⟩,rfl⟩
def Qgf(R w:Nat)(M:MF)(hp:HP):HP:=fun x=>if x=2000000 then some ⟨1,22,[],false⟩else if 3000000<=x/\x<3000000+R then some ⟨3,51,Qh PV.rat (M (x-3000000)) w,false⟩else hp x
def nmR(R:Nat)(x:Nat):Bool:=decide (x=2000000∨(3000000<=x/\x<3000000+R))
theorem Qh9{R x:Nat}(h:nmR R x=true):x=2000000∨(3000000<=x/\x<3000000+R):=of_decide_eq_true h
theorem Q0p{R x:Nat}(h:nmR R x=false):¬(x=2000000∨(3000000<=x/\x<3000000+R)):=of_decide_eq_false h
theorem Qbc{R x:Nat}(h:x<2000000):nmR R x=false:=decide_eq_false (by omega)
theorem Qdg{R:Nat}:nmR R 2000000=true:=decide_eq_true (.inl rfl)
theorem Qem{R w r:Nat}{M:MF}{hp:HP}(h:r<R):Qgf R w M hp (3000000+r)=some ⟨3,51,Qh PV.rat (M r) w,false⟩:=by
 unfold Qgf
 rw[if_neg (by omega),if_pos ⟨by omega,by omega⟩,Nat.add_sub_cancel_left]
theorem Qgg{R w:Nat}{M:MF}{hp:HP}:Qgf R w M hp 2000000=some ⟨1,22,[],false⟩:=by unfold Qgf;rw[if_pos rfl]
theorem Qay{R w x:Nat}{M:MF}{hp:HP}(h:x<2000000):Qgf R w M hp x=hp x:=by
 unfold Qgf
 rw[if_neg (by omega),if_neg (by omega)]
theorem Qtq{R w:Nat}{π:Nat->Nat}(hπ:∀r,r<R->π r<R){β ty:Nat}(h:β∈(PV.nst 2000000 1 ty (Qx (Qas 3000000 R w π))).refs++(PV.nst 2000000 1 ty (Qx (Qas 3000000 R w π))).sref):nmR R β=true:=by
 refine decide_eq_true ?_
 simp only[PV.refs,PV.sref,List.nil_append,List.mem_cons]at h
 rcases h with rfl|h
 ·exact .inl rfl
 ·obtain⟨r,hr,rfl⟩:=Qmz β h
  have:=hπ r hr
  exact .inr ⟨by omega,by omega⟩
theorem Qkj{C:Ctx}{pr:Bool}{K:Qf}{fr:Fr}{hp:HP}{d:Nat}{l:List Rat}{R m:Nat}(hP:C.P=Tryz.prog)(hl:l.length=R*m)(hR:0<R)(hR2:R<=40)(hm:m<=40)(hd:d≠2000000)(hfree:∀x,nmR R x=true->hp x=none)
  (hK:K (upd (upd fr d (.nso 2000000 0 R)) 2000000 (.nst 2000000 1 22 (Qx (Qas 3000000 R m id)))) (Qgf R m (Q3 l m) hp)):Qcj C pr (.fn 54 [] []) [PV.mat R m l] (some d) fr hp K:=by
 refine Qnz hP (Qri hl hR hR2 hm) (fun _=>false) (nmR R) [2000000] (fun x h=>by cases h) (fun x=>rfl) rfl (by simp) (fun x hx γ e ty xs e2=> ?_) (fun γ hγ=> ?_) (fun s _=> .inl rfl) (fun x hx=> ?_) (fun _ _=>rfl) (fun r F H hpost=> ?_)
 ·rw[List.mem_singleton.1 hx]at e2;cases e2
 ·simp[PV.refs,PV.sref]at hγ
 ·have:=Qh9 hx;exact⟨.inl (hfree x hx),by omega⟩
 ·obtain⟨rfl,h1,h2,h3⟩:=hpost
  rw[Qra]at h1
  have hr:∀β∈(F 2000000).refs++(F 2000000).sref,nmR R β=true:=fun β hβ=>by
   rw[h1]at hβ;exact Qtq (fun r h=>h) hβ
  refine⟨fun x hx=> ?_,(fun γ e ty xs h=>by cases h),fun β hβ=> ?_,fun s hs=> ?_,?_⟩
  ·rcases Qh9 hx with rfl|⟨k1,k2⟩
   ·rw[h2];simp
   ·have:=h3 (x-3000000) (by omega)
    rw[show 3000000+(x-3000000)=x by omega]at this
    rw[this];simp
  ·simp[PV.refs,PV.sref]at hβ;subst hβ;exact decide_eq_true (.inl rfl)
  ·rw[List.mem_singleton.1 hs]
   exact⟨by omega,⟨_,_,_,_,h1,Qmy _⟩,hr⟩
  ·have e1:exF [2000000] F (Qbp (Qdd (fun _=>false) fr) (some d) (.nso 2000000 0 R))=upd (upd fr d (.nso 2000000 0 R)) 2000000 (.nst 2000000 1 22 (Qx (Qas 3000000 R m id))):=by
    funext s
    have hdie:Qdd (fun _=>false) fr=fr:=by
     funext t;simp[Qdd,Qmx]
    rw[hdie]
    by_cases e:s=2000000
    ·subst e;simp[exF,upd,h1]
    ·simp[exF,upd,Qbp,e]
   have e2:exH (fun _=>false) (nmR R) H hp=Qgf R m (Q3 l m) hp:=by
    funext x
    unfold exH Qgf
    cases hq:nmR R x with
    | true=>
     rw[if_pos rfl]
     rcases Qh9 hq with rfl|⟨k1,k2⟩
     ·rw[h2,if_pos rfl]
     ·have:=h3 (x-3000000) (by omega)
      rw[show 3000000+(x-3000000)=x by omega]at this
      rw[this,if_neg (by omega),if_pos ⟨k1,k2⟩]
    |false=>
     have:=Q0p hq
     rw[if_neg (by simp),if_neg (by simp),if_neg (by omega),if_neg (by omega)]
   rw[e1,e2]
   exact hK
theorem Qk5{C:Ctx}{Kt:Qf}{fr:Fr}{hp:HP}{d:Nat}{M:MF}{R w n K ty tyr:Nat}(hP:C.P=Tryz.prog)(hR:0<R)(hR2:R<=40)(hw:w<=40)(hn:n<=w)(hKb:K<=2^20)(hB:Qhh K R w n M)
  (hg:fr 2000000= .nst 2000000 1 ty (Qx (Qas 3000000 R w id))) (h0:hp 2000000=some ⟨1,ty,[],false⟩) (hrow:∀r,r<R->hp (3000000+r)=some ⟨3,tyr,Qh PV.rat (M r) w,false⟩)
  (hK:Kt (upd (Qdd (nmR R) fr) d (PV.ech R w (Qaf R M n))) (fun x=>if nmR R x then none else hp x)):Qcj C false (.fn 55 [] []) [.nso 2000000 0 R,.int .i64 (n:Nat)] (some d) fr hp Kt:=by
 refine Qnz hP (Qwj (ty:=ty) (tyr:=tyr) hR hR2 hw hn hKb hB) (nmR R) (fun _=>false) [] (fun x hx=> ?_) (fun x=> ?_) rfl (by simp) (fun x hx γ e ty xs e2=> ?_) (fun γ hγ=> ?_) (fun s hs=> ?_) (fun x hx=>by cases hx) (fun h=>by cases h) (fun r F H hpost=> ?_)
 ·rcases Qh9 hx with rfl|⟨k1,k2⟩
  ·exact⟨_,h0,rfl,by omega⟩
  ·have:=hrow (x-3000000) (by omega)
   rw[show 3000000+(x-3000000)=x by omega]at this
   exact⟨_,this,rfl,by omega⟩
 ·cases hq:nmR R x with
  | true=>
   rw[if_pos rfl]
   rcases Qh9 hq with rfl|⟨k1,k2⟩
   ·rw[if_pos rfl,h0]
   ·have:=hrow (x-3000000) (by omega)
    rw[show 3000000+(x-3000000)=x by omega]at this
    rw[this,if_neg (by omega),if_pos ⟨k1,k2⟩]
  |false=>
   have:=Q0p hq
   rw[if_neg (by omega),if_neg (by omega)];rfl
 ·simp only[List.mem_cons,List.not_mem_nil,or_false]at hx
  rcases hx with rfl|rfl<;>cases e2
 ·simp[PV.refs,PV.sref]at hγ;subst hγ;exact decide_eq_true (.inl rfl)
 ·by_cases e:s=2000000
  ·subst e
   refine .inr ⟨2000000,1,ty,_,?_,hg,Qmy _,fun γ hγ=> ?_⟩
   ·rw[hg];simp[upd]
   ·rw[hg]at hγ;exact Qtq (fun r h=>h) hγ
  ·left;simp[upd,e]
 ·subst hpost
  refine⟨(fun x hx=>by cases hx),(fun γ e ty xs h=>by cases h),(fun β hβ=>by simp[PV.refs,PV.sref]at hβ),(fun s hs=>by cases hs),?_⟩
  have e1:exF [] F (Qbp (Qdd (nmR R) fr) (some d) (PV.ech R w (Qaf R M n)))=upd (Qdd (nmR R) fr) d (PV.ech R w (Qaf R M n)):=by
   funext s;simp[exF,Qbp]
  have e2:exH (nmR R) (fun _=>false) H hp=fun x=>if nmR R x then none else hp x:=by
   funext x;simp[exH]
  rw[e1,e2]
  exact hK
theorem Qah1{R K:Nat}{l:List Rat}(hl:l.length=R*R)(hR2:R<=40)(hs:∀q∈l,rs q<=1048576)(hK:K<=2^20)(hB:Qhh K R R R (Q3 l R)):Qd Tryz.prog 47 [PV.mat R R l] (· = .tup [PV.rat (Qv7 R (Q3 l R)),.int .i64 0]):=by
 refine Qi Qt Tryz.func47 rfl Qaf4 (by simp[c47]) fun C hP=> ?_;simp only[c47,Zo,Zg,Zm,Zc,Zf,Zl,Zh,Zs,Zi,Zb,Zk,Zn,Zu,Zq,Zr,Zz]
 simp+decide (disch:=try exact D0) only[go_sem]
 refine Qa hP (Qhl hl hR2 hR2 hs) rfl rfl rfl ?_
 simp+decide (disch:=try exact D0) only[go_sem]
 by_cases hR:R=0
 ·subst hR
  have e1:=Qk3 hl hR2 hR2
  have e2:=Qm4 (M:=Q3 l 0) (w:=0) (n:=0) (by omega)
  repeat' first
   |refine Qeu ?_ ?_
   |refine Qa hP e1 rfl rfl rfl ?_
   |refine Qa hP e2 rfl rfl rfl ?_
   |simp+decide (disch:=try exact D0) only[go_sem]
  all_goals
   rw[Qrd]
   simp+decide (disch:=try exact D0) only[go_sem]
   refine Qb1 ?_
   simp+decide (disch:=try exact D0) only[go_sem]
   refine Qb2 ?_ rfl rfl (Qy _) (Qy _)
   unfold Qv7
   rw[Qrd];rfl
 have hR0:0<R:=by omega
 have hfree:∀(hp:HP),(∀x,5<=x->hp x=none)->∀x,nmR R x=true->hp x=none:=fun hp h x hx=>h x (by have:=Qh9 hx;omega)
 repeat' first
  |refine Qeu ?_ ?_
  |refine Qkj hP hl hR0 hR2 hR2 (by omega) (hfree _ (fun x hx=>by simp+decide (disch:=try exact D3 (show ¬x=1 from by omega) (show ¬x=2 from by omega) (show ¬x=4 from by omega)) only[go_sem,show ¬x=1 from by omega,show ¬x=2 from by omega,show ¬x=4 from by omega]<;>rfl)) ?_
  |refine Qk5 (K:=K) (M:=Q3 l R) (ty:=22) (tyr:=51) hP hR0 hR2 hR2 (Nat.le_refl _) hK hB T0 (by simp+decide (disch:=first|omega|rfl|(simp+decide only[go_sem,Qgg]<;>rfl)|fail) only[go_sem,Qgg]) (fun r hr=>by simp+decide (disch:=first|omega|rfl|(simp+decide only[go_sem,Qem]<;>rfl)|fail) only[go_sem,Qem]) ?_
  |simp+decide (disch:=first|omega|rfl|(simp+decide only[go_sem,Qbc,Qdg,Qay]<;>rfl)|fail) only[go_sem,Qbc,Qdg,Qay]
 all_goals
  refine Qb (fun hlt=> ?_) (fun hlt=> ?_)
  ·simp+decide (disch:=first|omega|rfl|(simp+decide only[go_sem,Qbc,Qay]<;>rfl)|fail) only[go_sem,Qbc,Qay]
   refine Qa hP (Qn5 (x:=0) (by omega) (by omega)) rfl rfl rfl ?_
   simp+decide (disch:=first|omega|rfl|(simp+decide only[go_sem,Qbc,Qay]<;>rfl)|fail) only[go_sem,Qbc,Qay]
   refine Qb1 ?_
   simp+decide (disch:=first|omega|rfl|(simp+decide only[go_sem,Qbc,Qay]<;>rfl)|fail) only[go_sem,Qbc,Qay]
   refine Qb2 ?_ rfl rfl (Qy _) (Qy _)
   unfold Qv7
   rw[if_pos (by omega)];rfl
  ·simp+decide (disch:=first|omega|rfl|(simp+decide only[go_sem,Qbc,Qay]<;>rfl)|fail) only[go_sem,Qbc,Qay]
   refine Qb1 ?_
   simp+decide (disch:=first|omega|rfl|(simp+decide only[go_sem,Qbc,Qay]<;>rfl)|fail) only[go_sem,Qbc,Qay]
   refine Qb2 ?_ rfl rfl (Qy _) (Qy _)
   unfold Qv7
   rw[if_neg (by omega)]
end Go.Proofs.YtkoclfmjlolkhaaGreat
namespace Go.FW
open Go
variable {C C' : Ctx} {ρ ρ' : Nat -> Option Nat} {fr fr' : Fr} {hp hp' : HP} {w : World} {K R : Qf}
theorem Q2.toS{p:PV}{v:Value}(h:Q2 w (Xof C ρ hp) p v):Qbl C ρ hp w p v:=by
 cases p with
 |undef=>trivial
 |mso=>cases h
 |nso=>cases h
 |_=>exact h
theorem Q37{γ e ty:Nat}{xs:List PV}(k:Nat)(hfr:fr γ= .nst γ e ty xs)(ho:∀x∈xs,∀c∈x.ncells,okD fr k c):
  Wk fr hp (upd fr γ (.nst γ e ty (xs.map fun x=>Qcp (x.ncells.map (dsn fr hp k))))) (Q9 hp (xs.flatMap fun x=>x.ncells.flatMap (rch fr k))):=by
 rintro C tmps w ⟨ρ,hs⟩
 obtain⟨l,hl⟩:∃l,(xs.flatMap fun x=>x.ncells.flatMap (rch fr k))=l:=⟨_,rfl⟩
 rw[hl]
 have hf:=hs.freeze l
 refine⟨ρ,hf.sz,hf.ext,hf.keep,hf.own,hf.inj,fun i=> ?_⟩
 unfold upd
 split
 ·rename_i hi;subst hi
  have hsl:=hs.slots i
  have hsf:=hf.slots i
  rw[hfr]at hsl hsf
  obtain⟨k0,he,b,hb,cur,cap,k1,k2,k3,k4,k5,k6,k7,k8,k9,k10,_⟩:=hsf
  obtain⟨_,_,b',hb',cur',cap',j1,j2,j3,j4,j5,j6,j7,j8,j9,j10,j11⟩:=hsl
  rw[k1]at j1;cases j1
  rw[k6]at j6;cases j6
  have cel:∀(n:Nat)(x:PV),xs[n]? =some x->∀(j:Nat)(y:PV),x.ncells[j]? =some y->Q2 w (Xof C ρ (Q9 hp l)) (dsn fr hp k y) (cur.getD (n*e+j) undef):=fun n x hx j y hy=>by
   have hxm:=List.mem_of_getElem? hx
   have hym:=List.mem_of_getElem? hy
   refine Qot hs k (j11 n x hx j y hy) (ho x hxm y hym) fun β hβ=> ?_
   rw[<-hl]
   exact List.mem_flatMap.2 ⟨x,hxm,List.mem_flatMap.2 ⟨y,hym,hβ⟩⟩
  have hnc:∀(n:Nat)(x:PV),xs[n]? =some x->(Qcp (x.ncells.map (dsn fr hp k))).ncells=x.ncells.map (dsn fr hp k):=fun n x hx=>by
   refine Qkx fun c hc=> ?_
   obtain⟨y,hy,rfl⟩:=List.mem_map.1 hc
   obtain⟨j,hj⟩:=List.getElem?_of_mem hy
   exact(cel n x hx j y hj).toS.one
  refine⟨k0,he,b,hb,cur,cap,k1,k2,k3,k4,k5,k6,k7,by simpa using k8,k9,fun n x hx=> ?_,fun n x hx j y hy=> ?_⟩
  ·simp only[List.getElem?_map,Option.map_eq_some_iff]at hx
   obtain⟨x0,hx0,rfl⟩:=hx
   rw[hnc n x0 hx0,List.length_map];exact k10 n x0 hx0
  ·simp only[List.getElem?_map,Option.map_eq_some_iff]at hx
   obtain⟨x0,hx0,rfl⟩:=hx
   rw[hnc n x0 hx0,List.getElem?_map,Option.map_eq_some_iff]at hy
   obtain⟨y0,hy0,rfl⟩:=hy
   exact(cel n x0 hx0 j y0 hy0).toS
 ·exact hf.slots i
theorem Qagm{γ e ty:Nat}{xs:List PV}(s:Nat)(hfr:fr γ= .nst γ e ty xs)(hsg:fr s= .np γ 0 0)(h2:isY γ=false)(hd:∀x∈xs,x.cells=x.ncells/\x.isData=true/\∀c∈x.ncells,c.isRefC=false):
  Wk fr hp (upd (Qcr γ fr) s (.mp γ 0 0)) (Qg hp γ ⟨e,ty,xs,true⟩):=by
 rintro C tmps w ⟨ρ,hs⟩
 have hsl:=hs.slots γ
 rw[hfr]at hsl
 obtain⟨k0,he,b,hb,cur,cap,k1,k2,k3,k4,k5,k6,k7,k8,k9,k10,k11⟩:=hsl
 obtain⟨hp',hpE⟩:∃f,f=Qg hp γ ⟨e,ty,xs,true⟩:=⟨_,rfl⟩
 rw[<-hpE]
 have pγ:hp' γ=some ⟨e,ty,xs,true⟩:=by rw[hpE];simp[Qg]
 have po:∀β,β≠γ->hp' β=hp β:=fun β hβ=>by rw[hpE];simp[Qg,hβ]
 have hX:∀c,Xof C ρ hp' c->Xof C ρ hp c:=by
  rintro c (hx|⟨β,hb',g1,g2,g3⟩)
  ·exact .inl hx
  ·by_cases hβ:β=γ
   ·subst hβ;rw[pγ]at g1;cases g1;cases g2
   ·rw[po β hβ]at g1;exact .inr ⟨β,hb',g1,g2,g3⟩
 have hst:Qgq w w (Xof C ρ hp) (Xof C ρ hp'):=⟨fun _ _ _=>rfl,fun c _ hn h=>hn (hX c h),Nat.le_refl _⟩
 have c1:∀β,β≠γ->Cnd ρ ρ hp hp' w w β:=fun β hβ=>⟨rfl,fun hb hq=>⟨hb,by rw[po β hβ];exact hq,rfl,Nat.le_refl _,fun _ _ _ h=>h,fun h=>⟨h,rfl,fun _ _=>rfl⟩⟩⟩
 have c0:∀β,Ql1 ρ ρ hp hp' w w β:=fun β=>by
  by_cases hβ:β=γ
  ·subst hβ
   refine⟨rfl,fun hb1 hq=>⟨_,pγ,?_,?_,fun _ _ _ h=>h⟩⟩
   ·rw[k2]at hq;cases hq;exact k4.symm
   ·rw[k2]at hq;cases hq;rw[k3];exact Nat.zero_le _
  ·exact(c1 β hβ).weak
 have hown:=hs.own γ hb k2
 refine⟨ρ,hs.sz,hs.ext,hs.keep,fun β hb1 hβ=> ?_,fun β δ c g1 g2 g3 g4=> ?_,fun i=> ?_⟩
 ·by_cases hq:β=γ
  ·subst hq
   rw[pγ]at hβ;cases hβ
   refine⟨he,fun i x hx=> ?_,?_,(fun h=>by rw[h2]at h;cases h),fun _=>rfl⟩
   ·obtain⟨d1,d2,_⟩:=hd x (List.mem_of_getElem? hx)
    exact⟨by rw[d1];exact k10 i x hx,d2⟩
   ·have hblk:=hown.blk
    rw[k1]at hblk⊢
    refine⟨hblk.1,hblk.2.1,cur,cap,k6,k7,k8,k9,fun i x hx j y hy=> ?_⟩
    obtain⟨d1,_,d3⟩:=hd x (List.mem_of_getElem? hx)
    rw[d1]at hy
    exact((k11 i x hx j y hy).toC (d3 y (List.mem_of_getElem? hy))).sub hX
  ·rw[po β hq]at hβ
   obtain⟨q1,q2,q3,q4,q5⟩:=hs.own β hb1 hβ
   refine⟨q1,q2,?_,q4,q5⟩
   cases hr:ρ β with
   |none=>rw[hr]at q3;exact q3
   |some c=>rw[hr]at q3;exact⟨q3.1,q3.2.1,q3.2.2.move rfl rfl rfl rfl hst.rc⟩
 ·have f:∀β,hp' β≠none->hp β≠none:=fun β hβ=>by
   by_cases hq:β=γ
   ·subst hq;simp[k2]
   ·rwa[po β hq]at hβ
  exact hs.inj β δ c (f β g1) (f δ g2) g3 g4
 ·unfold upd
  split
  ·rename_i hi;subst hi
   have hsl:=hs.slots i
   rw[hsg]at hsl
   obtain⟨_,b',hb',g1,g2,g3⟩:=hsl
   rw[k2]at g2;cases g2
   exact⟨b',_,g1,pγ,by rw[g3,k4]⟩
  ·have hsl:=hs.slots i
   show Qm C ρ hp' w (Qcg γ (fr i)) _
   by_cases hn:∃e' ty' ys,fr i= .nst γ e' ty' ys
   ·obtain⟨e',ty',ys,hq⟩:=hn
    rw[hq];simp only[Qcg,if_true];trivial
   ·have e1:Qcg γ (fr i)=fr i:=by
     cases hq:fr i with
     |nst γ' e' ty' ys=>
      simp only[Qcg]
      rw[if_neg]
      intro h;subst h;exact hn ⟨_,_,_,hq⟩
     |_=>rfl
    rw[e1]
    refine hsl.move hst (fun β _=>⟨rfl,(c0 β).h⟩) (fun β _=>c0 β) (fun γ' e' ty' ys hq=>c1 γ' fun h=>by subst h;exact hn ⟨_,_,_,hq⟩)
theorem Qagn{e by_ ty d β n:Nat}{xs ys:List PV}(hb:hp β=some ⟨e,ty,xs,false⟩)(h0:0<e)(hn:n=xs.length)(hy:ys≠[])(h1:(n+ys.length)*by_<=140737488355328)(h2:n+ys.length<=9223372036854775807)(hB:2000000<=β):
  Qdr e by_ ty (.ms β n) (.sl e ys) d fr hp K=K (upd (Qb3 β fr) d (.ms β (n+ys.length))) (Qg hp β ⟨e,ty,xs++ys,false⟩):=by
 subst hn
 have b1:isB β=true:=by simp[isB];omega
 have b2:isY β=false:=by simp[isY];omega
 simp[Qdr,Qc1,hb,h0,b1,b2,h1,h2,hy]
theorem Q81{γ e ty:Nat}{cs cs':List PV}(δ e' ty':Nat)(hfr:fr γ= .nst γ e ty [.agg cs])(h1:hp δ=none)(h2:2000000<=δ)(h3:0<e')(hl:cs'.length=cs.length)(hc:∀p∈cs.zip cs',p.2=p.1∨(p.1= .nilS/\p.2= .mso δ 0 0)):
  Wk fr hp (upd fr γ (.nst γ e ty [.rag cs'])) (Qg hp δ ⟨e',ty',[],false⟩):=by
 have h:=Qv0 (fr:=fr) (hp:=hp) (γ:=γ) (e:=e) (ty:=ty) (xs:=[.agg cs]) (xs':=[.rag cs']) (fun x=>if x=δ then some (e',ty')else none) hfr (fun x y h=> ?_) rfl (fun i x x' k1 k2=> ?_)
 ·refine cast (congrArg (Wk fr hp (upd fr γ (.nst γ e ty [.rag cs']))) (funext fun x=> ?_)) h
  unfold Qg
  by_cases hx:x=δ
  ·subst hx;simp
  ·simp[hx]
 ·split at h
  ·rename_i hx;subst hx;cases h;exact⟨h1,h2,h3⟩
  ·cases h
 ·cases i with
  |succ i=>cases k1
  | zero=>
   cases k1;cases k2
   refine⟨hl,fun j y y' q1 q2=> ?_⟩
   have hz:(y,y')∈cs.zip cs':=by
    refine List.mem_of_getElem? (i:=j) ?_
    rw[List.getElem?_zip_eq_some]
    exact⟨q1,q2⟩
   rcases hc _ hz with h|⟨h,h'⟩
   ·exact .inl h
   ·exact .inr ⟨h,δ,(e',ty'),by simp,h'⟩
theorem Qadh{sk:List It}{r:RT}(s k:Nat)(l:List Nat){p D:PV}(h0:fr s=p)(h1:Qnx fr k p)(h2:Qjw fr hp k p=D)(h3:Qsi fr k p=l)(hv:vc C R (.o r::sk) (upd fr s D) (Q9 hp l)):vc C R (.o (.wk r)::sk) fr hp:=by
 subst h0
 subst h2
 subst h3
 exact Qch (Qv1 s k h1) hv
theorem Qadi{P:Program}(hP:C.P=P){g:FuncId}{args pargs:List PV}{d:Option Nat}{β1:Nat}{hb1:HB}{Post:PV->List PV->Prop}
  (h:Qbr P g pargs (fun _=> .undef) (Qg hp0 1000000 hb1) fun r F H=>Qfc r/\∃xs,H 1000000=some ⟨hb1.e,hb1.ty,xs,false⟩/\xs.length=hb1.xs.length/\Post r xs) (h1:hp β1=some hb1) (f1:hb1.fz=false) (n1:hb1.xs≠[]) (B1:isB β1=true)
  (hargs:args.map (rnP fun x=>if x=β1 then 1000000 else x)=pargs) (hna:∀γ∈args.flatMap (fun x=>x.refs++x.sref),γ=β1) (hpl:pargs.length<=1000000)
  (hK:∀r xs,xs.length=hb1.xs.length->Post r xs->K (Qbp fr d r) (Qg hp β1 ⟨hb1.e,hb1.ty,xs,false⟩)):Qcj C false (.fn g [] []) args d fr hp K:=by
 obtain⟨gv,hgv⟩:∃f:Nat->Option Nat,f=fun x=>if x=1000000 then some β1 else none:=⟨_,rfl⟩
 have ga:∀β γ,gv β=some γ->β=1000000/\γ=β1:=fun β γ hq=>by
  rw[hgv]at hq;simp only at hq
  split at hq
  ·cases hq;rename_i e;exact⟨e,rfl⟩
  ·cases hq
 have g0:gv 1000000=some β1:=by rw[hgv];rfl
 have y0:isY 1000000=true:=by decide
 have r0:isR 1000000=false:=by decide
 have gn0:gn gv 1000000=some β1:=(Qkg r0).trans g0
 have gna:∀β γ,gn gv β=some γ->β=1000000/\γ=β1:=fun β γ hq=>ga β γ (Qi9 hq).2
 refine Qq9 hP h gv _ ⟨fun β γ hq=> ?_,fun β hq=> ?_,fun β β' γ q1 q2=> ?_⟩ (fun β γ hq=> ?_) hargs (fun x hx γ hγ=> ?_) (fun s _=> .inl rfl) hpl (fun hq=>by cases hq) (fun ρ tmps w hs r F H hp0 _=> ?_)
 ·obtain⟨rfl,rfl⟩:=ga β γ hq
  exact⟨hb1,h1,by decide,(fun h=>by rw[r0]at h;cases h),fun _=>⟨by simp[Qg],f1,B1,fun h=>by rw[y0]at h;cases h⟩⟩
 ·by_cases e2:β=1000000
  ·subst e2;exact⟨_,g0⟩
  ·simp[Qg,FW.hp0,e2]at hq
 ·rw[(ga β γ q1).1,(ga β' γ q2).1]
 ·obtain⟨rfl,rfl⟩:=ga β γ hq
  simp
 ·rw[hna γ (List.mem_flatMap.2 ⟨x,hx,hγ⟩)]
  exact⟨_,g0⟩
 ·obtain⟨⟨⟨p1,p2⟩,p3⟩,xs,k1,k2,k4⟩:=hp0
  obtain⟨eo,heo⟩:∃f:Nat->Option Nat,f=fun γ=>if γ=β1 then some 1000000 else none:=⟨_,rfl⟩
  have ea:∀γ β,eo γ=some β->γ=β1/\β=1000000:=fun γ β hq=>by
   rw[heo]at hq;simp only at hq
   split at hq
   ·cases hq;rename_i e;exact⟨e,rfl⟩
   ·cases hq
  have eb1:eo β1=some 1000000:=by rw[heo];simp
  refine⟨eo,fun x=>β1,Qbp fr d r,Qg hp β1 ⟨hb1.e,hb1.ty,xs,false⟩,fun γ β hq=> ?_,fun β γ hq _=> ?_,fun γ β hq=> ?_,fun γ hq hg=> ?_,fun γ hq hg=> ?_,fun s=> ?_,hK r xs k2 k4⟩
  ·obtain⟨rfl,rfl⟩:=ea γ β hq
   exact⟨by simp[k1],rfl,B1,.inl ⟨y0,gn0⟩⟩
  ·obtain⟨rfl,rfl⟩:=gna β γ hq
   exact eb1
  ·obtain⟨rfl,rfl⟩:=ea γ β hq
   rw[k1];simp[Qg]
  ·obtain⟨β,hβ⟩:=hg
   obtain⟨rfl,rfl⟩:=gna β γ hβ
   rw[eb1]at hq;cases hq
  ·have:γ≠β1:=fun e=>by subst e;rw[eb1]at hq;cases hq
   simp[Qg,this]
  ·have hsl:=hs.slots s
   have hn:∀γ e ty xs,fr s= .nst γ e ty xs->¬∃β,gn gv β=some γ:=fun γ e ty xs e0 ⟨β,hβ⟩=>by
    rw[e0]at hsl
    obtain⟨_,_,b,hb,_,_,_,l2,l3,_⟩:=hsl
    obtain⟨rfl,rfl⟩:=gna β γ hβ
    rw[h1]at l2;cases l2;exact n1 l3
   have ho:∀γ∈(fr s).refs++(fr s).sref,(¬∃β,gn gv β=some γ)∨∃β hb hb',gn gv β=some γ/\isY β=true/\hp γ=some hb/\H β=some hb'/\hb'.e=hb.e/\hb.xs.length<=hb'.xs.length:=fun γ _=>by
    by_cases e:γ=β1
    ·subst e;exact .inr ⟨_,_,_,gn0,y0,h1,k1,rfl,by simp[k2]⟩
    ·left
     rintro⟨β,hβ⟩
     exact e (gna β γ hβ).2
   cases d with
   |none=>exact .inr (.inl ⟨(by simp),rfl,ho,hn⟩)
   | some d=>
    by_cases e:s=d
    ·subst e
     refine .inr (.inr (.inl ⟨rfl,?_,fun β hβ=>by rw[p1,p2]at hβ;cases hβ⟩))
     rw[p3]
     simp[Qbp,upd]
    ·exact .inr (.inl ⟨by simp;exact fun h=>e h.symm,by simp[Qbp,upd,e],ho,hn⟩)
theorem rn_P{τ:Nat->Nat}{γ γ' ty B B' n w:Nat}(hγ:τ γ=γ')(hB:∀r,r<n->τ (B+r)=B'+r):rnP τ (.nst γ 1 ty (Qx (Qas B n w id)))= .nst γ' 1 ty (Qx (Qas B' n w id)):=by
 simp only[rnP,hγ]
 congr 1
 unfold Qx Qas
 simp only[List.map_map]
 refine List.map_congr_left fun r hr=> ?_
 simp[PV.ncells,PV.cells,rn1,Qcp,hB r (List.mem_range.1 hr)]
theorem Qyo{P:Program}(hP:C.P=P){pr:Bool}{g:FuncId}{d:Option Nat}{R w ty e' tyr:Nat}{ys:Nat->List PV}{D:PV}(hR:R<=1000)
  (h:Qbr P g [.nso 1500000 0 R] (upd (fun _=> .undef) 1500000 (.nst 1500000 1 ty (Qx (Qas 1600000 R w id))))
   (fun x=>if x=1500000 then some ⟨1,ty,[],true⟩else if 1600000<=x/\x<1600000+R then some ⟨e',tyr,ys (x-1600000),true⟩else none) (fun r _ _=>r=D)) (hD:Qfc D)
  (hg:fr 2000000= .nst 2000000 1 ty (Qx (Qas 3000000 R w id))) (h0:hp 2000000=some ⟨1,ty,[],false⟩) (hrow:∀r,r<R->hp (3000000+r)=some ⟨e',tyr,ys r,false⟩)
  (hK:K (Qbp fr d D) hp):Qcj C pr (.fn g [] []) [.nso 2000000 0 R] d fr hp K:=by
 obtain⟨gv,hgv⟩:∃f:Nat->Option Nat,f=fun x=>if x=1500000 then some 2000000 else if 1600000<=x/\x<1600000+R then some (3000000+(x-1600000))else none:=⟨_,rfl⟩
 obtain⟨τ,hτ⟩:∃f:Nat->Nat,f=fun x=>if x=2000000 then 1500000 else if 3000000<=x/\x<3000000+R then 1600000+(x-3000000)else x:=⟨_,rfl⟩
 have ga:∀β γ,gv β=some γ->(β=1500000/\γ=2000000)∨∃r,r<R/\β=1600000+r/\γ=3000000+r:=fun β γ hq=>by
  rw[hgv]at hq;simp only at hq
  split at hq
  ·cases hq;rename_i e;exact .inl ⟨e,rfl⟩
  ·split at hq
   ·rename_i e;exact .inr ⟨β-1600000,by omega,by omega,(Option.some.inj hq).symm⟩
   ·cases hq
 have g0:gv 1500000=some 2000000:=by rw[hgv];simp
 have g1:∀r,r<R->gv (1600000+r)=some (3000000+r):=fun r hr=>by
  rw[hgv];simp only
  rw[if_neg (by omega),if_pos ⟨by omega,by omega⟩,Nat.add_sub_cancel_left]
 have t0:τ 2000000=1500000:=by rw[hτ];simp
 have t1:∀r,r<R->τ (3000000+r)=1600000+r:=fun r hr=>by
  rw[hτ];simp only
  rw[if_neg (by omega),if_pos ⟨by omega,by omega⟩,Nat.add_sub_cancel_left]
 have hnm:∀γ∈(fr 2000000).refs++(fr 2000000).sref,∃β,gv β=some γ:=fun γ hγ=>by
  rw[hg]at hγ
  simp only[PV.refs,PV.sref,List.nil_append,List.mem_cons]at hγ
  rcases hγ with rfl|hγ
  ·exact⟨_,g0⟩
  ·obtain⟨r,hr,rfl⟩:=Qmz γ hγ
   exact⟨_,g1 r hr⟩
 refine Qv2 hP h gv τ (fun β γ hq=> ?_) (fun β hq=> ?_) (fun β β' γ q1 q2=> ?_) (fun β γ hq=> ?_) ?_ (fun x hx γ hγ=> ?_) (fun s hs=> ?_) (by simp) (fun r F H hr=> ?_)
 ·rcases ga β γ hq with⟨rfl,rfl⟩|⟨r,hr,rfl,rfl⟩
  ·exact⟨by decide,_,h0,by simp⟩
  ·refine⟨by simp[isR];omega,_,hrow r hr,?_⟩
   rw[if_neg (by omega),if_pos ⟨by omega,by omega⟩,Nat.add_sub_cancel_left]
 ·by_cases e:β=1500000
  ·subst e;exact⟨_,g0⟩
  ·by_cases e2:1600000<=β/\β<1600000+R
   ·obtain⟨r,rfl⟩:∃r,β=1600000+r:=⟨β-1600000,by omega⟩
    exact⟨_,g1 r (by omega)⟩
   ·rw[if_neg e,if_neg e2]at hq;exact absurd rfl hq
 ·rcases ga β γ q1 with⟨rfl,rfl⟩|⟨r,hr,rfl,rfl⟩<;>rcases ga β' _ q2 with⟨rfl,e⟩|⟨r',hr',rfl,e⟩
  ·rfl
  ·omega
  ·omega
  ·omega
 ·rcases ga β γ hq with⟨rfl,rfl⟩|⟨r,hr,rfl,rfl⟩
  ·exact t0
  ·exact t1 r hr
 ·simp[rnP,rn1,t0]
 ·rw[List.mem_singleton.1 hx]at hγ
  simp[PV.refs,PV.sref]at hγ;subst hγ;exact⟨_,g0⟩
 ·by_cases e:s=1500000
  ·subst e
   refine .inr ⟨2000000,by omega,?_,hnm⟩
   rw[hg,rn_P t0 t1];simp[upd]
  ·left;simp[upd,e]
 ·subst hr;exact⟨hD,hK⟩
end Go.FW
namespace Go.FW
open Go
variable {C : Ctx} {fr : Fr} {hp : HP} {w : World} {K R : Qf}
abbrev PV.rowD(w:Nat)(f:Nat->Rat):PV:= .sl 3 (Qh PV.rat f w)
theorem Qadj{ty w n i d:Nat}{fz:Bool}{M:MF}(h:i<n):ldM (some ⟨1,ty,Qh (PV.rowD w) M n,fz⟩) 1 false i 0 d fr hp K=K (upd fr d (PV.rowD w (M i))) hp:=by
 rw[Qih (by rw[Qaa];exact h) (by omega) (by simp),Qc7];rfl
theorem Qoy{ty β w n i:Nat}{M:MF}{f:Nat->Rat}(h:i<n):stM (some ⟨1,ty,Qh (PV.rowD w) M n,false⟩) β 1 i 0 (PV.rowD w f) fr hp K=K fr (Qg hp β ⟨1,ty,Qh (PV.rowD w) (fun r=>if r=i then f else M r) n,false⟩):=by
 have e:=Qe5 (fr:=fr) (hp:=hp) (K:=K) (n:=1) (ty:=ty) (β:=β) (i:=i) (xs:=Qh (PV.rowD w) M n) (v:=PV.rowD w f) (by rw[Qaa];exact h) rfl rfl
 rw[Qv4 (g:=fun r=>if r=i then f else M r) fun k _=>rfl]at e
 exact e
theorem Q82{d w n i:Nat}{k:IntKind}{M:MF}(h:i<n):Qed 1 (.sl 1 (Qh (PV.rowD w) M n)) (.int k (i:Nat)) d fr hp K=K (upd fr d (.pt [PV.rowD w (M i)])) hp:=by
 have hl:i<(Qh (PV.rowD w) M n).length:=by rw[Qaa];exact h
 simp only[Qed]
 simp[hl,Qc7];rfl
theorem Qff{w n:Nat}{M N:MF}(h:∀r,r<n->∀c,c<w->M r c=N r c):Qh (PV.rowD w) M n=Qh (PV.rowD w) N n:=
 List.map_congr_left fun r hr=>by
  show PV.sl 3 (Qh PV.rat (M r) w)=PV.sl 3 (Qh PV.rat (N r) w)
  rw[Qcd fun c hc=>h r (List.mem_range.1 hr) c hc]
attribute [go_sem] Qadj Q82
theorem Q83{ty i d:Nat}{fz:Bool}{α:Type}{p:α->PV}{L:List α}(h:i<L.length):ldM (some ⟨1,ty,L.map p,fz⟩) 1 false i 0 d fr hp K=K (upd fr d (ldV false 1 0 (p (L[i]'h)))) hp:=by
 rw[Qih (by rw[List.length_map];exact h) (by omega) (by simp),List.getElem_map]
theorem Q84{ty i d:Nat}{fz:Bool}{L:List LF}(h:i<L.length):ldM (some ⟨3,ty,L.map (fun f=>PV.rat f.1),fz⟩) 3 true i 0 d fr hp K=K (upd fr d (PV.rat (L[i]'h).1)) hp:=by
 rw[Qih (by rw[List.length_map];exact h) (by omega) (by simp),List.getElem_map];rfl
theorem Q85{ty i d w:Nat}{fz:Bool}{L:List LF}(h:i<L.length):ldM (some ⟨1,ty,L.map (fun f=>PV.rowD w f.2),fz⟩) 1 false i 0 d fr hp K=K (upd fr d (PV.rowD w (L[i]'h).2)) hp:=by
 rw[Q83 h];rfl
attribute [go_sem] Q84 Q85
def nm1(x:Nat):Bool:=decide (x=2000000)
theorem Qadk{fr:Fr}:Qdd (fun _=>false) fr=fr:=by
 funext t;simp[Qdd,Qmx]
theorem Qlx{P:Program}{pr:Bool}(hP:C.P=P){g:FuncId}{args:List PV}{d n:Nat}{hb:HB}(h:Qbr P g args (fun _=> .undef) hp0 fun r _ H=>r= .ms 2000000 n/\H 2000000=some hb)(hfree:hp 2000000=none)
  (hst:∀x∈args,∀γ e ty xs,x≠ .nst γ e ty xs) (hna:args.flatMap (fun x=>x.refs++x.sref)=[]) (hpl:args.length<=1000000)
  (hK:K (upd fr d (.ms 2000000 n)) (Qg hp 2000000 hb)):Qcj C pr (.fn g [] []) args (some d) fr hp K:=by
 refine Qnz hP h (fun _=>false) nm1 [] (fun x h=>by cases h) (fun x=>rfl) rfl hpl hst (fun γ hγ=>by rw[hna]at hγ;cases hγ) (fun s _=> .inl rfl) (fun x hx=> ?_) (fun _ _=>rfl) (fun r F H hpost=> ?_)
 ·have:=of_decide_eq_true hx;subst this;exact⟨.inl hfree,by omega⟩
 ·obtain⟨rfl,h1⟩:=hpost
  refine⟨fun x hx=> ?_,(fun γ e ty xs h=>by cases h),fun β hβ=> ?_,(fun s hs=>by cases hs),?_⟩
  ·have:=of_decide_eq_true hx;subst this;rw[h1];simp
  ·simp[PV.refs,PV.sref]at hβ;subst hβ;exact decide_eq_true rfl
  ·have e1:exF [] F (Qbp (Qdd (fun _=>false) fr) (some d) (.ms 2000000 n))=upd fr d (.ms 2000000 n):=by
    funext s;simp[exF,Qbp,Qadk]
   have e2:exH (fun _=>false) nm1 H hp=Qg hp 2000000 hb:=by
    funext x
    unfold exH Qg
    by_cases e:x=2000000
    ·subst e;rw[if_pos (show nm1 2000000=true from decide_eq_true rfl),if_pos rfl,h1]
    ·rw[if_neg (by simp[nm1,e]),if_neg (by simp),if_neg e]
   rw[e1,e2];exact hK
theorem Qsm{P:Program}(hP:C.P=P){g:FuncId}{args:List PV}{d:Nat}{hb:HB}{D:PV}(h:Qbr P g args (fun _=> .undef) (Qg hp0 2000000 hb) fun r _ _=>r=D)(hD:Qfc D)(h1:hp 2000000=some hb)(hfz:hb.fz=false)
  (hst:∀x∈args,∀γ e ty xs,x≠ .nst γ e ty xs) (hna:∀γ∈args.flatMap (fun x=>x.refs++x.sref),γ=2000000) (hpl:args.length<=1000000) (hDn:∀γ e ty xs,D≠ .nst γ e ty xs)
  (hK:K (upd (Qdd nm1 fr) d D) (fun x=>if x=2000000 then none else hp x)):Qcj C false (.fn g [] []) args (some d) fr hp K:=by
 refine Qnz hP h nm1 (fun _=>false) [] (fun x hx=> ?_) (fun x=> ?_) rfl hpl hst (fun γ hγ=>by rw[hna γ hγ];exact decide_eq_true rfl) (fun s _=> .inl rfl) (fun x hx=>by cases hx) (fun h=>by cases h) (fun r F H hpost=> ?_)
 ·have:=of_decide_eq_true hx;subst this;exact⟨hb,h1,hfz,by omega⟩
 ·by_cases e:x=2000000
  ·subst e;simp[nm1,Qg,h1]
  ·simp[nm1,Qg,e,hp0]
 ·subst hpost
  refine⟨(fun x hx=>by cases hx),hDn,(fun β hβ=>by rw[hD.1.1,hD.1.2]at hβ;cases hβ),(fun s hs=>by cases hs),?_⟩
  have e1:exF [] F (Qbp (Qdd nm1 fr) (some d) r)=upd (Qdd nm1 fr) d r:=by funext s;simp[exF,Qbp]
  have e2:exH nm1 (fun _=>false) H hp=fun x=>if x=2000000 then none else hp x:=by
   funext x
   unfold exH
   by_cases e:x=2000000
   ·subst e;simp[nm1]
   ·simp[nm1,e]
  rw[e1,e2];exact hK
theorem Qfk{x:Nat}(h:x<2000000):nm1 x=false:=decide_eq_false (by omega)
theorem Qago:nm1 2000000=true:=decide_eq_true rfl
attribute [go_sem] Qago
end Go.FW
