/- Part 8 of the proof of MatrixSolves: A4, A5, A6, FwVB. Own lemmas; no conditions. -/
import Derived.Test.YtkoclfmjlolkhaaGreatMatrixSolvesPart7
set_option linter.unusedSimpArgs false
set_option linter.unusedVariables false
set_option linter.unnecessarySimpa false
set_option maxRecDepth 100000
namespace Go.Proofs.YtkoclfmjlolkhaaGreat
open Go Go.FW
abbrev PV.ech(R w:Nat)(E:Ech):PV:= .agg [.sl 1 (Qh8 E.M R w),.sl 1 (E.piv.map fun k=> .int .i64 (k:Nat)),.bool (decide (E.det.num<0)),PV.num E.det.num.natAbs,PV.num E.det.den]
abbrev Qeg(l:List Nat):List PV:=l.map fun k=> .int .i64 (k:Nat)
abbrev Qk4(R:Nat)(E:Ech):PV:= .rag [.nso 2000000 0 R,.mso 2000002 0 E.piv.length,.bool (decide (E.det.num<0)),PV.num E.det.num.natAbs,PV.num E.det.den]
structure Qeb(M:MF)(R w tyr:Nat)(π:Nat->Nat)(hp:HP):Prop where
 lt:∀r,r<R->π r<R
 inj:∀r s,r<R->s<R->π r=π s->r=s
 row:∀r,r<R->hp (3000000+π r)=some ⟨3,tyr,Qh PV.rat (M r) w,false⟩
theorem Qeb.set{M M':MF}{R w tyr r:Nat}{π:Nat->Nat}{hp:HP}{f:Nat->Rat}(h:Qeb M R w tyr π hp)(hr:r<R)(h1:∀c,c<w->M' r c=f c)(h2:∀s,s<R->s≠r->∀c,c<w->M' s c=M s c):
  Qeb M' R w tyr π (Qg hp (3000000+π r) ⟨3,tyr,Qh PV.rat f w,false⟩):=by
 refine⟨h.lt,h.inj,fun s hs=> ?_⟩
 unfold Qg
 by_cases e:s=r
 ·subst e;rw[if_pos rfl,Qcd h1]
 ·rw[if_neg (fun e2=>e (h.inj s r hs hr (by omega))),h.row s hs,Qcd (h2 s hs e)]
theorem Qeb.congr{M M':MF}{R w tyr:Nat}{π:Nat->Nat}{hp hp':HP}(h:Qeb M R w tyr π hp)(h1:∀r,r<R->∀c,c<w->M' r c=M r c)(h2:∀x,3000000<=x->hp' x=hp x):Qeb M' R w tyr π hp':=
 ⟨h.lt,h.inj,fun s hs=>by rw[h2 _ (by omega),h.row s hs,Qcd (h1 s hs)]⟩
theorem Qeb.swap{M:MF}{R w tyr i m:Nat}{π:Nat->Nat}{hp:HP}(h:Qeb M R w tyr π hp)(hi:i<R)(hm:m<R):Qeb (Qb4 M i m) R w tyr (fun x=>if x=m then π i else if x=i then π m else π x) hp:=by
 have hl:∀r,r<R->∃s,s<R/\(if r=m then π i else if r=i then π m else π r)=π s/\Qb4 M i m r=M s/\((r=m/\s=i)∨(r≠m/\r=i/\s=m)∨(r≠m/\r≠i/\s=r)):=fun r hr=>by
  unfold Qb4
  by_cases e:r=m
  ·exact⟨i,hi,by simp[e],by simp[e],.inl ⟨e,rfl⟩⟩
  ·by_cases e2:r=i
   ·exact⟨m,hm,by rw[if_neg e,if_pos e2],by rw[if_neg e,if_pos e2],.inr (.inl ⟨e,e2,rfl⟩)⟩
   ·exact⟨r,hr,by rw[if_neg e,if_neg e2],by rw[if_neg e,if_neg e2],.inr (.inr ⟨e,e2,rfl⟩)⟩
 refine⟨fun r hr=> ?_,fun r s hr hs e=> ?_,fun r hr=> ?_⟩
 ·obtain⟨s,h1,h2,_⟩:=hl r hr
  show(if r=m then π i else if r=i then π m else π r)<R
  rw[h2];exact h.lt s h1
 ·obtain⟨a,a1,a2,_,a4⟩:=hl r hr
  obtain⟨b,b1,b2,_,b4⟩:=hl s hs
  have:=h.inj a b a1 b1 (by rw[<-a2,<-b2];exact e)
  omega
 ·obtain⟨s,h1,h2,h3,_⟩:=hl r hr
  show hp (3000000+(if r=m then π i else if r=i then π m else π r))=_
  rw[h2,h3];exact h.row s h1
theorem Qade{fr:Fr}{hp:HP}{R w ty tyr:Nat}{π:Nat->Nat}{E:Ech}(hg:fr 2000000= .nst 2000000 1 ty (Qx (Qas 3000000 R w π)))(hpv:hp 2000002=some ⟨1,3,Qeg E.piv,false⟩)(hrw:Qeb E.M R w tyr π hp):
  Qnx fr 2 (Qk4 R E)/\Qjw fr hp 2 (Qk4 R E)=PV.ech R w E/\∀x∈Qsi fr 2 (Qk4 R E),2000000<=x:=by
 have hl:R=(Qas 3000000 R w π).length:=(Qxe _ _ _ _).symm
 have hm:∀x∈Qas 3000000 R w π,2000000<=x.1/\∃r,r<R/\x=(3000000+π r,w):=fun x hx=>by
  obtain⟨r,hr,rfl⟩:=List.mem_map.1 hx
  exact⟨by show 2000000<=3000000+π r;omega,r,List.mem_range.1 hr,rfl⟩
 have o1:=Qtp hg hl (by omega) (fun x hx=>(hm x hx).1)
 refine⟨?_,?_,?_⟩
 ·intro c hc
  simp only[List.mem_cons,List.not_mem_nil,or_false]at hc
  rcases hc with rfl|rfl|rfl|rfl|rfl
  ·exact o1
  ·simp only[okD,isY];simp
  ·trivial
  ·trivial
  ·trivial
 ·obtain⟨ys,hys⟩:∃ys:Nat->List PV,∀r,r<R->ys (3000000+π r)=Qh PV.rat (E.M r) w:=by
   refine⟨fun x=>match hp x with|some hb=>hb.xs|none=>[],fun r hr=> ?_⟩
   simp only[hrw.row r hr]
  have o2:=Qwh (hp:=hp) (e':=3) hg hl ys (fun x hx=>by
   obtain⟨_,r,hr,rfl⟩:=hm x hx
   refine⟨tyr,false,?_⟩
   show hp (3000000+π r)=some ⟨3,tyr,ys (3000000+π r),false⟩
   rw[hys r hr,hrw.row r hr])
  have o3:dsn fr hp 2 (.nso 2000000 0 R)= .sl 1 (Qh8 E.M R w):=by
   refine Eq.trans o2 ?_
   unfold Qh8 Qas
   rw[List.map_map]
   congr 1
   refine List.map_congr_left fun r hr=> ?_
   simp only[Function.comp,hys r (List.mem_range.1 hr)]
   rw[List.take_of_length_le (by rw[Qaa];omega)]
  have o4:dsn fr hp 2 (.mso 2000002 0 E.piv.length)= .sl 1 (Qeg E.piv):=by
   simp only[dsn,hpv,List.drop_zero]
   rw[List.take_of_length_le (by simp)]
  show PV.agg [dsn fr hp 2 (.nso 2000000 0 R),dsn fr hp 2 (.mso 2000002 0 E.piv.length),_,_,_]=_
  rw[o3,o4]
  rfl
 ·intro x hx
  obtain⟨c,hc,hx⟩:=List.mem_flatMap.1 hx
  simp only[List.mem_cons,List.not_mem_nil,or_false]at hc
  rcases hc with rfl|rfl|rfl|rfl|rfl
  ·simp only[rch,hg,List.mem_cons,List.drop_zero]at hx
   rcases hx with rfl|hx
   ·omega
   ·obtain⟨y,hy,hx⟩:=List.mem_flatMap.1 hx
    obtain⟨z,hz,rfl⟩:=List.mem_map.1 (List.mem_of_mem_take hy)
    have:=(hm z hz).1
    simp only[PV.ncells,PV.cells,List.flatMap_cons,List.flatMap_nil,rch,List.append_nil,List.mem_singleton]at hx
    omega
  ·simp only[rch,List.mem_singleton]at hx;omega
  ·simp[rch]at hx
  ·simp[rch]at hx
  ·simp[rch]at hx
theorem Qwj {M:MF} {R w n K ty tyr:Nat} (hR:0<R) (hR2:R<=40) (hw:w<=40) (hn:n<=w) (hK:K<=2^20) (hB:∀k,k<=n->MBd K R w (Qaf R M k).M/\rs (Qaf R M k).det<=K):
  Qbr Tryz.prog 55 [.nso 2000000 0 R,.int .i64 (n:Nat)] (upd (fun _=> .undef) 2000000 (.nst 2000000 1 ty (Qx (Qas 3000000 R w id))))
   (fun x=>if x=2000000 then some ⟨1,ty,[],false⟩else if 3000000<=x/\x<3000000+R then some ⟨3,tyr,Qh PV.rat (M (x-3000000)) w,false⟩else none)
   (fun r _ _=>r=PV.ech R w (Qaf R M n)):=by
 refine Qdb Qt Tryz.func55 rfl Q3v (by simp[c55]) fun C hP=> ?_;simp only[c55,Zo,Zg,Zm,Zc,Zf,Zl,Zh,Zs,Zi,Zb,Zk,Zn,Zu,Zq,Zr,Zz]
 have hN:∀r,r<R->(3000000+r<3000000+R):=fun r h=>by omega
 simp+decide (disch:=try exact D0) only[go_sem]
 refine Qa hP (Qn5 (x:=1) (by omega) (by omega)) rfl rfl rfl ?_
 simp+decide (disch:=try exact D0) only[go_sem]
 refine Qch (Qiy 5 2000001 rfl (by omega) rfl (by omega)) ?_
 simp+decide (disch:=try exact D0) only[go_sem]
 refine Qch (Qvz (γ:=2000001) (e:=5) (ty:=87) (xs:=[.agg [.nilS,.nilS,.bool false,.nilS,.nilS]]) (fz:=false) T0 (by simp) (by omega) (fun x hx=>by rw[List.mem_singleton.1 hx];rfl)) ?_
 simp+decide (disch:=try exact D0) only[go_sem]
 refine Qch (Qadb (γ:=2000001) (e:=5) (ty:=87) (cs:=[.nso 2000000 0 R,.nilS,.bool false,PV.num ((1:Int):Rat).num.natAbs,PV.num ((1:Int):Rat).den]) (cs':=[.nso 2000000 0 R,.mso 2000002 0 0,.bool false,PV.num ((1:Int):Rat).num.natAbs,PV.num ((1:Int):Rat).den]) 2000002 1 3 T0 T0 (by omega) (by omega) rfl (by simp)) ?_
 simp+decide (disch:=try exact D0) only[go_sem]
 refine Qat (by repeat (first|exact Qw|exact Qo|exact Qp|exact Qq|exact Qr|apply Qn|apply Qv|apply Qz|apply Q6|apply Q7|apply Qk|apply Qu)) [(0,0),(5,11),(16,135),(2000000,2000001)] [9,132,133] (fun m J hp=>∃k π,m=n-k/\k<=n/\J 0= .nso 2000000 0 R/\J 5= .np 2000001 0 0/\J 16= .int .i64 (k:Nat)/\J 2000000= .nst 2000000 1 ty (Qx (Qas 3000000 R w π))/\J 2000001= .nst 2000001 5 87 [Qk4 R (Qaf R M k)]/\
   hp 2000000=some ⟨1,ty,[],false⟩/\hp 2000001=some ⟨5,87,[],false⟩/\hp 2000002=some ⟨1,3,Qeg (Qaf R M k).piv,false⟩/\hp 4=some ⟨5,87,[.agg [.nilS,.nilS,.bool false,.nilS,.nilS]],false⟩/\Qeb (Qaf R M k).M R w tyr π hp) n ?_ ?_
 ·refine⟨0,id,rfl,by omega,?_⟩
  simp+decide (disch:=try exact D0) only[go_sem]
  refine⟨rfl,rfl,rfl,fun r hr=>hr,fun r s _ _ e=>e,fun r hr=> ?_⟩
  simp+decide (disch:=first|omega|rfl|(simp+decide only[go_sem,id,Nat.add_sub_cancel_left,hr]<;>rfl)|fail) only[go_sem,id,Nat.add_sub_cancel_left,hr]
  rw[if_pos ⟨by omega,by omega⟩]
  rfl
 rintro _ J h ⟨k,π,rfl,hk,j0,j5,j16,jg,jb,hg,hb,hpv,h4,hrw⟩
 simp+decide (disch:=try exact D1 j16) only[go_sem,j16]
 refine Qb (fun hc=> ?_) (fun hc=> ?_)
 ·have hk':k<n:=by omega
  have hkw:k<w:=by omega
  have hB0:=hB k hk
  have hB1:=hB (k+1) hk'
  have hpl:=Qdn R M k
  have hS:Qaf R M (k+1)=Qdm R (Qaf R M k) k:=rfl
  obtain⟨E,hE⟩:∃E,Qaf R M k=E:=⟨_,rfl⟩
  rw[hS]at hB1
  rw[hE]at hB0 hB1 hpl jb hpv hrw hS
  simp+decide (disch:=try exact D9 j0 j5 j16 jg jb hg hb hpv h4) only[go_sem,j0,j5,j16,jg,jb,hg,hb,hpv,h4]
  refine Qat (by repeat (first|exact Qw|exact Qo|exact Qp|exact Qq|exact Qr|apply Qn|apply Qv|apply Qz|apply Q6|apply Q7|apply Qk|apply Qu)) [(0,0),(5,5),(8,8),(23,39),(2000000,2000001)] [] (fun q J hp=>∃i,q=R-i/\E.piv.length<=i/\i<=R/\Qjy E.M k (R-i) i=Qfs E.M R k E.piv.length/\J 0= .nso 2000000 0 R/\J 5= .np 2000001 0 0/\J 8= .int .i64 (i:Nat)/\J 2000000= .nst 2000000 1 ty (Qx (Qas 3000000 R w π))/\J 2000001= .nst 2000001 5 87 [Qk4 R E]/\h=hp) (R-E.piv.length) ?_ ?_
  ·refine⟨E.piv.length,rfl,Nat.le_refl _,hpl.2.1,rfl,?_⟩
   simp+decide (disch:=try exact D4 j0 j5 jg jb) only[go_sem,j0,j5,jg,jb]
  rintro _ J2 _ ⟨i,rfl,hi1,hi2,hpi,i0,i5,i8,ig,ib,rfl⟩
  simp+decide (disch:=try exact D4 i0 i8 ig hg) only[go_sem,i0,i8,ig,hg]
  have hfin:i=Qfs E.M R k E.piv.length->True:=fun _=>trivial
  refine Qbq (fun hg1=> ?_) (fun hg1=> ?_)
  ·have hi:i<R:=by omega
   have hri:=hrw.row i hi
   simp+decide (disch:=try exact D5 i0 i8 ig hg hri) only[go_sem,i0,i8,ig,hg,hri]
   refine Qa hP (Qlu (a:=E.M i k) (by have:=hB0.1 i hi k hkw;omega)) rfl rfl rfl ?_
   simp+decide (disch:=try exact D5 i0 i8 ig hg hri) only[go_sem,i0,i8,ig,hg,hri]
   refine Qb (fun hz=> ?_) (fun hz=> ?_)
   ·simp+decide (disch:=try exact D1 i8) only[go_sem,i8]
    refine Qak (R-(i+1)) (by omega) ⟨i+1,rfl,by omega,by omega,?_⟩
    simp+decide (disch:=try exact D4 i0 i5 ig ib) only[go_sem,i0,i5,ig,ib]
    rw[<-hpi,show R-i=(R-(i+1))+1 by omega]
    exact(if_pos (Qb8.1 hz)).symm
   ·have hM0:E.M i k≠0:=fun e=>hz (Qb8.2 e)
    have hpe:Qfs E.M R k E.piv.length=i:=by
     rw[<-hpi,show R-i=(R-(i+1))+1 by omega]
     exact if_neg hM0
    generalize hm:E.piv.length=m at *
    have hmR:m<R:=by omega
    have hS2:Qdm R E k=⟨Qh6 (Qek (Qb4 E.M i m) m (E.M i k)) m k,E.piv++[k],(if i=m then E.det else -E.det)*E.M i k⟩:=by
     unfold Qdm;rw[hm,hpe,if_neg (by omega)]
    rw[hS2]at hB1 hS
    simp+decide (disch:=first|exact D4 i0 i8 (show ¬i=R from by omega) (show ¬((i:Int)=(R:Int))from by omega)|fail) only[go_sem,i0,i8,show ¬i=R from by omega,show ¬((i:Int)=(R:Int))from by omega]
    simp (disch:=decide) only[Qce,Qci,Qcf,Qct]
    refine Q0l (by repeat (first|exact Qw|exact Qo|exact Qp|exact Qq|exact Qr|apply Qn|apply Qv|apply Qz|apply Q6|apply Q7|apply Qk|apply Qu)) [(0,0),(5,5),(47,64),(2000000,2000001)] [] (fun J hp=>∃π',J 0= .nso 2000000 0 R/\J 5= .np 2000001 0 0/\J 2000000= .nst 2000000 1 ty (Qx (Qas 3000000 R w π'))/\J 2000001= .nst 2000001 5 87 [Qk4 R ⟨E.M,E.piv,if i=m then E.det else -E.det⟩]/\h=hp/\Qeb (Qb4 E.M i m) R w tyr π' hp) ?_ ?_
    ·refine Qb (fun hs=> ?_) (fun hs=> ?_)
     ·have him:¬i=m:=by omega
      have hq:=Q0g (a:=E.det) (k:=K) (by omega) (by omega)
      simp+decide (disch:=try exact D7 i0 i5 i8 ig ib hg hb) only[go_sem,i0,i5,i8,ig,ib,hg,hb]
      refine Qa hP hq rfl rfl rfl ?_
      simp+decide (disch:=try exact D7 i0 i5 i8 ig ib hg hb) only[go_sem,i0,i5,i8,ig,ib,hg,hb]
      refine Qhy ⟨fun x=>if x=m then π i else if x=i then π m else π x,?_⟩
      simp+decide (disch:=try exact D8 i0 i5 i8 ig ib hg hb him) only[go_sem,i0,i5,i8,ig,ib,hg,hb,him]
      exact hrw.swap hi hmR
     ·obtain rfl:i=m:=by omega
      simp only[bse,Qbu]
      simp+decide (disch:=try exact D0) only[go_sem]
      refine Qhy ⟨π,?_⟩
      simp+decide (disch:=try exact D7 i0 i5 i8 ig ib hg hb) only[go_sem,i0,i5,i8,ig,ib,hg,hb]
      refine hrw.congr (fun r hr c hc=> ?_) (fun _ _=>rfl)
      unfold Qb4
      by_cases e:r=i
      ·subst e;rw[if_pos rfl]
      ·rw[if_neg e,if_neg e]
    rintro J3 _ ⟨π',k0,k5,kg,kb,rfl,kr⟩
    simp (disch:=decide) only[Qce,Qci,Qcf,Qct]
    have krm:=kr.row m hmR
    have hsm:∀c,Qb4 E.M i m m c=E.M i c:=fun c=>by unfold Qb4;rw[if_pos rfl]
    simp+decide (disch:=try exact D7 k0 k5 kg kb hg krm hsm) only[go_sem,k0,k5,kg,kb,hg,krm,hsm]
    have hd1:rs (if i=m then E.det else -E.det)<=K:=by
     split
     ·exact hB0.2
     ·rw[Qlp];exact hB0.2
    have hpk:=hB0.1 i hi k hkw
    refine Qa hP (Qow (a:=if i=m then E.det else -E.det) (b:=E.M i k) hd1 hpk (by omega)) rfl rfl rfl ?_
    generalize hpE:E.M i k=pv at *
    simp+decide (disch:=try exact D8 k0 k5 kg kb hg hb krm hsm) only[go_sem,k0,k5,kg,kb,hg,hb,krm,hsm]
    refine Qat (by repeat (first|exact Qw|exact Qo|exact Qp|exact Qq|exact Qr|apply Qn|apply Qv|apply Qz|apply Q6|apply Q7|apply Qk|apply Qu)) [(0,0),(5,5),(10,10),(82,103),(2000000,2000001)] [] (fun q J hp=>∃c,q=w-c/\c<=w/\J 0= .nso 2000000 0 R/\J 5= .np 2000001 0 0/\J 82= .int .i64 (c:Nat)/\J 2000000= .nst 2000000 1 ty (Qx (Qas 3000000 R w π'))/\J 2000001= .nst 2000001 5 87 [Qk4 R ⟨E.M,E.piv,(if i=m then E.det else -E.det)*pv⟩]/\
      hp 2000000=some ⟨1,ty,[],false⟩/\hp 2000001=some ⟨5,87,[],false⟩/\hp 2000002=some ⟨1,3,Qeg E.piv,false⟩/\hp 4=some ⟨5,87,[.agg [.nilS,.nilS,.bool false,.nilS,.nilS]],false⟩/\hp 9=some ⟨3,51,[PV.rat pv],false⟩/\
      Qeb (fun r c'=>if r=m/\c'<c then Qb4 E.M i m r c'/pv else Qb4 E.M i m r c') R w tyr π' hp) w ?_ ?_
    ·refine⟨0,rfl,by omega,?_⟩
     simp+decide (disch:=try exact D8 k0 k5 kg kb hg hb hpv h4) only[go_sem,k0,k5,kg,kb,hg,hb,hpv,h4]
     refine⟨rfl,kr.congr (fun r hr c hc=>if_neg (by omega)) (fun x hx=> ?_)⟩
     simp+decide (disch:=try exact D1 (show ¬x=9 from by omega)) only[go_sem,show ¬x=9 from by omega]
    rintro _ J4 h2 ⟨c,rfl,hc2,m0,m5,m82,mg,mb,n0,n1,n2,n4,n9,mr⟩
    simp+decide (disch:=try exact D1 m82) only[go_sem,m82]
    refine Qb (fun hcw=> ?_) (fun hcw=> ?_)
    ·have hcw':c<w:=by omega
     have mrm:=mr.row m hmR
     have hmc:=hB0.1 i hi c hcw'
     have hdv:=Q0d (a:=E.M i c) (b:=pv) hmc hpk (by omega) hM0
     simp+decide (disch:=first|omega|rfl|(simp+decide only[go_sem,m0,m5,mg,mb,m82,n0,n9,mrm,Nat.lt_irrefl c,hsm]<;>rfl)|fail) only[go_sem,m0,m5,mg,mb,m82,n0,n9,mrm,Nat.lt_irrefl c,hsm]
     refine Qa hP hdv rfl rfl rfl ?_
     simp+decide (disch:=first|omega|rfl|(simp+decide only[go_sem,m0,m5,mg,mb,m82,n0,n9,mrm,Nat.lt_irrefl c,hsm]<;>rfl)|fail) only[go_sem,m0,m5,mg,mb,m82,n0,n9,mrm,Nat.lt_irrefl c,hsm]
     rw[Qfm hcw']
     simp+decide (disch:=try exact D1 m82) only[go_sem,m82]
     refine Qak (w-(c+1)) (by omega) ⟨c+1,rfl,by omega,?_⟩
     simp+decide (disch:=try exact D9 m0 m5 mg mb n0 n1 n2 n4 n9) only[go_sem,m0,m5,mg,mb,n0,n1,n2,n4,n9]
     refine mr.set hmR (fun c' hc'=> ?_) (fun s hs hsm' c' hc'=> ?_)
     ·by_cases e:c'=c
      ·subst e;rw[if_pos rfl,if_pos ⟨rfl,by omega⟩,hsm]
      ·rw[if_neg e]
       by_cases e2:c'<c
       ·rw[if_pos ⟨rfl,by omega⟩,if_pos e2,hsm]
       ·rw[if_neg (by omega),if_neg e2,hsm]
     ·rw[if_neg (fun e=>hsm' e.1),if_neg (fun e=>hsm' e.1)]
    ·have hcw':c=w:=by omega
     have mr2:Qeb (Qek (Qb4 E.M i m) m pv) R w tyr π' h2:=mr.congr (fun r hr c' hc'=>by
      unfold Qek
      by_cases e:r=m
      ·rw[if_pos e,if_pos ⟨e,by omega⟩,e]
      ·rw[if_neg e,if_neg (fun e2=>e e2.1)]) (fun _ _=>rfl)
     clear mr
     obtain⟨N,hN2⟩:∃N,Qek (Qb4 E.M i m) m pv=N:=⟨_,rfl⟩
     rw[hN2]at mr2 hB1
     have hNm:∀c',c'<w->rs (N m c')<=K:=fun c' hc'=>by
      simpa only[Qh6,if_true]using hB1.1 m hmR c' hc'
     have hNr:∀r',r'<R->r'≠m->∀c',c'<w->rs (N r' c')<=K:=fun r' hr' hne c' hc'=>by
      rw[<-hN2]
      unfold Qek Qb4
      rw[if_neg hne,if_neg hne]
      split
      ·exact hB0.1 m hmR c' hc'
      ·exact hB0.1 r' hr' c' hc'
     simp+decide (disch:=try exact D6 m0 m5 mg mb m82 n0) only[go_sem,m0,m5,mg,mb,m82,n0]
     simp (disch:=decide) only[Qce,Qci,Qcf,Qct]
     refine Qat (by repeat (first|exact Qw|exact Qo|exact Qp|exact Qq|exact Qr|apply Qn|apply Qv|apply Qz|apply Q6|apply Q7|apply Qk|apply Qu)) [(0,0),(5,5),(11,11),(106,128),(2000000,2000001)] [] (fun q J hp=>∃r,q=R-r/\r<=R/\J 0= .nso 2000000 0 R/\J 5= .np 2000001 0 0/\J 106= .int .i64 (r:Nat)/\J 2000000= .nst 2000000 1 ty (Qx (Qas 3000000 R w π'))/\J 2000001= .nst 2000001 5 87 [Qk4 R ⟨E.M,E.piv,(if i=m then E.det else -E.det)*pv⟩]/\
      hp 2000000=some ⟨1,ty,[],false⟩/\hp 2000001=some ⟨5,87,[],false⟩/\hp 2000002=some ⟨1,3,Qeg E.piv,false⟩/\hp 4=some ⟨5,87,[.agg [.nilS,.nilS,.bool false,.nilS,.nilS]],false⟩/\
      Qeb (fun r' c'=>if r'=m∨r<=r' then N r' c' else N r' c'-N r' k*N m c') R w tyr π' hp) R ?_ ?_
     ·refine⟨0,rfl,by omega,?_⟩
      simp+decide (disch:=try exact D8 m0 m5 mg mb n0 n1 n2 n4) only[go_sem,m0,m5,mg,mb,n0,n1,n2,n4]
      refine⟨rfl,mr2.congr (fun r hr c' hc'=>if_pos (.inr (by omega))) (fun _ _=>rfl)⟩
     rintro _ J5 h3 ⟨r,rfl,hr2,u0,u5,u106,ug,ub,v0,v1,v2,v4,ur⟩
     simp+decide (disch:=try exact D1 u106) only[go_sem,u106]
     refine Qb (fun hrR=> ?_) (fun hrR=> ?_)
     ·have hr:r<R:=by omega
      simp+decide (disch:=try exact D1 u106) only[go_sem,u106]
      refine Qb (fun hrm=> ?_) (fun hrm=> ?_)
      ·have e0:¬r=m:=by omega
       have ur1:h3 (3000000+π' r)=some ⟨3,tyr,Qh PV.rat (N r) w,false⟩:=by rw[ur.row r hr,Qcd fun c' _=>if_pos (.inr (Nat.le_refl r))]
       have ur2:h3 (3000000+π' m)=some ⟨3,tyr,Qh PV.rat (N m) w,false⟩:=by rw[ur.row m hmR,Qcd fun c' _=>if_pos (.inl rfl)]
       simp+decide (disch:=first|omega|rfl|(simp+decide only[go_sem,u0,u5,ug,ub,v0,v1,v2,v4,ur1,ur2,e0,Nat.le_refl r]<;>rfl)|fail) only[go_sem,u0,u5,ug,ub,v0,v1,v2,v4,ur1,ur2,e0,Nat.le_refl r]
       have hne:3000000+π' r≠3000000+π' m:=fun e=>e0 (ur.inj r m hr hmR (by omega))
       have sub:=Q0i (w:=w) (x:=N r) (y:=N m) (c:=N r k) (ty1:=tyr) (ty2:=tyr) (k:=K) (K:=0) (by omega) (by omega) (hNr r hr e0) hNm (hNr r hr e0 k hkw) (by omega)
       refine Qafc hP sub ur1 ur2 hne rfl (Qsk (by omega)) (by simp[isB];omega) (T1 (show ¬π' m=π' r from fun e=>hne (by omega))) (fun γ hγ=>by simpa[PV.refs,PV.sref]using hγ) (by simp) ?_
       rintro _ xs _ ⟨rfl,rfl⟩
       simp+decide (disch:=try exact D1 u106) only[go_sem,u106]
       refine Qak (R-(r+1)) (by omega) ⟨r+1,rfl,by omega,?_⟩
       simp+decide (disch:=try exact D8 u0 u5 ug ub v0 v1 v2 v4) only[go_sem,u0,u5,ug,ub,v0,v1,v2,v4]
       refine ur.set hr (fun c' hc'=> ?_) (fun s hs hsr c' hc'=> ?_)
       ·rw[if_neg (by omega)]
       ·by_cases e:s=m
        ·rw[if_pos (.inl e),if_pos (.inl e)]
        ·by_cases e2:r<=s
         ·rw[if_pos (.inr (by omega)),if_pos (.inr e2)]
         ·rw[if_neg (by omega),if_neg (by omega)]
      ·obtain rfl:r=m:=by omega
       simp+decide (disch:=try exact D1 u106) only[go_sem,u106]
       refine Qak (R-(r+1)) (by omega) ⟨r+1,rfl,by omega,?_⟩
       simp+decide (disch:=try exact D8 u0 u5 ug ub v0 v1 v2 v4) only[go_sem,u0,u5,ug,ub,v0,v1,v2,v4]
       refine ur.congr (fun r' hr' c' hc'=> ?_) (fun _ _=>rfl)
       by_cases e:r'=r
       ·rw[if_pos (.inl e),if_pos (.inl e)]
       ·by_cases e2:r<=r'
        ·rw[if_pos (.inr (by omega)),if_pos (.inr e2)]
        ·rw[if_neg (by omega),if_neg (by omega)]
     ·simp (disch:=decide) only[Qce,Qci,Qcf,Qct]
      simp+decide (disch:=try exact D8 u0 u5 ug ub v0 v1 v2 v4) only[go_sem,u0,u5,ug,ub,v0,v1,v2,v4]
      rw[Qxd (f:=fun k:Nat=>PV.int .i64 (k:Nat)) (y:=k) (xs:=E.piv) (ty':=3) (fz:=false) (T1 v2) T0 (by omega) rfl (by omega) (by omega) (by omega)]
      simp+decide (disch:=try exact D9 u0 u5 ug ub v0 v1 v2 v4 j16) only[go_sem,u0,u5,ug,ub,v0,v1,v2,v4,j16]
      refine Qak (n-(k+1)) (by omega) ⟨k+1,π',rfl,by omega,?_⟩
      rw[hS,hN2]
      simp+decide (disch:=try exact D8 u0 u5 ug ub v0 v1 v2 v4) only[go_sem,u0,u5,ug,ub,v0,v1,v2,v4]
      refine⟨by simp only[Qk4,List.length_append,List.length_singleton],ur.congr (fun r' hr' c' hc'=> ?_) (fun x hx=> ?_)⟩
      ·unfold Qh6
       by_cases e:r'=m
       ·rw[if_pos e,if_pos (.inl e),e]
       ·rw[if_neg e,if_neg (by omega)]
      ·simp+decide (disch:=try exact D2 (show ¬x=132 from by omega) (show ¬x=2000002 from by omega)) only[go_sem,show ¬x=132 from by omega,show ¬x=2000002 from by omega]
  ·obtain rfl:i=R:=by omega
   simp+decide (disch:=try exact D3 i0 i8 j16) only[go_sem,i0,i8,j16]
   have e1:Qdm i E k=E:=by
    unfold Qdm
    rw[if_pos]
    rw[<-hpi,Nat.sub_self];rfl
   simp (disch:=decide) only[Qce,Qci,Qcf,Qct]
   refine Qak (n-(k+1)) (by omega) ⟨k+1,π,rfl,by omega,?_⟩
   rw[hS,e1]
   simp+decide (disch:=try exact D4 i0 i5 ig ib) only[go_sem,i0,i5,ig,ib]
   exact⟨hg,hb,hpv,h4,hrw⟩
 ·obtain rfl:k=n:=by omega
  simp+decide (disch:=try exact D5 j0 j5 jb hg hb) only[go_sem,j0,j5,jb,hg,hb]
  refine Qagk 136 2 (p:=Qk4 R (Qaf R M k)) T0 (Qade (ty:=ty) (tyr:=tyr) (T1 jg) hpv hrw) fun l hl=> ?_
  have hf4:=(Qi1 (hp:=h) hl (x:=4) (by omega)).trans h4
  simp+decide (disch:=try exact D1 hf4) only[go_sem,hf4]
  refine Qd4 (Qa1 ?_)
  simp+decide (disch:=try exact D1 hf4) only[go_sem,hf4]
  exact Qc rfl rfl
theorem Qg1{l:List RQ}(hl:Qbs l):Qd Tryz.prog 53 [PV.rqs l] (· = .bool (l.all Qdw)):=by
 have hll:=hl.1
 refine Qi Qt Tryz.func53 rfl Qaf2 (by simp[c53]) fun C hP=> ?_;simp only[c53,Zo,Zg,Zm,Zc,Zf,Zl,Zh,Zs,Zi,Zb,Zk,Zn,Zu,Zq,Zr,Zz]
 simp+decide (disch:=try exact D0) only[go_sem]
 refine Qai (by repeat (first|exact Qw|exact Qo|exact Qp|exact Qq|exact Qr|apply Qn|apply Qv|apply Qz|apply Q6|apply Q7|apply Qk|apply Qu)) [(2,2),(4,4),(7,14)] [4] (fun m J hp=>∃i,m=l.length-i/\i<=l.length/\(∀j (h:j<l.length),j<i->Qdw l[j]=true)/\J 7= .int .i64 (i:Nat)) l.length ?_ ?_
 ·refine⟨0,rfl,by omega,by omega,?_⟩
  simp+decide (disch:=try exact D0) only[go_sem]
  rfl
 rintro _ J h ⟨i,rfl,hi,h1,h7⟩
 simp+decide (disch:=try exact D1 h7) only[go_sem,h7]
 refine Qb (fun hg=> ?_) (fun hg=> ?_)
 ·skip
  have hi':i<l.length:=by omega
  have hbt:=hl.2 _ (List.getElem_mem hi')
  have hmem:=List.getElem_mem hi'
  have hadd:Qdw l[i]=true->∀j (h:j<l.length),j<i+1->Qdw l[j]=true:=fun h j hj hji=>by
   by_cases e:j=i
   ·subst e;exact h
   ·exact h1 j hj (by omega)
  generalize hx:l[i]=x at *
  simp+decide (disch:=try exact D2 h7 hx) only[go_sem,h7,hx]
  refine Qa hP (Qxh hbt (by omega)) rfl rfl rfl ?_
  have hs0:Qdw x=Qgn x.n x.a x.d:=rfl
  simp+decide (disch:=first|omega|rfl|(simp+decide only[go_sem,h7,<-hs0]<;>rfl)|fail) only[go_sem,h7,<-hs0]
  cases hs:Qdw x
  ·simp+decide (disch:=try exact D2 h7 hs) only[go_sem,h7,hs]
   refine Qc ?_ rfl
   congr 1
   symm
   rw[List.all_eq_false];exact⟨x,hmem,by simp[hs]⟩
  ·simp+decide (disch:=try exact D2 h7 hs) only[go_sem,h7,hs]
   refine Qab (l.length-(i+1)) (by omega) ⟨i+1,rfl,by omega,hadd hs,?_⟩
   simp+decide (disch:=try exact D0) only[go_sem]
 ·obtain rfl:i=l.length:=by omega
  simp+decide (disch:=try exact D0) only[go_sem]
  refine Qc ?_ rfl
  congr 1
  symm
  rw[List.all_eq_true]
  intro t ht
  obtain⟨j,hj,rfl⟩:=List.getElem_of_mem ht
  exact h1 j hj hj
theorem Qhk{l:List RQ}(hl:Qbs l):Qd Tryz.prog 58 [PV.rqs l] (· = .bool (l.all Qdw)):=by
 have hll:=hl.1
 refine Qi Qt Tryz.func58 rfl Qaf6 (by simp[c58]) fun C hP=> ?_;simp only[c58,Zo,Zg,Zm,Zc,Zf,Zl,Zh,Zs,Zi,Zb,Zk,Zn,Zu,Zq,Zr,Zz]
 simp+decide (disch:=try exact D0) only[go_sem]
 refine Qai (by repeat (first|exact Qw|exact Qo|exact Qp|exact Qq|exact Qr|apply Qn|apply Qv|apply Qz|apply Q6|apply Q7|apply Qk|apply Qu)) [(2,15)] [] (fun m J hp=>∃i,m=l.length-i/\i<=l.length/\(∀j (h:j<l.length),j<i->Qdw l[j]=true)/\J 3= .int .i64 (i:Nat)) l.length ?_ ?_
 ·refine⟨0,rfl,by omega,by omega,?_⟩
  simp+decide (disch:=try exact D0) only[go_sem]
  rfl
 rintro _ J h ⟨i,rfl,hi,h1,h3⟩
 simp+decide (disch:=try exact D1 h3) only[go_sem,h3]
 refine Qb (fun hg=> ?_) (fun hg=> ?_)
 ·skip
  have hi':i<l.length:=by omega
  have hbt:=hl.2 _ (List.getElem_mem hi')
  have hmem:=List.getElem_mem hi'
  have hadd:Qdw l[i]=true->∀j (h:j<l.length),j<i+1->Qdw l[j]=true:=fun h j hj hji=>by
   by_cases e:j=i
   ·subst e;exact h
   ·exact h1 j hj (by omega)
  generalize hx:l[i]=x at *
  simp+decide (disch:=try exact D2 h3 hx) only[go_sem,h3,hx]
  refine Qa hP (Qt4 hbt (by omega)) rfl rfl rfl ?_
  have hs0:Qdw x=Qgn x.n x.a x.d:=rfl
  simp+decide (disch:=first|omega|rfl|(simp+decide only[go_sem,h3,<-hs0]<;>rfl)|fail) only[go_sem,h3,<-hs0]
  cases hs:Qdw x
  ·simp+decide (disch:=try exact D2 h3 hs) only[go_sem,h3,hs]
   refine Qc ?_ rfl
   congr 1
   symm
   rw[List.all_eq_false];exact⟨x,hmem,by simp[hs]⟩
  ·simp+decide (disch:=try exact D2 h3 hs) only[go_sem,h3,hs]
   refine Qab (l.length-(i+1)) (by omega) ⟨i+1,rfl,by omega,hadd hs,?_⟩
   simp+decide (disch:=try exact D0) only[go_sem]
 ·obtain rfl:i=l.length:=by omega
  simp+decide (disch:=try exact D0) only[go_sem]
  refine Qc ?_ rfl
  congr 1
  symm
  rw[List.all_eq_true]
  intro t ht
  obtain⟨j,hj,rfl⟩:=List.getElem_of_mem ht
  exact h1 j hj hj
theorem Qox{r c:Int}{l:List RQ}(hl:Qbs l):Qd Tryz.prog 52 [PV.rmat r c l] (· = .bool (Qbh r c l)):=by
 refine Qi Qt Tryz.func52 rfl Qaf1 (by simp[c52]) fun C hP=> ?_;simp only[c52,Zo,Zg,Zm,Zc,Zf,Zl,Zh,Zs,Zi,Zb,Zk,Zn,Zu,Zq,Zr,Zz]
 have hll:=hl.1
 simp+decide (disch:=try exact D0) only[go_sem]
 by_cases h1:r<0
 ·simp+decide (disch:=try exact D1 h1) only[go_sem,h1]
  exact Qc (by rw[Qbh,decide_eq_false (by omega)];rfl) rfl
 simp+decide (disch:=try exact D1 h1) only[go_sem,h1]
 by_cases h2:40<r
 ·simp+decide (disch:=try exact D1 h2) only[go_sem,h2]
  exact Qc (by rw[Qbh,decide_eq_false (by omega)];rfl) rfl
 simp+decide (disch:=try exact D1 h2) only[go_sem,h2]
 by_cases h3:c<0
 ·simp+decide (disch:=try exact D1 h3) only[go_sem,h3]
  exact Qc (by rw[Qbh,decide_eq_false (by omega)];rfl) rfl
 simp+decide (disch:=try exact D1 h3) only[go_sem,h3]
 by_cases h4:40<c
 ·simp+decide (disch:=try exact D1 h4) only[go_sem,h4]
  exact Qc (by rw[Qbh,decide_eq_false (by omega)];rfl) rfl
 obtain⟨R,rfl⟩:=Int.eq_ofNat_of_zero_le (show 0<=r by omega)
 obtain⟨m,rfl⟩:=Int.eq_ofNat_of_zero_le (show 0<=c by omega)
 have hRm:R*m<=40*40:=Nat.mul_le_mul (by omega) (by omega)
 have e1:(R:Int)*(m:Int)=((R*m:Nat):Int):=by rw[Int.natCast_mul]
 simp+decide (disch:=try exact D2 h4 e1) only[go_sem,h4,e1]
 refine Qb (fun hl2=> ?_) (fun hl2=> ?_)
 ·simp+decide (disch:=try exact D0) only[go_sem]
  exact Qc (by rw[Qbh,e1,decide_eq_false (fun h=>hl2 h.2.2.2.2)];rfl) rfl
 simp+decide (disch:=try exact D0) only[go_sem]
 refine Qa hP (Qg1 hl) rfl rfl rfl ?_
 simp+decide (disch:=try exact D0) only[go_sem]
 exact Qc (by rw[Qbh,e1,decide_eq_true ⟨by omega,by omega,by omega,by omega,by omega⟩,Bool.true_and]) rfl
theorem Qm3{r c:Int}{l:List RQ}(hl:Qbs l):Qd Tryz.prog 57 [PV.rmat r c l] (· = .bool (Qbh r c l)):=by
 refine Qi Qt Tryz.func57 rfl Qaf5 (by simp[c57]) fun C hP=> ?_;simp only[c57,Zo,Zg,Zm,Zc,Zf,Zl,Zh,Zs,Zi,Zb,Zk,Zn,Zu,Zq,Zr,Zz]
 have hll:=hl.1
 simp+decide (disch:=try exact D0) only[go_sem]
 by_cases h1:r<0
 ·simp+decide (disch:=try exact D1 h1) only[go_sem,h1]
  exact Qc (by rw[Qbh,decide_eq_false (by omega)];rfl) rfl
 simp+decide (disch:=try exact D1 h1) only[go_sem,h1]
 by_cases h2:40<r
 ·simp+decide (disch:=try exact D1 h2) only[go_sem,h2]
  exact Qc (by rw[Qbh,decide_eq_false (by omega)];rfl) rfl
 simp+decide (disch:=try exact D1 h2) only[go_sem,h2]
 by_cases h3:c<0
 ·simp+decide (disch:=try exact D1 h3) only[go_sem,h3]
  exact Qc (by rw[Qbh,decide_eq_false (by omega)];rfl) rfl
 simp+decide (disch:=try exact D1 h3) only[go_sem,h3]
 by_cases h4:40<c
 ·simp+decide (disch:=try exact D1 h4) only[go_sem,h4]
  exact Qc (by rw[Qbh,decide_eq_false (by omega)];rfl) rfl
 obtain⟨R,rfl⟩:=Int.eq_ofNat_of_zero_le (show 0<=r by omega)
 obtain⟨m,rfl⟩:=Int.eq_ofNat_of_zero_le (show 0<=c by omega)
 have hRm:R*m<=40*40:=Nat.mul_le_mul (by omega) (by omega)
 have e1:(R:Int)*(m:Int)=((R*m:Nat):Int):=by rw[Int.natCast_mul]
 simp+decide (disch:=try exact D2 h4 e1) only[go_sem,h4,e1]
 refine Qb (fun hl2=> ?_) (fun hl2=> ?_)
 ·simp+decide (disch:=try exact D0) only[go_sem]
  exact Qc (by rw[Qbh,e1,decide_eq_false (fun h=>hl2 h.2.2.2.2)];rfl) rfl
 simp+decide (disch:=try exact D0) only[go_sem]
 refine Qa hP (Qhk hl) rfl rfl rfl ?_
 simp+decide (disch:=try exact D0) only[go_sem]
 exact Qc (by rw[Qbh,e1,decide_eq_true ⟨by omega,by omega,by omega,by omega,by omega⟩,Bool.true_and]) rfl
def Qub(r c:Int)(l:List RQ):PV:=if 0<=r/\r<=40/\0<=c/\c<=40 then(if(l.length:Int)=r*c then(if l.all Qdw then .tup [PV.rmat r c l,.int .i64 0]else .tup [PV.rmat 0 0 [],.int .i64 1])else .tup [PV.rmat 0 0 [],.int .i64 16])else .tup [PV.rmat 0 0 [],.int .i64 2]
theorem Qagl{r c:Int}{l:List RQ}(hl:Qbs l):Qd Tryz.prog 45 [.int .i64 r,.int .i64 c,PV.rqs l] (· =Qub r c l):=by
 refine Qi Qt Tryz.func45 rfl Qaf3 (by simp[c45]) fun C hP=> ?_;simp only[c45,Zo,Zg,Zm,Zc,Zf,Zl,Zh,Zs,Zi,Zb,Zk,Zn,Zu,Zq,Zr,Zz]
 have hll:=hl.1
 simp+decide (disch:=try exact D0) only[go_sem]
 unfold Qub
 by_cases h0:¬(0<=r/\r<=40/\0<=c/\c<=40)
 ·rw[if_neg h0]
  by_cases h1:r<0
  ·simp+decide (disch:=try exact D1 h1) only[go_sem,h1]
   refine Qb1 ?_
   simp+decide (disch:=try exact D0) only[go_sem]
   exact Qb2 rfl rfl rfl Qja (Qy _)
  simp+decide (disch:=try exact D1 h1) only[go_sem,h1]
  by_cases h2:40<r
  ·simp+decide (disch:=try exact D1 h2) only[go_sem,h2]
   refine Qb1 ?_
   simp+decide (disch:=try exact D0) only[go_sem]
   exact Qb2 rfl rfl rfl Qja (Qy _)
  simp+decide (disch:=try exact D1 h2) only[go_sem,h2]
  by_cases h3:c<0
  ·simp+decide (disch:=try exact D1 h3) only[go_sem,h3]
   refine Qb1 ?_
   simp+decide (disch:=try exact D0) only[go_sem]
   exact Qb2 rfl rfl rfl Qja (Qy _)
  have h4:40<c:=by omega
  simp+decide (disch:=try exact D2 h3 h4) only[go_sem,h3,h4]
  refine Qb1 ?_
  simp+decide (disch:=try exact D0) only[go_sem]
  exact Qb2 rfl rfl rfl Qja (Qy _)
 have h0:=Classical.not_not.1 h0
 rw[if_pos h0]
 obtain⟨R,rfl⟩:=Int.eq_ofNat_of_zero_le (show 0<=r by omega)
 obtain⟨m,rfl⟩:=Int.eq_ofNat_of_zero_le (show 0<=c by omega)
 have hRm:R*m<=40*40:=Nat.mul_le_mul (by omega) (by omega)
 have e1:(R:Int)*(m:Int)=((R*m:Nat):Int):=by rw[Int.natCast_mul]
 simp+decide (disch:=first|exact D5 (show ¬(R:Int)<0 from by omega) (show ¬(m:Int)<0 from by omega) (show ¬40<(R:Int)from by omega) (show ¬40<(m:Int)from by omega) e1|fail) only[go_sem,show ¬(R:Int)<0 from by omega,show ¬(m:Int)<0 from by omega,show ¬40<(R:Int)from by omega,show ¬40<(m:Int)from by omega,e1]
 refine Qb (fun hl2=> ?_) (fun hl2=> ?_)
 ·rw[if_neg hl2]
  simp+decide (disch:=try exact D0) only[go_sem]
  refine Qb1 ?_
  simp+decide (disch:=try exact D0) only[go_sem]
  exact Qb2 rfl rfl rfl Qja (Qy _)
 rw[if_pos (by omega)]
 simp+decide (disch:=try exact D0) only[go_sem]
 refine Qa hP (Qg1 hl) rfl rfl rfl ?_
 cases hq:l.all Qdw
 ·simp+decide (disch:=try exact D0) only[go_sem]
  refine Qb1 ?_
  simp+decide (disch:=try exact D0) only[go_sem]
  exact Qb2 rfl rfl rfl Qja (Qy _)
 simp+decide (disch:=try exact D0) only[go_sem]
 rw[Qahn (xs:=l.map PV.rq) rfl rfl Tr0 (by simp)]
 simp+decide (disch:=try exact E0) only[go_sem,Qac,List.contains_cons,List.contains_nil,List.flatMap_cons,List.flatMap_nil,List.append_nil]
 refine Qb1 ?_
 simp+decide (disch:=try exact D0) only[go_sem]
 exact Qb2 rfl rfl rfl (Qy _) (Qy _)
def RRk(k:Nat)(l:List RQ):Prop:=∀q∈l,Raw k q.n q.a q.d
theorem Qbs.k{l:List RQ}(h:Qbs l):RRk 1048576 l:=h.2
theorem RRk.of{l:List Rat}{k:Nat}(h:∀q∈l,rs q<=k):RRk k (l.map qR):=fun x hx=>by
 obtain⟨q,hq,rfl⟩:=List.mem_map.1 hx
 exact Qcn (h q hq)
theorem Qpm{a b:List RQ}{k:Nat}(ha:RRk k a)(hb:RRk k b)(hk:k<2^34)(la:a.length<2^40)(lb:b.length<2^40):Qd Tryz.prog 17 [PV.rqs a,PV.rqs b] (· = .bool (decide (a.map rqV=b.map rqV))):=by
 refine Qi Qt Tryz.func17 rfl Qaf7 (by simp[c17]) fun C hP=> ?_;simp only[c17,Zo,Zg,Zm,Zc,Zf,Zl,Zh,Zs,Zi,Zb,Zk,Zn,Zu,Zq,Zr,Zz]
 simp+decide (disch:=try exact D0) only[go_sem]
 refine Qb (fun hg=> ?_) (fun hg=> ?_)
 ·simp+decide (disch:=try exact D0) only[go_sem]
  refine Qc ?_ rfl
  rw[decide_eq_false]
  intro e
  have:=congrArg List.length e
  simp at this;omega
 have hab:a.length=b.length:=by omega
 simp+decide (disch:=try exact D0) only[go_sem]
 refine Qai (by repeat (first|exact Qw|exact Qo|exact Qp|exact Qq|exact Qr|apply Qn|apply Qv|apply Qz|apply Q6|apply Q7|apply Qk|apply Qu)) [(4,5),(11,26)] [] (fun m J hp=>∃i,m=a.length-i/\i<=a.length/\(∀j (h1:j<a.length) (h2:j<b.length),j<i->rqV a[j]=rqV b[j])/\J 5= .int .i64 (i:Nat)) a.length ?_ ?_
 ·refine⟨0,rfl,by omega,by omega,?_⟩
  simp+decide (disch:=try exact D0) only[go_sem]
  rfl
 rintro _ J h ⟨i,rfl,hi,h1,h5⟩
 simp+decide (disch:=try exact D1 h5) only[go_sem,h5]
 refine Qb (fun hg=> ?_) (fun hg=> ?_)
 ·skip
  have hi':i<a.length:=by omega
  have hib:i<b.length:=by omega
  have hbt:=ha _ (List.getElem_mem hi')
  have hbt2:=hb _ (List.getElem_mem hib)
  have hne:rqV a[i]≠rqV b[i]->a.map rqV≠b.map rqV:=fun h e=>h (by
   have:=congrArg (fun l=>l[i]?) e
   simpa[hi',hib]using this)
  have hadd:rqV a[i]=rqV b[i]->∀j (h1:j<a.length) (h2:j<b.length),j<i+1->rqV a[j]=rqV b[j]:=fun h j hj hj2 hji=>by
   by_cases e:j=i
   ·subst e;exact h
   ·exact h1 j hj hj2 (by omega)
  generalize hx:a[i]=x at *
  generalize hy:b[i]=y at *
  simp+decide (disch:=try exact D3 h5 hx hy) only[go_sem,h5,hx,hy]
  refine Qa hP (Qnd hbt hbt2 hk) rfl rfl rfl ?_
  by_cases e:rqV x=rqV y
  ·have e':rv x.n x.a x.d=rv y.n y.a y.d:=e
   simp+decide (disch:=try exact D2 h5 e') only[go_sem,h5,e']
   refine Qab (a.length-(i+1)) (by omega) ⟨i+1,rfl,by omega,hadd e,?_⟩
   simp+decide (disch:=try exact D0) only[go_sem]
  ·have e':¬rv x.n x.a x.d=rv y.n y.a y.d:=e
   simp+decide (disch:=try exact D2 h5 e') only[go_sem,h5,e']
   refine Qc ?_ rfl
   rw[decide_eq_false (hne e)]
 ·obtain rfl:i=a.length:=by omega
  simp+decide (disch:=try exact D1 h5) only[go_sem,h5]
  refine Qc ?_ rfl
  rw[decide_eq_true]
  refine List.ext_getElem (by simp[hab]) fun j j1 j2=> ?_
  rw[List.getElem_map,List.getElem_map]
  exact h1 j (by simpa using j1) (by simpa using j2) (by simpa using j1)
def Qc9(l:List RQ)(n:Nat):Bool:=decide (l.length<=n)&&l.all fun q=>decide (q.a.length<=3)&&decide (q.d.length<=3)
theorem Qp5{l:List RQ}{n:Nat}(hl:Qbs l):Qd Tryz.prog 11 [PV.rqs l,.int .i64 (n:Nat)] (· = .bool (Qc9 l n)):=by
 have hll:=hl.1
 refine Qi Qt Tryz.func11 rfl Qaga (by simp[c11]) fun C hP=> ?_;simp only[c11,Zo,Zg,Zm,Zc,Zf,Zl,Zh,Zs,Zi,Zb,Zk,Zn,Zu,Zq,Zr,Zz]
 simp+decide (disch:=try exact D0) only[go_sem]
 refine Qb (fun h0=> ?_) (fun h0=> ?_)
 ·simp+decide (disch:=try exact D0) only[go_sem]
  exact Qc (by rw[Qc9,decide_eq_false (by omega)];rfl) rfl
 simp+decide (disch:=try exact D0) only[go_sem]
 refine Qai (by repeat (first|exact Qw|exact Qo|exact Qp|exact Qq|exact Qr|apply Qn|apply Qv|apply Qz|apply Q6|apply Q7|apply Qk|apply Qu)) [(4,5),(10,32)] [] (fun m J hp=>∃i,m=l.length-i/\i<=l.length/\(∀j (h:j<l.length),j<i->l[j].a.length<=3/\l[j].d.length<=3)/\J 5= .int .i64 (i:Nat)) l.length ?_ ?_
 ·refine⟨0,rfl,by omega,by omega,?_⟩
  simp+decide (disch:=try exact D0) only[go_sem]
  rfl
 rintro _ J h ⟨i,rfl,hi,h1,h5⟩
 simp+decide (disch:=try exact D1 h5) only[go_sem,h5]
 refine Qb (fun hg=> ?_) (fun hg=> ?_)
 ·have hi':i<l.length:=by omega
  have hmem:=List.getElem_mem hi'
  have hno:¬(l[i].a.length<=3/\l[i].d.length<=3)->Qc9 l n=false:=fun h=>by
   unfold Qc9
   rw[Bool.and_eq_false_iff]
   right
   rw[List.all_eq_false]
   exact⟨_,hmem,by simpa using h⟩
  have hadd:l[i].a.length<=3/\l[i].d.length<=3->∀j (h:j<l.length),j<i+1->l[j].a.length<=3/\l[j].d.length<=3:=fun h j hj hji=>by
   by_cases e:j=i
   ·subst e;exact h
   ·exact h1 j hj (by omega)
  generalize hx:l[i]=x at *
  simp+decide (disch:=try exact D2 h5 hx) only[go_sem,h5,hx]
  by_cases g1:3<x.a.length
  ·simp+decide (disch:=first|exact D3 h5 hx (show(3:Int)<(x.a.length:Int)from by omega)|fail) only[go_sem,h5,hx,show(3:Int)<(x.a.length:Int)from by omega]
   exact Qc (by rw[hno (by omega)]) rfl
  simp+decide (disch:=first|exact D3 h5 hx (show ¬(3:Int)<(x.a.length:Int)from by omega)|fail) only[go_sem,h5,hx,show ¬(3:Int)<(x.a.length:Int)from by omega]
  by_cases g2:3<x.d.length
  ·simp+decide (disch:=first|exact D3 h5 hx (show(3:Int)<(x.d.length:Int)from by omega)|fail) only[go_sem,h5,hx,show(3:Int)<(x.d.length:Int)from by omega]
   exact Qc (by rw[hno (by omega)]) rfl
  simp+decide (disch:=first|exact D3 h5 hx (show ¬(3:Int)<(x.d.length:Int)from by omega)|fail) only[go_sem,h5,hx,show ¬(3:Int)<(x.d.length:Int)from by omega]
  refine Qab (l.length-(i+1)) (by omega) ⟨i+1,rfl,by omega,hadd (by omega),?_⟩
  simp+decide (disch:=try exact D0) only[go_sem]
 ·obtain rfl:i=l.length:=by omega
  simp+decide (disch:=try exact D1 h5) only[go_sem,h5]
  refine Qc ?_ rfl
  congr 1
  symm
  unfold Qc9
  rw[decide_eq_true (by omega),Bool.true_and,List.all_eq_true]
  intro t ht
  obtain⟨j,hj,rfl⟩:=List.getElem_of_mem ht
  simpa using h1 j hj hj
structure RM where
 r:Int
 c:Int
 l:List RQ
 deriving Inhabited
abbrev PV.rm(m:RM):PV:=PV.rmat m.r m.c m.l
theorem Qwk{l:List RM}(hl:∀m∈l,Qbs m.l)(hll:l.length<=1048576):Qd Tryz.prog 10 [.sl 3 (l.map PV.rm)] (· = .bool (l.all fun m=>Qc9 m.l 25)):=by
 refine Qi Qt Tryz.func10 rfl Qagb (by simp[c10]) fun C hP=> ?_;simp only[c10,Zo,Zg,Zm,Zc,Zf,Zl,Zh,Zs,Zi,Zb,Zk,Zn,Zu,Zq,Zr,Zz]
 simp+decide (disch:=try exact D0) only[go_sem]
 refine Qai (by repeat (first|exact Qw|exact Qo|exact Qp|exact Qq|exact Qr|apply Qn|apply Qv|apply Qz|apply Q6|apply Q7|apply Qk|apply Qu)) [(2,16)] [] (fun m J hp=>∃i,m=l.length-i/\i<=l.length/\(∀j (h:j<l.length),j<i->Qc9 l[j].l 25=true)/\J 3= .int .i64 (i:Nat)) l.length ?_ ?_
 ·refine⟨0,rfl,by omega,by omega,?_⟩
  simp+decide (disch:=try exact D0) only[go_sem]
  rfl
 rintro _ J h ⟨i,rfl,hi,h1,h3⟩
 simp+decide (disch:=try exact D1 h3) only[go_sem,h3]
 refine Qb (fun hg=> ?_) (fun hg=> ?_)
 ·have hi':i<l.length:=by omega
  have hmem:=List.getElem_mem hi'
  have hbt:=hl _ hmem
  have hadd:Qc9 l[i].l 25=true->∀j (h:j<l.length),j<i+1->Qc9 l[j].l 25=true:=fun h j hj hji=>by
   by_cases e:j=i
   ·subst e;exact h
   ·exact h1 j hj (by omega)
  generalize hx:l[i]=x at *
  simp+decide (disch:=try exact D2 h3 hx) only[go_sem,h3,hx]
  refine Qa hP (Qp5 (n:=25) hbt) rfl rfl rfl ?_
  cases hs:Qc9 x.l 25
  ·simp+decide (disch:=try exact D1 h3) only[go_sem,h3]
   refine Qc ?_ rfl
   congr 1
   symm
   rw[List.all_eq_false];exact⟨x,hmem,by simp[hs]⟩
  ·simp+decide (disch:=try exact D1 h3) only[go_sem,h3]
   refine Qab (l.length-(i+1)) (by omega) ⟨i+1,rfl,by omega,hadd hs,?_⟩
   simp+decide (disch:=try exact D0) only[go_sem]
 ·obtain rfl:i=l.length:=by omega
  simp+decide (disch:=try exact D1 h3) only[go_sem,h3]
  refine Qc ?_ rfl
  congr 1
  symm
  rw[List.all_eq_true]
  intro t ht
  obtain⟨j,hj,rfl⟩:=List.getElem_of_mem ht
  exact h1 j hj hj
end Go.Proofs.YtkoclfmjlolkhaaGreat
namespace Go.FW
open Go
abbrev LF:=Rat×(Nat->Rat)
def Q0m(M:MF)(f:LF):MF:=fun r c=>M r c-f.1*f.2 r*f.2 c
def Qki(M:MF)(l:List LF):MF:=l.foldl Q0m M
theorem Q0n(M:MF)(l:List LF)(f:LF):Qki M (l++[f])=Q0m (Qki M l) f:=by simp[Qki]
def Qby(R:Nat)(M:MF):Nat->MF×List LF
 |0=>(M,[])
 |k+1=>(Qki (Qby R M k).1 (Qfd (Qby R M k).1 R),(Qby R M k).2++Qfd (Qby R M k).1 R)
def Qew(R:Nat)(l:List LF):List Rat:=l.flatMap fun f=>(List.range R).map f.2
theorem Qjz(R:Nat)(l:List LF):(Qew R l).length=l.length*R:=by
 induction l with
 |nil=>simp[Qew]
 |cons f l ih=>
  unfold Qew at ih⊢
  rw[List.flatMap_cons,List.length_append,ih,List.length_cons,Nat.add_mul]
  simp;omega
theorem Q0o(R:Nat)(l:List LF)(f:LF):Qew R (l++[f])=Qew R l++(List.range R).map f.2:=by simp[Qew]
theorem Qfe(f:Nat->Rat)(w:Nat):Qh PV.rat f w=((List.range w).map f).map PV.rat:=by simp[Qh]
theorem Qn6(M:MF)(R:Nat):(Qfd M R).length<=2:=by
 unfold Qfd;split
 ·simp
 ·split<;>simp
theorem Qpn(R:Nat)(M:MF):∀k,(Qby R M k).2.length<=2*k
 |0=>by simp[Qby]
 |k+1=>by
  have:=Qpn R M k
  have:=Qn6 (Qby R M k).1 R
  simp only[Qby,List.length_append];omega
def Q80(K R n:Nat)(M:MF):Prop:=∀k,k<=n->MBd K R R (Qby R M k).1/\(∀f∈Qfd (Qby R M k).1 R,rs f.1<=K/\∀c,c<R->rs (f.2 c)<=K)/\∀j,j<=(Qfd (Qby R M k).1 R).length->MBd K R R (Qki (Qby R M k).1 ((Qfd (Qby R M k).1 R).take j))
end Go.FW
