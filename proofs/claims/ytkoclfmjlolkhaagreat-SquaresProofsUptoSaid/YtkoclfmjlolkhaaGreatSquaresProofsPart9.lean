/- Part 9 of the proof of SquaresProofs: A4, A5, A6, FwVB. Own lemmas; no conditions. -/
import Derived.Test.YtkoclfmjlolkhaaGreatSquaresProofsPart8
set_option maxHeartbeats 1000000
set_option linter.unusedSimpArgs false
set_option linter.unusedVariables false
set_option linter.unnecessarySimpa false
set_option maxRecDepth 100000
namespace Go.Proofs.YtkoclfmjlolkhaaGreat
open Go Go.FW
abbrev PV.zS(R w:Nat)(E:ox):PV:= .agg [.sl 1 (xm E.M R w),.sl 1 (E.ax.map fun k=> .int .i64 (k:Nat)),.bool (decide (E.cr.num<0)),PV.num E.cr.num.natAbs,PV.num E.cr.den]
abbrev vB(l:List Nat):List PV:=l.map fun k=> .int .i64 (k:Nat)
abbrev sv(R:Nat)(E:ox):PV:= .bm [.aG 2000000 0 R,.aB 2000002 0 E.ax.length,.bool (decide (E.cr.num<0)),PV.num E.cr.num.natAbs,PV.num E.cr.den]
structure mJ(M:MF)(R w tyr:Nat)(π:Nat->Nat)(hp:HP):Prop where
 lt:∀r,r<R->π r<R
 inj:∀r s,r<R->s<R->π r=π s->r=s
 row:∀r,r<R->hp (3000000+π r)=some ⟨3,tyr,Qo PV.rat (M r) w,false⟩
theorem mJ.set{M M':MF}{R w tyr r:Nat}{π:Nat->Nat}{hp:HP}{f:Nat->Rat}(h:mJ M R w tyr π hp)(hr:r<R)(h1:∀c,c<w->M' r c=f c)(h2:∀s,s<R->s≠r->∀c,c<w->M' s c=M s c):
  mJ M' R w tyr π (Qi hp (3000000+π r) ⟨3,tyr,Qo PV.rat f w,false⟩):=by
 refine⟨h.lt,h.inj,fun s hs=> ?_⟩
 unfold Qi
 by_cases e:s=r
 ·subst e;rw[if_pos rfl,nC h1]
 ·rw[if_neg (fun e2=>e (h.inj s r hs hr Oz)),h.row s hs,nC (h2 s hs e)]
theorem mJ.congr{M M':MF}{R w tyr:Nat}{π:Nat->Nat}{hp hp':HP}(h:mJ M R w tyr π hp)(h1:∀r,r<R->∀c,c<w->M' r c=M r c)(h2:∀x,3000000<=x->hp' x=hp x):mJ M' R w tyr π hp':=
 ⟨h.lt,h.inj,fun s hs=>by rw[h2 _ Oz,h.row s hs,nC (h1 s hs)]⟩
theorem mJ.swap{M:MF}{R w tyr i m:Nat}{π:Nat->Nat}{hp:HP}(h:mJ M R w tyr π hp)(hi:i<R)(hm:m<R):mJ (cz M i m) R w tyr (fun x=>if x=m then π i else if x=i then π m else π x) hp:=by
 have hl:∀r,r<R->∃s,s<R/\(if r=m then π i else if r=i then π m else π r)=π s/\cz M i m r=M s/\((r=m/\s=i)∨(r≠m/\r=i/\s=m)∨(r≠m/\r≠i/\s=r)):=fun r hr=>by
  unfold cz
  by_cases e:r=m
  ·exact⟨i,hi,by simp[e],by simp[e],.inl ⟨e,rfl⟩⟩
  ·by_cases e2:r=i
   ·exact⟨m,hm,by rw[if_neg e,if_pos e2],by rw[if_neg e,if_pos e2],.inr (.inl ⟨e,e2,rfl⟩)⟩
   ·exact⟨r,hr,by rw[if_neg e,if_neg e2],by rw[if_neg e,if_neg e2],.inr (.inr ⟨e,e2,rfl⟩)⟩
 refine⟨fun r hr=> ?_,fun r s hr hs e=> ?_,fun r hr=> ?_⟩
 ·obtain⟨s,h1,h2,_⟩:=hl r hr
  show(if r=m then π i else if r=i then π m else π r)<R
  rw[h2];exact h.lt s h1
 ·obtain⟨a,a1,a2,_,a4⟩:=hl r hr
  obtain⟨b,b1,b2,_,b4⟩:=hl s hs
  have:=h.inj a b a1 b1 (by rw[<-a2,<-b2];exact e)
  omega
 ·obtain⟨s,h1,h2,h3,_⟩:=hl r hr
  show hp (3000000+(if r=m then π i else if r=i then π m else π r))=_
  rw[h2,h3];exact h.row s h1
theorem ahE{fr:Fr}{hp:HP}{R w ty tyr:Nat}{π:Nat->Nat}{E:ox}(hg:fr 2000000= .aF 2000000 1 ty (Qy (bW 3000000 R w π)))(uu:hp 2000002=some ⟨1,3,vB E.ax,false⟩)(ux:mJ E.M R w tyr π hp):
  vt fr 2 (sv R E)/\qQ fr hp 2 (sv R E)=PV.zS R w E/\∀x∈zM fr 2 (sv R E),2000000<=x:=by
 have hl:R=(bW 3000000 R w π).length:=(XE _ _ _ _).symm
 have hm:∀x∈bW 3000000 R w π,2000000<=x.1/\∃r,r<R/\x=(3000000+π r,w):=fun x hx=>by
  obtain⟨r,hr,rfl⟩:=Kau.1 hx
  exact⟨by show 2000000<=3000000+π r;omega,r,Kbz.1 hr,rfl⟩
 have o1:=Mk hg hl Oz (fun x hx=>(hm x hx).1)
 refine⟨?_,?_,?_⟩
 ·intro c hc
  simp only[KaG,Kb7,or_false]at hc
  rcases hc with rfl|rfl|rfl|rfl|rfl
  ·exact o1
  ·simp only[pG,aP];simp
  ·trivial
  ·trivial
  ·trivial
 ·obtain⟨ys,oh⟩:∃ys:Nat->List PV,∀r,r<R->ys (3000000+π r)=Qo PV.rat (E.M r) w:=by
   refine⟨fun x=>match hp x with|some hb=>hb.xs|none=>[],fun r hr=> ?_⟩
   simp only[ux.row r hr]
  have o2:=NL (hp:=hp) (e':=3) hg hl ys (fun x hx=>by
   obtain⟨_,r,hr,rfl⟩:=hm x hx
   refine⟨tyr,false,?_⟩
   show hp (3000000+π r)=some ⟨3,tyr,ys (3000000+π r),false⟩
   rw[oh r hr,ux.row r hr])
  have o3:fO fr hp 2 (.aG 2000000 0 R)= .sl 1 (xm E.M R w):=by
   refine Eq.trans o2 ?_
   unfold xm bW
   rw[KbE]
   congr 1
   refine KaL fun r hr=> ?_
   simp only[Function.comp,oh r (Kbz.1 hr)]
   rw[Kac (by rw[fW];omega)]
  have o4:fO fr hp 2 (.aB 2000002 0 E.ax.length)= .sl 1 (vB E.ax):=by
   simp only[fO,uu,Ka6]
   rw[Kac (by simp)]
  show PV.agg [fO fr hp 2 (.aG 2000000 0 R),fO fr hp 2 (.aB 2000002 0 E.ax.length),_,_,_]=_
  rw[o3,o4]
  rfl
 ·intro x hx
  obtain⟨c,hc,hx⟩:=Kat.1 hx
  simp only[KaG,Kb7,or_false]at hc
  rcases hc with rfl|rfl|rfl|rfl|rfl
  ·simp only[ov,hg,KaG,Ka6]at hx
   rcases hx with rfl|hx
   ·omega
   ·obtain⟨y,hy,hx⟩:=Kat.1 hx
    obtain⟨z,hz,rfl⟩:=Kau.1 (Kbf hy)
    have:=(hm z hz).1
    simp only[PV.aU,PV.cells,Kaz,KaF,ov,Kam,KaB]at hx
    omega
  ·simp only[ov,KaB]at hx;omega
  ·simp[ov]at hx
  ·simp[ov]at hx
  ·simp[ov]at hx
theorem WX {M:MF} {R w n K ty tyr:Nat} (hR:0<R) (df:R<=40) (hw:w<=40) (hn:n<=w) (hK:K<=2^20) (hB:∀k,k<=n->eV K R w (Qt R M k).M/\rs (Qt R M k).cr<=K):
  jC Tryz.prog 55 [.aG 2000000 0 R,.int .i64 (n:Nat)] (ae (fun _=> .undef) 2000000 (.aF 2000000 1 ty (Qy (bW 3000000 R w id))))
   (fun x=>if x=2000000 then some ⟨1,ty,[],false⟩else if 3000000<=x/\x<3000000+R then some ⟨3,tyr,Qo PV.rat (M (x-3000000)) w,false⟩else none)
   (fun r _ _=>r=PV.zS R w (Qt R M n)):=by
 refine tr Qg Tryz.func55 rfl ajT Nz fun C hP=> ?_;simp only[TF];refine ic ?_
 have hN:∀r,r<R->(3000000+r<3000000+R):=fun r h=>by omega
 refine Sz0 ?_
 refine Qb hP (oW (x:=1) Oz Oz) ?_
 refine Sz0 ?_
 refine et (qG 5 2000001 rfl Oz rfl Oz) ?_
 refine Sz0 ?_
 refine et (xd (γ:=2000001) (e:=5) (ty:=87) (xs:=[.agg [.al,.al,.bool false,.al,.al]]) (fz:=false) Tz0 (by simp) Oz (fun x hx=>by rw[KaB.1 hx];rfl)) ?_
 refine Sz0 ?_
 refine et (ahB (γ:=2000001) (e:=5) (ty:=87) (cs:=[.aG 2000000 0 R,.al,.bool false,PV.num ((1:Int):Rat).num.natAbs,PV.num ((1:Int):Rat).den]) (cs':=[.aG 2000000 0 R,.aB 2000002 0 0,.bool false,PV.num ((1:Int):Rat).num.natAbs,PV.num ((1:Int):Rat).den]) 2000002 1 3 Tz0 Tz0 Oz Oz rfl (by simp)) ?_
 refine Sz0 ?_
 refine iz okB [(0,0),(5,11),(16,135),(2000000,2000001)] [9,132,133] (fun m J hp=>∃k π,m=n-k/\k<=n/\J 0= .aG 2000000 0 R/\J 5= .np 2000001 0 0/\J 16= .int .i64 (k:Nat)/\J 2000000= .aF 2000000 1 ty (Qy (bW 3000000 R w π))/\J 2000001= .aF 2000001 5 87 [sv R (Qt R M k)]/\
   hp 2000000=some ⟨1,ty,[],false⟩/\hp 2000001=some ⟨5,87,[],false⟩/\hp 2000002=some ⟨1,3,vB (Qt R M k).ax,false⟩/\hp 4=some ⟨5,87,[.agg [.al,.al,.bool false,.al,.al]],false⟩/\mJ (Qt R M k).M R w tyr π hp) n ?_ ?_
 ·refine⟨0,id,rfl,by omega,?_⟩
  refine Sz0 ?_
  refine⟨rfl,rfl,rfl,fun r hr=>hr,fun r s _ _ e=>e,fun r hr=> ?_⟩
  simp+decide (disch:=first|omega|rfl|(simp+decide only[go_sem,id,Kbq,hr]<;>rfl)|fail) only[go_sem,id,Kbq,hr]
  rw[if_pos ⟨by omega,by omega⟩]
  rfl
 rintro _ J h ⟨k,π,rfl,hk,j0,j5,uF,jg,jb,hg,hb,uu,h4,ux⟩
 refine Sz1 uF ?_
 refine Qa (fun hc=> ?_) (fun hc=> ?_)
 ·have cf:k<n:=by omega
  have KY:k<w:=by omega
  have sF:=hB k hk
  have Cd:=hB (k+1) cf
  have bx:=kR R M k
  have hS:Qt R M (k+1)=dM R (Qt R M k) k:=rfl
  obtain⟨E,hE⟩:∃E,Qt R M k=E:=⟨_,rfl⟩
  rw[hS]at Cd
  rw[hE]at sF Cd bx jb uu ux hS
  refine Sz9 j0 j5 uF jg jb hg hb uu h4 ?_
  refine iz okB [(0,0),(5,5),(8,8),(23,39),(2000000,2000001)] [] (fun q J hp=>∃i,q=R-i/\E.ax.length<=i/\i<=R/\oU E.M k (R-i) i=dX E.M R k E.ax.length/\J 0= .aG 2000000 0 R/\J 5= .np 2000001 0 0/\J 8= .int .i64 (i:Nat)/\J 2000000= .aF 2000000 1 ty (Qy (bW 3000000 R w π))/\J 2000001= .aF 2000001 5 87 [sv R E]/\h=hp) (R-E.ax.length) ?_ ?_
  ·refine⟨E.ax.length,rfl,Kaf _,bx.2.1,rfl,?_⟩
   exact Tz4 j0 j5 jg jb
  rintro _ J2 _ ⟨i,rfl,wa,gj,sP,i0,i5,i8,ig,ib,rfl⟩
  refine Sz4 i0 i8 ig hg ?_
  have fm:i=dX E.M R k E.ax.length->True:=fun _=>trivial
  refine fV (fun sK=> ?_) (fun sK=> ?_)
  ·have hi:i<R:=by omega
   have Ac:=ux.row i hi
   refine Sz5 i0 i8 ig hg Ac ?_
   refine Qb hP (mH (a:=E.M i k) (by have:=sF.1 i hi k KY;omega)) ?_
   refine Sz5 i0 i8 ig hg Ac ?_
   refine Qa (fun hz=> ?_) (fun hz=> ?_)
   ·refine Sz1 i8 ?_
    refine fG (R-(i+1)) Oz ⟨i+1,rfl,by omega,by omega,?_⟩
    refine Sz4 i0 i5 ig ib ?_
    rw[<-sP,show R-i=(R-(i+1))+1 by omega]
    exact(if_pos (dz.1 hz)).symm
   ·have Ui:E.M i k≠0:=fun e=>hz (dz.2 e)
    have CO:dX E.M R k E.ax.length=i:=by
     rw[<-sP,show R-i=(R-(i+1))+1 by omega]
     exact if_neg Ui
    generalize hm:E.ax.length=m at *
    have kF:m<R:=by omega
    have hS2:dM R E k=⟨mM (di (cz E.M i m) m (E.M i k)) m k,E.ax++[k],(if i=m then E.cr else -E.cr)*E.M i k⟩:=by
     unfold dM;rw[hm,CO,if_neg Oz]
    rw[hS2]at Cd hS
    refine Sz4 i0 i8 (show ¬i=R from by omega) (show ¬((i:Int)=(R:Int))from by omega) ?_
    simp (disch:=decide) only[mB,oC,eP,oD]
    refine Tk okB [(0,0),(5,5),(47,64),(2000000,2000001)] [] (fun J hp=>∃nw,J 0= .aG 2000000 0 R/\J 5= .np 2000001 0 0/\J 2000000= .aF 2000000 1 ty (Qy (bW 3000000 R w nw))/\J 2000001= .aF 2000001 5 87 [sv R ⟨E.M,E.ax,if i=m then E.cr else -E.cr⟩]/\h=hp/\mJ (cz E.M i m) R w tyr nw hp) ?_ ?_
    ·refine Qa (fun hs=> ?_) (fun hs=> ?_)
     ·have UO:¬i=m:=by omega
      have hq:=HI (a:=E.cr) (k:=K) Oz Oz
      refine Sz7 i0 i5 i8 ig ib hg hb ?_
      refine Qb hP hq ?_
      refine Sz7 i0 i5 i8 ig ib hg hb ?_
      refine oK ⟨fun x=>if x=m then π i else if x=i then π m else π x,?_⟩
      refine Sz8 i0 i5 i8 ig ib hg hb UO ?_
      exact ux.swap hi kF
     ·obtain rfl:i=m:=by omega
      simp only[cM,fX]
      refine Sz0 ?_
      refine oK ⟨π,?_⟩
      refine Sz7 i0 i5 i8 ig ib hg hb ?_
      refine ux.congr (fun r hr c hc=> ?_) (fun _ _=>rfl)
      unfold cz
      by_cases e:r=i
      ·subst e;rw[if_pos rfl]
      ·rw[if_neg e,if_neg e]
    rintro J3 _ ⟨nw,k0,k5,kg,kb,rfl,kr⟩
    simp (disch:=decide) only[mB,oC,eP,oD]
    have VN:=kr.row m kF
    have lu:∀c,cz E.M i m m c=E.M i c:=fun c=>by unfold cz;rw[if_pos rfl]
    refine Sz7 k0 k5 kg kb hg VN lu ?_
    have sI:rs (if i=m then E.cr else -E.cr)<=K:=by
     split
     ·exact sF.2
     ·rw[qE];exact sF.2
    have GF:=sF.1 i hi k KY
    refine Qb hP (nL (a:=if i=m then E.cr else -E.cr) (b:=E.M i k) sI GF Oz) ?_
    generalize me:E.M i k=pv at *
    refine Sz8 k0 k5 kg kb hg hb VN lu ?_
    refine iz okB [(0,0),(5,5),(10,10),(82,103),(2000000,2000001)] [] (fun q J hp=>∃c,q=w-c/\c<=w/\J 0= .aG 2000000 0 R/\J 5= .np 2000001 0 0/\J 82= .int .i64 (c:Nat)/\J 2000000= .aF 2000000 1 ty (Qy (bW 3000000 R w nw))/\J 2000001= .aF 2000001 5 87 [sv R ⟨E.M,E.ax,(if i=m then E.cr else -E.cr)*pv⟩]/\
      hp 2000000=some ⟨1,ty,[],false⟩/\hp 2000001=some ⟨5,87,[],false⟩/\hp 2000002=some ⟨1,3,vB E.ax,false⟩/\hp 4=some ⟨5,87,[.agg [.al,.al,.bool false,.al,.al]],false⟩/\hp 9=some ⟨3,51,[PV.rat pv],false⟩/\
      mJ (fun r c'=>if r=m/\c'<c then cz E.M i m r c'/pv else cz E.M i m r c') R w tyr nw hp) w ?_ ?_
    ·refine⟨0,rfl,by omega,?_⟩
     refine Sz8 k0 k5 kg kb hg hb uu h4 ?_
     refine⟨rfl,kr.congr (fun r hr c hc=>if_neg Oz) (fun x hx=> ?_)⟩
     exact Tz1 (show ¬x=9 from by omega)
    rintro _ J4 h2 ⟨c,rfl,ie,m0,m5,yu,mg,mb,n0,n1,n2,n4,n9,mr⟩
    refine Sz1 yu ?_
    refine Qa (fun vZ=> ?_) (fun vZ=> ?_)
    ·have KK:c<w:=by omega
     have G0:=mr.row m kF
     have K3:=sF.1 i hi c KK
     have sJ:=zE (a:=E.M i c) (b:=pv) K3 GF Oz Ui
     simp+decide (disch:=first|omega|rfl|(simp+decide only[go_sem,m0,m5,mg,mb,yu,n0,n9,G0,KcS c,lu]<;>rfl)|fail) only[go_sem,m0,m5,mg,mb,yu,n0,n9,G0,KcS c,lu]
     refine Qb hP sJ ?_
     simp+decide (disch:=first|omega|rfl|(simp+decide only[go_sem,m0,m5,mg,mb,yu,n0,n9,G0,KcS c,lu]<;>rfl)|fail) only[go_sem,m0,m5,mg,mb,yu,n0,n9,G0,KcS c,lu]
     rw[Fp KK]
     refine Sz1 yu ?_
     refine fG (w-(c+1)) Oz ⟨c+1,rfl,by omega,?_⟩
     refine Sz9 m0 m5 mg mb n0 n1 n2 n4 n9 ?_
     refine mr.set kF (fun c' dS=> ?_) (fun s hs Vu c' dS=> ?_)
     ·by_cases e:c'=c
      ·subst e;rw[if_pos rfl,if_pos ⟨rfl,by omega⟩,lu]
      ·rw[if_neg e]
       by_cases e2:c'<c
       ·rw[if_pos ⟨rfl,by omega⟩,if_pos e2,lu]
       ·rw[if_neg Oz,if_neg e2,lu]
     ·rw[if_neg (fun e=>Vu e.1),if_neg (fun e=>Vu e.1)]
    ·have KK:c=w:=by omega
     have VO:mJ (di (cz E.M i m) m pv) R w tyr nw h2:=mr.congr (fun r hr c' dS=>by
      unfold di
      by_cases e:r=m
      ·rw[if_pos e,if_pos ⟨e,by omega⟩,e]
      ·rw[if_neg e,if_neg (fun e2=>e e2.1)]) (fun _ _=>rfl)
     clear mr
     obtain⟨N,Cj⟩:∃N,di (cz E.M i m) m pv=N:=⟨_,rfl⟩
     rw[Cj]at VO Cd
     have hNm:∀c',c'<w->rs (N m c')<=K:=fun c' dS=>by
      simpa only[mM,if_true]using Cd.1 m kF c' dS
     have Ul:∀r',r'<R->r'≠m->∀c',c'<w->rs (N r' c')<=K:=fun r' cQ aH c' dS=>by
      rw[<-Cj]
      unfold di cz
      rw[if_neg aH,if_neg aH]
      split
      ·exact sF.1 m kF c' dS
      ·exact sF.1 r' cQ c' dS
     refine Sz6 m0 m5 mg mb yu n0 ?_
     simp (disch:=decide) only[mB,oC,eP,oD]
     refine iz okB [(0,0),(5,5),(11,11),(106,128),(2000000,2000001)] [] (fun q J hp=>∃r,q=R-r/\r<=R/\J 0= .aG 2000000 0 R/\J 5= .np 2000001 0 0/\J 106= .int .i64 (r:Nat)/\J 2000000= .aF 2000000 1 ty (Qy (bW 3000000 R w nw))/\J 2000001= .aF 2000001 5 87 [sv R ⟨E.M,E.ax,(if i=m then E.cr else -E.cr)*pv⟩]/\
      hp 2000000=some ⟨1,ty,[],false⟩/\hp 2000001=some ⟨5,87,[],false⟩/\hp 2000002=some ⟨1,3,vB E.ax,false⟩/\hp 4=some ⟨5,87,[.agg [.al,.al,.bool false,.al,.al]],false⟩/\
      mJ (fun r' c'=>if r'=m∨r<=r' then N r' c' else N r' c'-N r' k*N m c') R w tyr nw hp) R ?_ ?_
     ·refine⟨0,rfl,by omega,?_⟩
      refine Sz8 m0 m5 mg mb n0 n1 n2 n4 ?_
      refine⟨rfl,VO.congr (fun r hr c' dS=>if_pos (.inr Oz)) (fun _ _=>rfl)⟩
     rintro _ J5 h3 ⟨r,rfl,jt,u0,u5,Hb,ug,ub,v0,v1,v2,v4,ur⟩
     refine Sz1 Hb ?_
     refine Qa (fun GH=> ?_) (fun GH=> ?_)
     ·have hr:r<R:=by omega
      refine Sz1 Hb ?_
      refine Qa (fun Ad=> ?_) (fun Ad=> ?_)
      ·have e0:¬r=m:=by omega
       have LK:h3 (3000000+nw r)=some ⟨3,tyr,Qo PV.rat (N r) w,false⟩:=by rw[ur.row r hr,nC fun c' _=>if_pos (.inr (Kaf r))]
       have LL:h3 (3000000+nw m)=some ⟨3,tyr,Qo PV.rat (N m) w,false⟩:=by rw[ur.row m kF,nC fun c' _=>if_pos (.inl rfl)]
       simp+decide (disch:=first|omega|rfl|(simp+decide only[go_sem,u0,u5,ug,ub,v0,v1,v2,v4,LK,LL,e0,Kaf r]<;>rfl)|fail) only[go_sem,u0,u5,ug,ub,v0,v1,v2,v4,LK,LL,e0,Kaf r]
       have aH:3000000+nw r≠3000000+nw m:=fun e=>e0 (ur.inj r m hr kF Oz)
       have sub:=ZQ (w:=w) (x:=N r) (y:=N m) (c:=N r k) (ty1:=tyr) (ty2:=tyr) (k:=K) (K:=0) Oz Oz (Ul r hr e0) hNm (Ul r hr e0 k KY) Oz
       refine ajn hP sub LK LL aH rfl (BF Oz) (by simp[bE];omega) (Tz1 (show ¬nw m=nw r from fun e=>aH Oz)) (fun γ aj=>by simpa[PV.refs,PV.aQ]using aj) (by simp) ?_
       rintro _ xs _ ⟨rfl,rfl⟩
       refine Sz1 Hb ?_
       refine fG (R-(r+1)) Oz ⟨r+1,rfl,by omega,?_⟩
       refine Sz8 u0 u5 ug ub v0 v1 v2 v4 ?_
       refine ur.set hr (fun c' dS=> ?_) (fun s hs oe c' dS=> ?_)
       ·rw[if_neg Oz]
       ·by_cases e:s=m
        ·rw[if_pos (.inl e),if_pos (.inl e)]
        ·by_cases e2:r<=s
         ·rw[if_pos (.inr Oz),if_pos (.inr e2)]
         ·rw[if_neg Oz,if_neg Oz]
      ·obtain rfl:r=m:=by omega
       refine Sz1 Hb ?_
       refine fG (R-(r+1)) Oz ⟨r+1,rfl,by omega,?_⟩
       refine Sz8 u0 u5 ug ub v0 v1 v2 v4 ?_
       refine ur.congr (fun r' cQ c' dS=> ?_) (fun _ _=>rfl)
       by_cases e:r'=r
       ·rw[if_pos (.inl e),if_pos (.inl e)]
       ·by_cases e2:r<=r'
        ·rw[if_pos (.inr Oz),if_pos (.inr e2)]
        ·rw[if_neg Oz,if_neg Oz]
     ·simp (disch:=decide) only[mB,oC,eP,oD]
      refine Sz8 u0 u5 ug ub v0 v1 v2 v4 ?_
      rw[H3 (f:=fun k:Nat=>PV.int .i64 (k:Nat)) (y:=k) (xs:=E.ax) (ty':=3) (fz:=false) (Tz1 v2) Tz0 Oz rfl Oz Oz Oz]
      refine Sz9 u0 u5 ug ub v0 v1 v2 v4 uF ?_
      refine fG (n-(k+1)) Oz ⟨k+1,nw,rfl,by omega,?_⟩
      rw[hS,Cj]
      refine Sz8 u0 u5 ug ub v0 v1 v2 v4 ?_
      refine⟨by simp only[sv,Kax,KcQ],ur.congr (fun r' cQ c' dS=> ?_) (fun x hx=> ?_)⟩
      ·unfold mM
       by_cases e:r'=m
       ·rw[if_pos e,if_pos (.inl e),e]
       ·rw[if_neg e,if_neg Oz]
      ·exact Tz2 (show ¬x=132 from by omega) (show ¬x=2000002 from by omega)
  ·obtain rfl:i=R:=by omega
   refine Sz3 i0 i8 uF ?_
   have e1:dM i E k=E:=by
    unfold dM
    rw[if_pos]
    rw[<-sP,KbD];rfl
   simp (disch:=decide) only[mB,oC,eP,oD]
   refine fG (n-(k+1)) Oz ⟨k+1,π,rfl,by omega,?_⟩
   rw[hS,e1]
   refine Sz4 i0 i5 ig ib ?_
   exact⟨hg,hb,uu,h4,ux⟩
 ·obtain rfl:k=n:=by omega
  refine Sz5 j0 j5 jb hg hb ?_
  refine akq 136 2 (p:=sv R (Qt R M k)) Tz0 (ahE (ty:=ty) (tyr:=tyr) (Tz1 jg) uu ux) fun l hl=> ?_
  have UH:=(aay (hp:=h) hl (x:=4) Oz).trans h4
  refine Sz1 UH ?_
  refine tq (cn ?_)
  refine Sz1 UH ?_
  exact Qc rfl rfl
theorem Ml{l:List RQ}(hl:nK l):Qd Tryz.prog 53 [PV.rQ l] (· = .bool (l.all mQ)):=by
 have gP:=hl.1
 refine aE Qg Tryz.func53 ajQ fun C hP=> ?_
 refine Sz0 ?_
 refine Ql okB [(2,2),(4,4),(7,14)] [4] (fun m J hp=>∃i,m=l.length-i/\i<=l.length/\(∀j (h:j<l.length),j<i->mQ l[j]=true)/\J 7= .int .i64 (i:Nat)) l.length ?_ ?_
 ·refine⟨0,rfl,by omega,by omega,?_⟩
  refine Sz0 ?_
  rfl
 rintro _ J h ⟨i,rfl,hi,h1,h7⟩
 refine Sz1 h7 ?_
 refine Qa (fun hg=> ?_) (fun hg=> ?_)
 ·skip
  have ao:i<l.length:=by omega
  have dv:=hl.2 _ (Kai ao)
  have dn:=Kai ao
  have fj:mQ l[i]=true->∀j (h:j<l.length),j<i+1->mQ l[j]=true:=fun h j hj im=>by
   by_cases e:j=i
   ·subst e;exact h
   ·exact h1 j hj Oz
  generalize hx:l[i]=x at *
  refine Sz2 h7 hx ?_
  refine Qb hP (H8 dv Oz) ?_
  have gz:mQ x=kj x.n x.a x.d:=rfl
  simp+decide (disch:=first|omega|rfl|(simp+decide only[go_sem,h7,<-gz]<;>rfl)|fail) only[go_sem,h7,<-gz]
  cases hs:mQ x
  ·refine Sz2 h7 hs ?_
   refine Qc ?_ rfl
   congr 1
   symm
   rw[Kca];exact⟨x,dn,by simp[hs]⟩
  ·refine Sz2 h7 hs ?_
   refine Qf (l.length-(i+1)) Oz ⟨i+1,rfl,by omega,fj hs,?_⟩
   exact Tz0
 ·obtain rfl:i=l.length:=by omega
  refine Sz0 ?_
  refine Qc ?_ rfl
  congr 1
  symm
  rw[Kas]
  intro t ht
  obtain⟨j,hj,rfl⟩:=KaT ht
  exact h1 j hj hj
theorem aaz{l:List RQ}(hl:nK l):Qd Tryz.prog 58 [PV.rQ l] (· = .bool (l.all mQ)):=by
 have gP:=hl.1
 refine aE Qg Tryz.func58 ajS fun C hP=> ?_
 refine Sz0 ?_
 refine Ql okB [(2,15)] [] (fun m J hp=>∃i,m=l.length-i/\i<=l.length/\(∀j (h:j<l.length),j<i->mQ l[j]=true)/\J 3= .int .i64 (i:Nat)) l.length ?_ ?_
 ·refine⟨0,rfl,by omega,by omega,?_⟩
  refine Sz0 ?_
  rfl
 rintro _ J h ⟨i,rfl,hi,h1,h3⟩
 refine Sz1 h3 ?_
 refine Qa (fun hg=> ?_) (fun hg=> ?_)
 ·skip
  have ao:i<l.length:=by omega
  have dv:=hl.2 _ (Kai ao)
  have dn:=Kai ao
  have fj:mQ l[i]=true->∀j (h:j<l.length),j<i+1->mQ l[j]=true:=fun h j hj im=>by
   by_cases e:j=i
   ·subst e;exact h
   ·exact h1 j hj Oz
  generalize hx:l[i]=x at *
  refine Sz2 h3 hx ?_
  refine Qb hP (Ri dv Oz) ?_
  have gz:mQ x=kj x.n x.a x.d:=rfl
  simp+decide (disch:=first|omega|rfl|(simp+decide only[go_sem,h3,<-gz]<;>rfl)|fail) only[go_sem,h3,<-gz]
  cases hs:mQ x
  ·refine Sz2 h3 hs ?_
   refine Qc ?_ rfl
   congr 1
   symm
   rw[Kca];exact⟨x,dn,by simp[hs]⟩
  ·refine Sz2 h3 hs ?_
   refine Qf (l.length-(i+1)) Oz ⟨i+1,rfl,by omega,fj hs,?_⟩
   exact Tz0
 ·obtain rfl:i=l.length:=by omega
  refine Sz0 ?_
  refine Qc ?_ rfl
  congr 1
  symm
  rw[Kas]
  intro t ht
  obtain⟨j,hj,rfl⟩:=KaT ht
  exact h1 j hj hj
theorem Pg{r c:Int}{l:List RQ}(hl:nK l):Qd Tryz.prog 52 [PV.lF r c l] (· = .bool (iO r c l)):=by
 refine aE Qg Tryz.func52 ajP fun C hP=> ?_
 have gP:=hl.1
 refine Sz0 ?_
 by_cases h1:r<0
 ·refine Sz1 h1 ?_
  exact Qc (by rw[iO,decide_eq_false Oz];rfl) rfl
 refine Sz1 h1 ?_
 by_cases h2:40<r
 ·refine Sz1 h2 ?_
  exact Qc (by rw[iO,decide_eq_false Oz];rfl) rfl
 refine Sz1 h2 ?_
 by_cases h3:c<0
 ·refine Sz1 h3 ?_
  exact Qc (by rw[iO,decide_eq_false Oz];rfl) rfl
 refine Sz1 h3 ?_
 by_cases h4:40<c
 ·refine Sz1 h4 ?_
  exact Qc (by rw[iO,decide_eq_false Oz];rfl) rfl
 obtain⟨R,rfl⟩:=KbQ (show 0<=r by omega)
 obtain⟨m,rfl⟩:=KbQ (show 0<=c by omega)
 have vU:R*m<=40*40:=KaY Oz Oz
 have e1:(R:Int)*(m:Int)=((R*m:Nat):Int):=by rw[KbX]
 refine Sz2 h4 e1 ?_
 refine Qa (fun rA=> ?_) (fun rA=> ?_)
 ·refine Sz0 ?_
  exact Qc (by rw[iO,e1,decide_eq_false (fun h=>rA h.2.2.2.2)];rfl) rfl
 refine Sz0 ?_
 refine Qb hP (Ml hl) ?_
 refine Sz0 ?_
 exact Qc (by rw[iO,e1,decide_eq_true ⟨by omega,by omega,by omega,by omega,by omega⟩,Kco]) rfl
theorem ad7{r c:Int}{l:List RQ}(hl:nK l):Qd Tryz.prog 57 [PV.lF r c l] (· = .bool (iO r c l)):=by
 refine aE Qg Tryz.func57 ajR fun C hP=> ?_
 have gP:=hl.1
 refine Sz0 ?_
 by_cases h1:r<0
 ·refine Sz1 h1 ?_
  exact Qc (by rw[iO,decide_eq_false Oz];rfl) rfl
 refine Sz1 h1 ?_
 by_cases h2:40<r
 ·refine Sz1 h2 ?_
  exact Qc (by rw[iO,decide_eq_false Oz];rfl) rfl
 refine Sz1 h2 ?_
 by_cases h3:c<0
 ·refine Sz1 h3 ?_
  exact Qc (by rw[iO,decide_eq_false Oz];rfl) rfl
 refine Sz1 h3 ?_
 by_cases h4:40<c
 ·refine Sz1 h4 ?_
  exact Qc (by rw[iO,decide_eq_false Oz];rfl) rfl
 obtain⟨R,rfl⟩:=KbQ (show 0<=r by omega)
 obtain⟨m,rfl⟩:=KbQ (show 0<=c by omega)
 have vU:R*m<=40*40:=KaY Oz Oz
 have e1:(R:Int)*(m:Int)=((R*m:Nat):Int):=by rw[KbX]
 refine Sz2 h4 e1 ?_
 refine Qa (fun rA=> ?_) (fun rA=> ?_)
 ·refine Sz0 ?_
  exact Qc (by rw[iO,e1,decide_eq_false (fun h=>rA h.2.2.2.2)];rfl) rfl
 refine Sz0 ?_
 refine Qb hP (aaz hl) ?_
 refine Sz0 ?_
 exact Qc (by rw[iO,e1,decide_eq_true ⟨by omega,by omega,by omega,by omega,by omega⟩,Kco]) rfl
theorem ahF{R m i k:Nat}{l:List RQ}(hl:nK l)(h:l.length=R*m)(hi:i<R)(hk:k<m):Qd Tryz.prog 201 [PV.lF R m l,.int .i64 i,.int .i64 k] (· =PV.rq (l.getD (i*m+k) default)):=by
 have gP:=hl.1
 have UO:(i+1)*m<=R*m:=Kah _ Oz
 have asp:(i+1)*m=i*m+m:=by rw[KaJ,KcK]
 have e1:(i:Int)*(m:Int)=((i*m:Nat):Int):=by rw[KbX]
 have gj:i*m+k<l.length:=by omega
 have e3:(((i*m:Nat):Int)+(k:Int)).toNat=i*m+k:=by omega
 have e4:l.getD (i*m+k) default=l[i*m+k]:=by rw[Kad,Kag gj];rfl
 rw[e4]
 refine aE Qg Tryz.func201 agQ fun C hP=> ?_
 simp+decide (disch:=try exact D1 e1) only[go_sem,e1]
 refine cn ?_
 simp+decide (disch:=try exact D0) only[go_sem]
 exact Qc rfl rfl
def qb(k:Nat)(l:List RQ):Prop:=∀q∈l,Raw k q.n q.a q.d
theorem nK.k{l:List RQ}(h:nK l):qb 1048576 l:=h.2
theorem qb.of{l:List Rat}{k:Nat}(h:∀q∈l,rs q<=k):qb k (l.map qR):=fun x hx=>by
 obtain⟨q,hq,rfl⟩:=Kau.1 hx
 exact eW (h q hq)
def t'(r c r' c':Int)(a b:List RQ):Bool:=decide (r=r'/\c=c'/\a.map iY=b.map iY)
theorem ahG{r c r' c':Int}{a b:List RQ}{k:Nat}(ha:qb k a)(hb:qb k b)(hk:k<2^34)(la:a.length<2^40)(lb:b.length<2^40):Qd Tryz.prog 154 [PV.lF r c a,PV.lF r' c' b] (· = .bool (t' r c r' c' a b)):=by
 refine aE Qg Tryz.func154 agP fun C hP=> ?_
 refine Sz0 ?_
 by_cases h1:¬r=r'
 ·refine Sz1 h1 ?_
  exact Qc (by rw[t',decide_eq_false fun e=>h1 e.1]) rfl
 obtain rfl:=Classical.not_not.1 h1
 refine Sz0 ?_
 by_cases h2:¬c=c'
 ·refine Sz1 h2 ?_
  exact Qc (by rw[t',decide_eq_false fun e=>h2 e.2.1]) rfl
 obtain rfl:=Classical.not_not.1 h2
 refine Sz0 ?_
 refine Qa (fun h3=> ?_) (fun h3=> ?_)
 ·refine Sz0 ?_
  refine Qc ?_ rfl
  rw[t',decide_eq_false]
  intro e
  have:=congrArg List.length e.2.2
  simp at this;omega
 have uf:a.length=b.length:=by omega
 refine Sz0 ?_
 refine Ql okB [(4,5),(30,45)] [] (fun m J hp=>∃i,m=a.length-i/\i<=a.length/\(∀j (h1:j<a.length) (h2:j<b.length),j<i->iY a[j]=iY b[j])/\J 30= .int .i64 (i:Nat)/\hp 2=some ⟨3,24,[PV.lF r c a],false⟩/\hp 3=some ⟨3,24,[PV.lF r c b],false⟩) a.length ?_ ?_
 ·refine⟨0,rfl,by omega,by omega,?_⟩
  refine Sz0 ?_
  rfl
 rintro _ J h ⟨i,rfl,hi,h1,jm,b2,b3⟩
 refine Sz1 jm ?_
 refine Qa (fun hg=> ?_) (fun hg=> ?_)
 ·have ao:i<a.length:=by omega
  have CC:i<b.length:=by omega
  have dv:=ha _ (Kai ao)
  have apz:=hb _ (Kai CC)
  have aH:iY a[i]≠iY b[i]->a.map iY≠b.map iY:=fun h e=>h (by
   have:=congrArg (fun l=>l[i]?) e
   simpa[ao,CC]using this)
  have fj:iY a[i]=iY b[i]->∀j (h1:j<a.length) (h2:j<b.length),j<i+1->iY a[j]=iY b[j]:=fun h j hj z6 im=>by
   by_cases e:j=i
   ·subst e;exact h
   ·exact h1 j hj z6 Oz
  generalize hx:a[i]=x at *
  generalize hy:b[i]=y at *
  refine Sz5 jm b2 b3 hx hy ?_
  refine Qb hP (Rz dv apz Oz) ?_
  by_cases e:iY x=iY y
  ·have e':rv x.n x.a x.d=rv y.n y.a y.d:=e
   refine Sz4 jm b2 b3 e' ?_
   refine Qf (a.length-(i+1)) Oz ⟨i+1,rfl,by omega,fj e,?_⟩
   exact Tz2 b2 b3
  ·have e':¬rv x.n x.a x.d=rv y.n y.a y.d:=e
   refine Sz4 jm b2 b3 e' ?_
   refine Qc ?_ rfl
   rw[t',decide_eq_false fun e2=>aH e e2.2.2]
 ·obtain rfl:i=a.length:=by omega
  refine Sz1 jm ?_
  refine Qc ?_ rfl
  rw[t',decide_eq_true]
  refine⟨rfl,rfl,Kbg (by simp[uf]) fun j j1 j2=> ?_⟩
  rw[KbB,KbB]
  exact h1 j (by simpa using j1) (by simpa using j2) (by simpa using j1)
end Go.Proofs.YtkoclfmjlolkhaaGreat
namespace Go.FW
open Go
abbrev LF:=Rat×(Nat->Rat)
def cA(M:MF)(f:LF):MF:=fun r c=>M r c-f.1*f.2 r*f.2 c
def eQ(M:MF)(l:List LF):MF:=l.foldl cA M
theorem IG(M:MF)(l:List LF)(f:LF):eQ M (l++[f])=cA (eQ M l) f:=by simp[eQ]
def Qv(R:Nat)(M:MF):Nat->MF×List LF
 |0=>(M,[])
 |k+1=>(eQ (Qv R M k).1 (bS (Qv R M k).1 R),(Qv R M k).2++bS (Qv R M k).1 R)
def du(R:Nat)(l:List LF):List Rat:=l.flatMap fun f=>(List.range R).map f.2
theorem tg(R:Nat)(l:List LF):(du R l).length=l.length*R:=by
 induction l with
 |nil=>simp[du]
 |cons f l ih=>
  unfold du at ih⊢
  rw[Kaz,Kax,ih,KaP,KaJ]
  simp;omega
theorem IH(R:Nat)(l:List LF)(f:LF):du R (l++[f])=du R l++(List.range R).map f.2:=by simp[du]
theorem uV(f:Nat->Rat)(w:Nat):Qo PV.rat f w=((List.range w).map f).map PV.rat:=by simp[Qo]
theorem H0(M:MF)(R:Nat):(bS M R).length<=2:=by
 unfold bS;split
 ·simp
 ·split<;>simp
theorem DS(R:Nat)(M:MF):∀k,(Qv R M k).2.length<=2*k
 |0=>by simp[Qv]
 |k+1=>by
  have:=DS R M k
  have:=H0 (Qv R M k).1 R
  simp only[Qv,Kax];omega
def vC(K R n:Nat)(M:MF):Prop:=∀k,k<=n->eV K R R (Qv R M k).1/\(∀f∈bS (Qv R M k).1 R,rs f.1<=K/\∀c,c<R->rs (f.2 c)<=K)/\∀j,j<=(bS (Qv R M k).1 R).length->eV K R R (eQ (Qv R M k).1 ((bS (Qv R M k).1 R).take j))
end Go.FW
