/- Part 9 of the proof of SquaresQuadratics: A4, A5, A6, FwVB. Own lemmas; no conditions. -/
import Derived.Test.YtkoclfmjlolkhaaGreatSquaresQuadraticsPart8
set_option maxHeartbeats 1000000
set_option linter.unusedSimpArgs false
set_option linter.unusedVariables false
set_option linter.unnecessarySimpa false
set_option maxRecDepth 100000
namespace Go.Proofs.YtkoclfmjlolkhaaGreat
open Go Go.FW
abbrev PV.Bu(R w:Nat)(E:qh):PV:=.agg [.sl 1 (yN E.M R w),.sl 1 (E.ak.map fun k=>.int .i64 (k:Nat)),.bool (decide (E.cG.num<0)),PV.num E.cG.num.natAbs,PV.num E.cG.den]
abbrev sH(l:List Nat):List PV:=l.map fun k=>.int .i64 (k:Nat)
abbrev t'(R:Nat)(E:qh):PV:=.bo [.aI 2000000 0 R,.aB 2000002 0 E.ak.length,.bool (decide (E.cG.num<0)),PV.num E.cG.num.natAbs,PV.num E.cG.den]
structure ov(M:MF)(R w tyr:Nat)(π:Nat->Nat)(hp:HP):Prop where
 lt:∀r,r<R->π r<R
 inj:∀r s,r<R->s<R->π r=π s->r=s
 row:∀r,r<R->hp (3000000+π r)=some ⟨3,tyr,Qo PV.rat (M r) w,false⟩
theorem ov.set{M M':MF}{R w tyr r:Nat}{π:Nat->Nat}{hp:HP}{f:Nat->Rat}(h:ov M R w tyr π hp)(hr:r<R)(h1:∀c,c<w->M' r c=f c)(h2:∀s,s<R->s≠r->∀c,c<w->M' s c=M s c):
  ov M' R w tyr π (Qj hp (3000000+π r) ⟨3,tyr,Qo PV.rat f w,false⟩):=by
 refine⟨h.lt,h.inj,fun s hs=>?_⟩;unfold Qj;by_cases e:s=r
 ·subst e;rw[if_pos rfl,om h1]
 ·rw[if_neg (fun e2=>e (h.inj s r hs hr Oz)),h.row s hs,om (h2 s hs e)]
theorem ov.congr{M M':MF}{R w tyr:Nat}{π:Nat->Nat}{hp hp':HP}(h:ov M R w tyr π hp)(h1:∀r,r<R->∀c,c<w->M' r c=M r c)(h2:∀x,3000000<=x->hp' x=hp x):ov M' R w tyr π hp':=
 ⟨h.lt,h.inj,fun s hs=>by rw[h2 _ Oz,h.row s hs,om (h1 s hs)]⟩
theorem ov.swap{M:MF}{R w tyr i m:Nat}{π:Nat->Nat}{hp:HP}(h:ov M R w tyr π hp)(hi:i<R)(hm:m<R):ov (ct M i m) R w tyr (fun x=>if x=m then π i else if x=i then π m else π x) hp:=by
 have hl:∀r,r<R->∃s,s<R/\(if r=m then π i else if r=i then π m else π r)=π s/\ct M i m r=M s/\((r=m/\s=i)∨(r≠m/\r=i/\s=m)∨(r≠m/\r≠i/\s=r)):=fun r hr=>by
  unfold ct;by_cases e:r=m
  ·exact⟨i,hi,by simp[e],by simp[e],.inl ⟨e,rfl⟩⟩
  ·by_cases e2:r=i
   ·exact⟨m,hm,by rw[if_neg e,if_pos e2],by rw[if_neg e,if_pos e2],.inr (.inl ⟨e,e2,rfl⟩)⟩
   ·exact⟨r,hr,by rw[if_neg e,if_neg e2],by rw[if_neg e,if_neg e2],.inr (.inr ⟨e,e2,rfl⟩)⟩
 refine⟨fun r hr=>?_,fun r s hr hs e=>?_,fun r hr=>?_⟩
 ·obtain⟨s,h1,h2,_⟩:=hl r hr;show(if r=m then π i else if r=i then π m else π r)<R;rw[h2];exact h.lt s h1
 ·obtain⟨a,a1,a2,_,a4⟩:=hl r hr;obtain⟨b,b1,b2,_,b4⟩:=hl s hs;have:=h.inj a b a1 b1 (by rw[<-a2,<-b2];exact e);omega
 ·obtain⟨s,h1,h2,h3,_⟩:=hl r hr;show hp (3000000+(if r=m then π i else if r=i then π m else π r))=_;rw[h2,h3];exact h.row s h1
theorem akr{fr:Fr}{hp:HP}{R w ty tyr:Nat}{π:Nat->Nat}{E:qh}(hg:fr 2000000= .aC 2000000 1 ty (Qs (b5 3000000 R w π)))(oM:hp 2000002=some ⟨1,3,sH E.ak,false⟩)(vV:ov E.M R w tyr π hp):
  w8 fr 2 (t' R E)/\sO fr hp 2 (t' R E)=PV.Bu R w E/\∀x∈Ag fr 2 (t' R E),2000000<=x:=by
 have hl:R=(b5 3000000 R w π).length:=(Q90 _ _ _ _).symm;have hm:∀x∈b5 3000000 R w π,2000000<=x.1/\∃r,r<R/\x=(3000000+π r,w):=fun x hx=>by obtain⟨r,hr,rfl⟩:=Kaq.1 hx;exact⟨by show 2000000<=3000000+π r;omega,r,Kbo.1 hr,rfl⟩
 have o1:=PE hg hl Oz (fun x hx=>(hm x hx).1);refine⟨?_,?_,?_⟩
 ·intro c hc;simp only[KaG,KbT,or_false]at hc;rcases hc with rfl|rfl|rfl|rfl|rfl
  ·exact o1
  ·simp only[od,aR];simp
  ·trivial
  ·trivial
  ·trivial
 ·obtain⟨ys,qc⟩:∃ys:Nat->List PV,∀r,r<R->ys (3000000+π r)=Qo PV.rat (E.M r) w:=by refine⟨fun x=>match hp x with|some hb=>hb.xs|none=>[],fun r hr=>?_⟩;simp only[vV.row r hr]
  have o2:=RE (hp:=hp) (e':=3) hg hl ys (fun x hx=>by obtain⟨_,r,hr,rfl⟩:=hm x hx;refine⟨tyr,false,?_⟩;show hp (3000000+π r)=some ⟨3,tyr,ys (3000000+π r),false⟩;rw[qc r hr,vV.row r hr]);have o3:eC fr hp 2 (.aI 2000000 0 R)= .sl 1 (yN E.M R w):=by refine Eq.trans o2 ?_;unfold yN b5;rw[KbH];congr 1;refine KaJ fun r hr=>?_;simp only[Function.comp,qc r (Kbo.1 hr)];rw[Kac (by rw[fl];omega)]
  have o4:eC fr hp 2 (.aB 2000002 0 E.ak.length)= .sl 1 (sH E.ak):=by simp only[eC,oM,Ka0];rw[Kac (by simp)]
  show PV.agg [eC fr hp 2 (.aI 2000000 0 R),eC fr hp 2 (.aB 2000002 0 E.ak.length),_,_,_]=_;rw[o3,o4];rfl
 ·intro x hx;obtain⟨c,hc,hx⟩:=Kat.1 hx;simp only[KaG,KbT,or_false]at hc;rcases hc with rfl|rfl|rfl|rfl|rfl
  ·simp only[mG,hg,KaG,Ka0]at hx;rcases hx with rfl|hx
   ·omega
   ·obtain⟨y,hy,hx⟩:=Kat.1 hx;obtain⟨z,hz,rfl⟩:=Kaq.1 (Kbf hy);have:=(hm z hz).1;simp only[PV.aS,PV.cells,Kav,KaB,mG,Kam,Kau]at hx;omega
  ·simp only[mG,Kau]at hx;omega
  ·simp[mG]at hx
  ·simp[mG]at hx
  ·simp[mG]at hx
theorem Q8g {M:MF} {R w n K ty tyr:Nat} (hR:0<R) (cy:R<=40) (hw:w<=40) (hn:n<=w) (hK:K<=2^20) (hB:∀k,k<=n->fL K R w (Qt R M k).M/\rs (Qt R M k).cG<=K):
  gj Tryz.prog 55 [.aI 2000000 0 R,.int .i64 (n:Nat)] (af (fun _=>.undef) 2000000 (.aC 2000000 1 ty (Qs (b5 3000000 R w id))))
   (fun x=>if x=2000000 then some ⟨1,ty,[],false⟩else if 3000000<=x/\x<3000000+R then some ⟨3,tyr,Qo PV.rat (M (x-3000000)) w,false⟩else none)
   (fun r _ _=>r=PV.Bu R w (Qt R M n)):=by
 refine o6 Qg Tryz.func55 rfl anz Nz fun C hP=>?_;simp only[WL];refine fw ?_;have hN:∀r,r<R->(3000000+r<3000000+R):=fun r h=>by omega
 refine Sz0 ?_;refine Qb hP (qK (x:=1) Oz Oz) ?_;refine Sz0 ?_;refine di (mP 5 2000001 rfl Oz rfl Oz) ?_;refine Sz0 ?_;refine di (va (γ:=2000001) (e:=5) (ty:=87) (xs:=[.agg [.au,.au,.bool false,.au,.au]]) (fz:=false) Tz0 (by simp) Oz (fun x hx=>by rw[Kau.1 hx];rfl)) ?_;refine Sz0 ?_;refine di (akp (γ:=2000001) (e:=5) (ty:=87) (cs:=[.aI 2000000 0 R,.au,.bool false,PV.num ((1:Int):Rat).num.natAbs,PV.num ((1:Int):Rat).den]) (cs':=[.aI 2000000 0 R,.aB 2000002 0 0,.bool false,PV.num ((1:Int):Rat).num.natAbs,PV.num ((1:Int):Rat).den]) 2000002 1 3 Tz0 Tz0 Oz Oz rfl (by simp)) ?_;refine Sz0 ?_;refine eO okB [(0,0),(5,11),(16,135),(2000000,2000001)] [9,132,133] (fun m J hp=>∃k π,m=n-k/\k<=n/\J 0= .aI 2000000 0 R/\J 5= .np 2000001 0 0/\J 16= .int .i64 (k:Nat)/\J 2000000= .aC 2000000 1 ty (Qs (b5 3000000 R w π))/\J 2000001= .aC 2000001 5 87 [t' R (Qt R M k)]/\
   hp 2000000=some ⟨1,ty,[],false⟩/\hp 2000001=some ⟨5,87,[],false⟩/\hp 2000002=some ⟨1,3,sH (Qt R M k).ak,false⟩/\hp 4=some ⟨5,87,[.agg [.au,.au,.bool false,.au,.au]],false⟩/\ov (Qt R M k).M R w tyr π hp) n ?_ ?_
 ·refine⟨0,id,rfl,by omega,?_⟩;refine Sz0 ?_;refine⟨rfl,rfl,rfl,fun r hr=>hr,fun r s _ _ e=>e,fun r hr=>?_⟩;simp+decide (disch:=first|omega|rfl|(simp+decide only[go_sem,id,Kbp,hr]<;>rfl)|fail) only[go_sem,id,Kbp,hr];rw[if_pos ⟨by omega,by omega⟩];rfl
 rintro _ J h ⟨k,π,rfl,hk,j0,j5,v8,jg,jb,hg,hb,oM,h4,vV⟩;refine Sz1 v8 ?_;refine Qa (fun hc=>?_) (fun hc=>?_)
 ·have bI:k<n:=by omega
  have zx:k<w:=by omega
  have lI:=hB k hk;have sY:=hB (k+1) bI;have aV:=ll R M k;have hS:Qt R M (k+1)=dP R (Qt R M k) k:=rfl;obtain⟨E,hE⟩:∃E,Qt R M k=E:=⟨_,rfl⟩
  rw[hS]at sY;rw[hE]at lI sY aV jb oM vV hS;refine Sz9 j0 j5 v8 jg jb hg hb oM h4 ?_;refine eO okB [(0,0),(5,5),(8,8),(23,39),(2000000,2000001)] [] (fun q J hp=>∃i,q=R-i/\E.ak.length<=i/\i<=R/\pF E.M k (R-i) i=eJ E.M R k E.ak.length/\J 0= .aI 2000000 0 R/\J 5= .np 2000001 0 0/\J 8= .int .i64 (i:Nat)/\J 2000000= .aC 2000000 1 ty (Qs (b5 3000000 R w π))/\J 2000001= .aC 2000001 5 87 [t' R E]/\h=hp) (R-E.ak.length) ?_ ?_
  ·refine⟨E.ak.length,rfl,Kae _,aV.2.1,rfl,?_⟩;exact Tz4 j0 j5 jg jb
  rintro _ J2 _ ⟨i,rfl,te,dZ,pV,i0,i5,i8,ig,ib,rfl⟩;refine Sz4 i0 i8 ig hg ?_;have fS:i=eJ E.M R k E.ak.length->True:=fun _=>trivial;refine fN (fun nS=>?_) (fun nS=>?_)
  ·have hi:i<R:=by omega
   have BM:=vV.row i hi;refine Sz5 i0 i8 ig hg BM ?_;refine Qb hP (pk (a:=E.M i k) (by have:=lI.1 i hi k zx;omega)) ?_;refine Sz5 i0 i8 ig hg BM ?_;refine Qa (fun hz=>?_) (fun hz=>?_)
   ·refine Sz1 i8 ?_;refine de (R-(i+1)) Oz ⟨i+1,rfl,by omega,by omega,?_⟩;refine Sz4 i0 i5 ig ib ?_;rw[<-pV,show R-i=(R-(i+1))+1 by omega];exact(if_pos (dy.1 hz)).symm
   ·have Eg:E.M i k≠0:=fun e=>hz (dy.2 e);have zG:eJ E.M R k E.ak.length=i:=by rw[<-pV,show R-i=(R-(i+1))+1 by omega];exact if_neg Eg
    generalize hm:E.ak.length=m at *
    have ja:m<R:=by omega
    have MU:dP R E k=⟨lD (dm (ct E.M i m) m (E.M i k)) m k,E.ak++[k],(if i=m then E.cG else -E.cG)*E.M i k⟩:=by unfold dP;rw[hm,zG,if_neg Oz]
    rw[MU]at sY hS;refine Sz4 i0 i8 (show ¬i=R from by omega) (show ¬((i:Int)=(R:Int))from by omega) ?_;simp (disch:=decide) only[kk,lY,dS,lX];refine Oy okB [(0,0),(5,5),(47,64),(2000000,2000001)] [] (fun J hp=>∃oU,J 0= .aI 2000000 0 R/\J 5= .np 2000001 0 0/\J 2000000= .aC 2000000 1 ty (Qs (b5 3000000 R w oU))/\J 2000001= .aC 2000001 5 87 [t' R ⟨E.M,E.ak,if i=m then E.cG else -E.cG⟩]/\h=hp/\ov (ct E.M i m) R w tyr oU hp) ?_ ?_
    ·refine Qa (fun hs=>?_) (fun hs=>?_)
     ·have XN:¬i=m:=by omega
      have hq:=Kq (a:=E.cG) (k:=K) Oz Oz;refine Sz7 i0 i5 i8 ig ib hg hb ?_;refine Qb hP hq ?_;refine Sz7 i0 i5 i8 ig ib hg hb ?_;refine nv ⟨fun x=>if x=m then π i else if x=i then π m else π x,?_⟩;refine Sz8 i0 i5 i8 ig ib hg hb XN ?_;exact vV.swap hi ja
     ·obtain rfl:i=m:=by omega
      simp only[dk,fV];refine Sz0 ?_;refine nv ⟨π,?_⟩;refine Sz7 i0 i5 i8 ig ib hg hb ?_;refine vV.congr (fun r hr c hc=>?_) (fun _ _=>rfl);unfold ct;by_cases e:r=i
      ·subst e;rw[if_pos rfl]
      ·rw[if_neg e,if_neg e]
    rintro J3 _ ⟨oU,k0,k5,kg,kb,rfl,kr⟩;simp (disch:=decide) only[kk,lY,dS,lX];have ZP:=kr.row m ja;have kD:∀c,ct E.M i m m c=E.M i c:=fun c=>by unfold ct;rw[if_pos rfl]
    refine Sz7 k0 k5 kg kb hg ZP kD ?_;have lL:rs (if i=m then E.cG else -E.cG)<=K:=by
     split
     ·exact lI.2
     ·rw[sw];exact lI.2
    have BK:=lI.1 i hi k zx;refine Qb hP (pz (a:=if i=m then E.cG else -E.cG) (b:=E.M i k) lL BK Oz) ?_;generalize lh:E.M i k=pv at *
    refine Sz8 k0 k5 kg kb hg hb ZP kD ?_;refine eO okB [(0,0),(5,5),(10,10),(82,103),(2000000,2000001)] [] (fun q J hp=>∃c,q=w-c/\c<=w/\J 0= .aI 2000000 0 R/\J 5= .np 2000001 0 0/\J 82= .int .i64 (c:Nat)/\J 2000000= .aC 2000000 1 ty (Qs (b5 3000000 R w oU))/\J 2000001= .aC 2000001 5 87 [t' R ⟨E.M,E.ak,(if i=m then E.cG else -E.cG)*pv⟩]/\
      hp 2000000=some ⟨1,ty,[],false⟩/\hp 2000001=some ⟨5,87,[],false⟩/\hp 2000002=some ⟨1,3,sH E.ak,false⟩/\hp 4=some ⟨5,87,[.agg [.au,.au,.bool false,.au,.au]],false⟩/\hp 9=some ⟨3,51,[PV.rat pv],false⟩/\
      ov (fun r c'=>if r=m/\c'<c then ct E.M i m r c'/pv else ct E.M i m r c') R w tyr oU hp) w ?_ ?_
    ·refine⟨0,rfl,by omega,?_⟩;refine Sz8 k0 k5 kg kb hg hb oM h4 ?_;refine⟨rfl,kr.congr (fun r hr c hc=>if_neg Oz) (fun x hx=>?_)⟩;exact Tz1 (show ¬x=9 from by omega)
    rintro _ J4 h2 ⟨c,rfl,iD,m0,m5,zY,mg,mb,n0,n1,n2,n4,n9,mr⟩;refine Sz1 zY ?_;refine Qa (fun xy=>?_) (fun xy=>?_)
    ·have Nd:c<w:=by omega
     have I8:=mr.row m ja;have Nv:=lI.1 i hi c Nd;have oI:=Bl (a:=E.M i c) (b:=pv) Nv BK Oz Eg;simp+decide (disch:=first|omega|rfl|(simp+decide only[go_sem,m0,m5,mg,mb,zY,n0,n9,I8,Kc0 c,kD]<;>rfl)|fail) only[go_sem,m0,m5,mg,mb,zY,n0,n9,I8,Kc0 c,kD];refine Qb hP oI ?_;simp+decide (disch:=first|omega|rfl|(simp+decide only[go_sem,m0,m5,mg,mb,zY,n0,n9,I8,Kc0 c,kD]<;>rfl)|fail) only[go_sem,m0,m5,mg,mb,zY,n0,n9,I8,Kc0 c,kD];rw[HK Nd];refine Sz1 zY ?_;refine de (w-(c+1)) Oz ⟨c+1,rfl,by omega,?_⟩;refine Sz9 m0 m5 mg mb n0 n1 n2 n4 n9 ?_;refine mr.set ja (fun c' dA=>?_) (fun s hs Zp c' dA=>?_)
     ·by_cases e:c'=c
      ·subst e;rw[if_pos rfl,if_pos ⟨rfl,by omega⟩,kD]
      ·rw[if_neg e];by_cases e2:c'<c
       ·rw[if_pos ⟨rfl,by omega⟩,if_pos e2,kD]
       ·rw[if_neg Oz,if_neg e2,kD]
     ·rw[if_neg (fun e=>Zp e.1),if_neg (fun e=>Zp e.1)]
    ·have Nd:c=w:=by omega
     have ZQ:ov (dm (ct E.M i m) m pv) R w tyr oU h2:=mr.congr (fun r hr c' dA=>by
      unfold dm;by_cases e:r=m
      ·rw[if_pos e,if_pos ⟨e,by omega⟩,e]
      ·rw[if_neg e,if_neg (fun e2=>e e2.1)]) (fun _ _=>rfl)
     clear mr;obtain⟨N,xv⟩:∃N,dm (ct E.M i m) m pv=N:=⟨_,rfl⟩
     rw[xv]at ZQ sY;have MQ:∀c',c'<w->rs (N m c')<=K:=fun c' dA=>by simpa only[lD,if_true]using sY.1 m ja c' dA
     have Ei:∀r',r'<R->r'≠m->∀c',c'<w->rs (N r' c')<=K:=fun r' cM aJ c' dA=>by
      rw[<-xv];unfold dm ct;rw[if_neg aJ,if_neg aJ];split
      ·exact lI.1 m ja c' dA
      ·exact lI.1 r' cM c' dA
     refine Sz6 m0 m5 mg mb zY n0 ?_;simp (disch:=decide) only[kk,lY,dS,lX];refine eO okB [(0,0),(5,5),(11,11),(106,128),(2000000,2000001)] [] (fun q J hp=>∃r,q=R-r/\r<=R/\J 0= .aI 2000000 0 R/\J 5= .np 2000001 0 0/\J 106= .int .i64 (r:Nat)/\J 2000000= .aC 2000000 1 ty (Qs (b5 3000000 R w oU))/\J 2000001= .aC 2000001 5 87 [t' R ⟨E.M,E.ak,(if i=m then E.cG else -E.cG)*pv⟩]/\
      hp 2000000=some ⟨1,ty,[],false⟩/\hp 2000001=some ⟨5,87,[],false⟩/\hp 2000002=some ⟨1,3,sH E.ak,false⟩/\hp 4=some ⟨5,87,[.agg [.au,.au,.bool false,.au,.au]],false⟩/\
      ov (fun r' c'=>if r'=m∨r<=r' then N r' c' else N r' c'-N r' k*N m c') R w tyr oU hp) R ?_ ?_
     ·refine⟨0,rfl,by omega,?_⟩;refine Sz8 m0 m5 mg mb n0 n1 n2 n4 ?_;refine⟨rfl,ZQ.congr (fun r hr c' dA=>if_pos (.inr Oz)) (fun _ _=>rfl)⟩
     rintro _ J5 h3 ⟨r,rfl,iE,u0,u5,Jj,ug,ub,v0,v1,v2,v4,ur⟩;refine Sz1 Jj ?_;refine Qa (fun zJ=>?_) (fun zJ=>?_)
     ·have hr:r<R:=by omega
      refine Sz1 Jj ?_;refine Qa (fun uz=>?_) (fun uz=>?_)
      ·have e0:¬r=m:=by omega
       have Ol:h3 (3000000+oU r)=some ⟨3,tyr,Qo PV.rat (N r) w,false⟩:=by rw[ur.row r hr,om fun c' _=>if_pos (.inr (Kae r))]
       have Om:h3 (3000000+oU m)=some ⟨3,tyr,Qo PV.rat (N m) w,false⟩:=by rw[ur.row m ja,om fun c' _=>if_pos (.inl rfl)]
       simp+decide (disch:=first|omega|rfl|(simp+decide only[go_sem,u0,u5,ug,ub,v0,v1,v2,v4,Ol,Om,e0,Kae r]<;>rfl)|fail) only[go_sem,u0,u5,ug,ub,v0,v1,v2,v4,Ol,Om,e0,Kae r];have aJ:3000000+oU r≠3000000+oU m:=fun e=>e0 (ur.inj r m hr ja Oz);have sub:=adH (w:=w) (x:=N r) (y:=N m) (c:=N r k) (ty1:=tyr) (ty2:=tyr) (k:=K) (K:=0) Oz Oz (Ei r hr e0) MQ (Ei r hr e0 k zx) Oz;refine amV hP sub Ol Om aJ rfl (Dn Oz) (by simp[bJ];omega) (Tz1 (show ¬oU m=oU r from fun e=>aJ Oz)) (fun γ aj=>by simpa[PV.refs,PV.aQ]using aj) (by simp) ?_;rintro _ xs _ ⟨rfl,rfl⟩;refine Sz1 Jj ?_;refine de (R-(r+1)) Oz ⟨r+1,rfl,by omega,?_⟩;refine Sz8 u0 u5 ug ub v0 v1 v2 v4 ?_;refine ur.set hr (fun c' dA=>?_) (fun s hs kE c' dA=>?_)
       ·rw[if_neg Oz]
       ·by_cases e:s=m
        ·rw[if_pos (.inl e),if_pos (.inl e)]
        ·by_cases e2:r<=s
         ·rw[if_pos (.inr Oz),if_pos (.inr e2)]
         ·rw[if_neg Oz,if_neg Oz]
      ·obtain rfl:r=m:=by omega
       refine Sz1 Jj ?_;refine de (R-(r+1)) Oz ⟨r+1,rfl,by omega,?_⟩;refine Sz8 u0 u5 ug ub v0 v1 v2 v4 ?_;refine ur.congr (fun r' cM c' dA=>?_) (fun _ _=>rfl);by_cases e:r'=r
       ·rw[if_pos (.inl e),if_pos (.inl e)]
       ·by_cases e2:r<=r'
        ·rw[if_pos (.inr Oz),if_pos (.inr e2)]
        ·rw[if_neg Oz,if_neg Oz]
     ·simp (disch:=decide) only[kk,lY,dS,lX];refine Sz8 u0 u5 ug ub v0 v1 v2 v4 ?_;rw[An (f:=fun k:Nat=>PV.int .i64 (k:Nat)) (y:=k) (xs:=E.ak) (ty':=3) (fz:=false) (Tz1 v2) Tz0 Oz rfl Oz Oz Oz];refine Sz9 u0 u5 ug ub v0 v1 v2 v4 v8 ?_;refine de (n-(k+1)) Oz ⟨k+1,oU,rfl,by omega,?_⟩;rw[hS,xv];refine Sz8 u0 u5 ug ub v0 v1 v2 v4 ?_;refine⟨by simp only[t',Kay,KcY],ur.congr (fun r' cM c' dA=>?_) (fun x hx=>?_)⟩
      ·unfold lD;by_cases e:r'=m
       ·rw[if_pos e,if_pos (.inl e),e]
       ·rw[if_neg e,if_neg Oz]
      ·exact Tz2 (show ¬x=132 from by omega) (show ¬x=2000002 from by omega)
  ·obtain rfl:i=R:=by omega
   refine Sz3 i0 i8 v8 ?_;have e1:dP i E k=E:=by unfold dP;rw[if_pos];rw[<-pV,KbA];rfl
   simp (disch:=decide) only[kk,lY,dS,lX];refine de (n-(k+1)) Oz ⟨k+1,π,rfl,by omega,?_⟩;rw[hS,e1];refine Sz4 i0 i5 ig ib ?_;exact⟨hg,hb,oM,h4,vV⟩
 ·obtain rfl:k=n:=by omega
  refine Sz5 j0 j5 jb hg hb ?_;refine an6 136 2 (p:=t' R (Qt R M k)) Tz0 (akr (ty:=ty) (tyr:=tyr) (Tz1 jg) oM vV) fun l hl=>?_;have XD:=(adK (hp:=h) hl (x:=4) Oz).trans h4;refine Sz1 XD ?_;refine rz (cr ?_);refine Sz1 XD ?_;exact Qc rfl rfl
theorem PF{l:List RQ}(hl:ny l):Qd Tryz.prog 53 [PV.rm l] (· = .bool (l.all nE)):=by
 have jm:=hl.1;refine aE Qg Tryz.func53 anu fun C hP=>?_;refine Sz0 ?_;refine Qi okB [(2,2),(4,4),(7,14)] [4] (fun m J hp=>∃i,m=l.length-i/\i<=l.length/\(∀j (h:j<l.length),j<i->nE l[j]=true)/\J 7= .int .i64 (i:Nat)) l.length ?_ ?_
 ·refine⟨0,rfl,by omega,by omega,?_⟩;refine Sz0 ?_;rfl
 rintro _ J h ⟨i,rfl,hi,h1,h7⟩;refine Sz1 h7 ?_;refine Qa (fun hg=>?_) (fun hg=>?_)
 ·skip
  have al:i<l.length:=by omega
  have dU:=hl.2 _ (Kah al);have dB:=Kah al;have fg:nE l[i]=true->∀j (h:j<l.length),j<i+1->nE l[j]=true:=fun h j hj im=>by
   by_cases e:j=i
   ·subst e;exact h
   ·exact h1 j hj Oz
  generalize hx:l[i]=x at *
  refine Sz2 h7 hx ?_;refine Qb hP (KX dU Oz) ?_;have iG:nE x=lB x.n x.a x.d:=rfl;simp+decide (disch:=first|omega|rfl|(simp+decide only[go_sem,h7,<-iG]<;>rfl)|fail) only[go_sem,h7,<-iG];cases hs:nE x
  ·refine Sz2 h7 hs ?_;refine Qc ?_ rfl;congr 1;symm;rw[Kcr];exact⟨x,dB,by simp[hs]⟩
  ·refine Sz2 h7 hs ?_;refine Qf (l.length-(i+1)) Oz ⟨i+1,rfl,by omega,fg hs,?_⟩;exact Tz0
 ·obtain rfl:i=l.length:=by omega
  refine Sz0 ?_;refine Qc ?_ rfl;congr 1;symm;rw[Kax];intro t ht;obtain⟨j,hj,rfl⟩:=KaV ht;exact h1 j hj hj
theorem OA{l:List RQ}(hl:ny l):Qd Tryz.prog 58 [PV.rm l] (· = .bool (l.all nE)):=by
 have jm:=hl.1;refine aE Qg Tryz.func58 anw fun C hP=>?_;refine Sz0 ?_;refine Qi okB [(2,15)] [] (fun m J hp=>∃i,m=l.length-i/\i<=l.length/\(∀j (h:j<l.length),j<i->nE l[j]=true)/\J 3= .int .i64 (i:Nat)) l.length ?_ ?_
 ·refine⟨0,rfl,by omega,by omega,?_⟩;refine Sz0 ?_;rfl
 rintro _ J h ⟨i,rfl,hi,h1,h3⟩;refine Sz1 h3 ?_;refine Qa (fun hg=>?_) (fun hg=>?_)
 ·skip
  have al:i<l.length:=by omega
  have dU:=hl.2 _ (Kah al);have dB:=Kah al;have fg:nE l[i]=true->∀j (h:j<l.length),j<i+1->nE l[j]=true:=fun h j hj im=>by
   by_cases e:j=i
   ·subst e;exact h
   ·exact h1 j hj Oz
  generalize hx:l[i]=x at *
  refine Sz2 h3 hx ?_;refine Qb hP (KC dU Oz) ?_;have iG:nE x=lB x.n x.a x.d:=rfl;simp+decide (disch:=first|omega|rfl|(simp+decide only[go_sem,h3,<-iG]<;>rfl)|fail) only[go_sem,h3,<-iG];cases hs:nE x
  ·refine Sz2 h3 hs ?_;refine Qc ?_ rfl;congr 1;symm;rw[Kcr];exact⟨x,dB,by simp[hs]⟩
  ·refine Sz2 h3 hs ?_;refine Qf (l.length-(i+1)) Oz ⟨i+1,rfl,by omega,fg hs,?_⟩;exact Tz0
 ·obtain rfl:i=l.length:=by omega
  refine Sz0 ?_;refine Qc ?_ rfl;congr 1;symm;rw[Kax];intro t ht;obtain⟨j,hj,rfl⟩:=KaV ht;exact h1 j hj hj
theorem SJ{r c:Int}{l:List RQ}(hl:ny l):Qd Tryz.prog 52 [PV.lj r c l] (· = .bool (ju r c l)):=by
 refine aE Qg Tryz.func52 ant fun C hP=>?_;have jm:=hl.1;refine Sz0 ?_;by_cases h1:r<0
 ·refine Sz1 h1 ?_;exact Qc (by rw[ju,decide_eq_false Oz];rfl) rfl
 refine Sz1 h1 ?_;by_cases h2:40<r
 ·refine Sz1 h2 ?_;exact Qc (by rw[ju,decide_eq_false Oz];rfl) rfl
 refine Sz1 h2 ?_;by_cases h3:c<0
 ·refine Sz1 h3 ?_;exact Qc (by rw[ju,decide_eq_false Oz];rfl) rfl
 refine Sz1 h3 ?_;by_cases h4:40<c
 ·refine Sz1 h4 ?_;exact Qc (by rw[ju,decide_eq_false Oz];rfl) rfl
 obtain⟨R,rfl⟩:=KbV (show 0<=r by omega);obtain⟨m,rfl⟩:=KbV (show 0<=c by omega);have rO:R*m<=40*40:=KaQ Oz Oz;have e1:(R:Int)*(m:Int)=((R*m:Nat):Int):=by rw[Kb3]
 refine Sz2 h4 e1 ?_;refine Qa (fun rV=>?_) (fun rV=>?_)
 ·refine Sz0 ?_;exact Qc (by rw[ju,e1,decide_eq_false (fun h=>rV h.2.2.2.2)];rfl) rfl
 refine Sz0 ?_;refine Qb hP (PF hl) ?_;refine Sz0 ?_;exact Qc (by rw[ju,e1,decide_eq_true ⟨by omega,by omega,by omega,by omega,by omega⟩,KcA]) rfl
theorem RF{r c:Int}{l:List RQ}(hl:ny l):Qd Tryz.prog 57 [PV.lj r c l] (· = .bool (ju r c l)):=by
 refine aE Qg Tryz.func57 anv fun C hP=>?_;have jm:=hl.1;refine Sz0 ?_;by_cases h1:r<0
 ·refine Sz1 h1 ?_;exact Qc (by rw[ju,decide_eq_false Oz];rfl) rfl
 refine Sz1 h1 ?_;by_cases h2:40<r
 ·refine Sz1 h2 ?_;exact Qc (by rw[ju,decide_eq_false Oz];rfl) rfl
 refine Sz1 h2 ?_;by_cases h3:c<0
 ·refine Sz1 h3 ?_;exact Qc (by rw[ju,decide_eq_false Oz];rfl) rfl
 refine Sz1 h3 ?_;by_cases h4:40<c
 ·refine Sz1 h4 ?_;exact Qc (by rw[ju,decide_eq_false Oz];rfl) rfl
 obtain⟨R,rfl⟩:=KbV (show 0<=r by omega);obtain⟨m,rfl⟩:=KbV (show 0<=c by omega);have rO:R*m<=40*40:=KaQ Oz Oz;have e1:(R:Int)*(m:Int)=((R*m:Nat):Int):=by rw[Kb3]
 refine Sz2 h4 e1 ?_;refine Qa (fun rV=>?_) (fun rV=>?_)
 ·refine Sz0 ?_;exact Qc (by rw[ju,e1,decide_eq_false (fun h=>rV h.2.2.2.2)];rfl) rfl
 refine Sz0 ?_;refine Qb hP (OA hl) ?_;refine Sz0 ?_;exact Qc (by rw[ju,e1,decide_eq_true ⟨by omega,by omega,by omega,by omega,by omega⟩,KcA]) rfl
theorem aks{R m i k:Nat}{l:List RQ}(hl:ny l)(h:l.length=R*m)(hi:i<R)(hk:k<m):Qd Tryz.prog 201 [PV.lj R m l,.int .i64 i,.int .i64 k] (· =PV.rq (l.getD (i*m+k) default)):=by
 have jm:=hl.1;have XN:(i+1)*m<=R*m:=Kaj _ Oz;have avO:(i+1)*m=i*m+m:=by rw[KaK,KcT]
 have e1:(i:Int)*(m:Int)=((i*m:Nat):Int):=by rw[Kb3]
 have dZ:i*m+k<l.length:=by omega
 have e3:(((i*m:Nat):Int)+(k:Int)).toNat=i*m+k:=by omega
 have e4:l.getD (i*m+k) default=l[i*m+k]:=by rw[Kad,Kag dZ];rfl
 rw[e4];refine aE Qg Tryz.func201 ake fun C hP=>?_;simp+decide (disch:=try exact D1 e1) only[go_sem,e1];refine cr ?_;simp+decide (disch:=try exact D0) only[go_sem];exact Qc rfl rfl
def mj(k:Nat)(l:List RQ):Prop:=∀q∈l,Raw k q.n q.a q.d
theorem ny.k{l:List RQ}(h:ny l):mj 1048576 l:=h.2
theorem mj.of{l:List Rat}{k:Nat}(h:∀q∈l,rs q<=k):mj k (l.map qR):=fun x hx=>by obtain⟨q,hq,rfl⟩:=Kaq.1 hx;exact fO (h q hq)
theorem acr{a b:List RQ}{k:Nat}(ha:mj k a)(hb:mj k b)(hk:k<2^34)(la:a.length<2^40)(lb:b.length<2^40):Qd Tryz.prog 17 [PV.rm a,PV.rm b] (· = .bool (decide (a.map eL=b.map eL))):=by
 refine aE Qg Tryz.func17 anx fun C hP=>?_;refine Sz0 ?_;refine Qa (fun hg=>?_) (fun hg=>?_)
 ·refine Sz0 ?_;refine Qc ?_ rfl;rw[decide_eq_false];intro e;have:=congrArg List.length e;simp at this;omega
 have rP:a.length=b.length:=by omega
 refine Sz0 ?_;refine Qi okB [(4,5),(11,26)] [] (fun m J hp=>∃i,m=a.length-i/\i<=a.length/\(∀j (h1:j<a.length) (h2:j<b.length),j<i->eL a[j]=eL b[j])/\J 5= .int .i64 (i:Nat)) a.length ?_ ?_
 ·refine⟨0,rfl,by omega,by omega,?_⟩;refine Sz0 ?_;rfl
 rintro _ J h ⟨i,rfl,hi,h1,h5⟩;refine Sz1 h5 ?_;refine Qa (fun hg=>?_) (fun hg=>?_)
 ·skip
  have al:i<a.length:=by omega
  have uu:i<b.length:=by omega
  have dU:=ha _ (Kah al);have M7:=hb _ (Kah uu);have aJ:eL a[i]≠eL b[i]->a.map eL≠b.map eL:=fun h e=>h (by have:=congrArg (fun l=>l[i]?) e;simpa[al,uu]using this);have fg:eL a[i]=eL b[i]->∀j (h1:j<a.length) (h2:j<b.length),j<i+1->eL a[j]=eL b[j]:=fun h j hj xE im=>by
   by_cases e:j=i
   ·subst e;exact h
   ·exact h1 j hj xE Oz
  generalize hx:a[i]=x at *
  generalize hy:b[i]=y at *
  refine Sz3 h5 hx hy ?_;refine Qb hP (Ux dU M7 hk) ?_;by_cases e:eL x=eL y
  ·have e':rv x.n x.a x.d=rv y.n y.a y.d:=e;refine Sz2 h5 e' ?_;refine Qf (a.length-(i+1)) Oz ⟨i+1,rfl,by omega,fg e,?_⟩;exact Tz0
  ·have e':¬rv x.n x.a x.d=rv y.n y.a y.d:=e;refine Sz2 h5 e' ?_;refine Qc ?_ rfl;rw[decide_eq_false (aJ e)]
 ·obtain rfl:i=a.length:=by omega
  refine Sz1 h5 ?_;refine Qc ?_ rfl;rw[decide_eq_true];refine Ka7 (by simp[rP]) fun j j1 j2=>?_;rw[Ka8,Ka8];exact h1 j (by simpa using j1) (by simpa using j2) (by simpa using j1)
def oE(r c r' c':Int)(a b:List RQ):Bool:=decide (r=r'/\c=c'/\a.map eL=b.map eL)
theorem ahk{r c r' c':Int}{a b:List RQ}{k:Nat}(ha:mj k a)(hb:mj k b)(hk:k<2^34)(la:a.length<2^40)(lb:b.length<2^40):Qd Tryz.prog 159 [PV.lj r c a,PV.lj r' c' b] (· = .bool (oE r c r' c' a b)):=by
 refine aE Qg Tryz.func159 akf fun C hP=>?_;refine Sz0 ?_;by_cases h1:¬r=r'
 ·refine Sz1 h1 ?_;exact Qc (by rw[oE,decide_eq_false fun e=>h1 e.1]) rfl
 obtain rfl:=Classical.not_not.1 h1;refine Sz0 ?_;by_cases h2:¬c=c'
 ·refine Sz1 h2 ?_;exact Qc (by rw[oE,decide_eq_false fun e=>h2 e.2.1]) rfl
 obtain rfl:=Classical.not_not.1 h2;refine Sz0 ?_;refine Qa (fun h3=>?_) (fun h3=>?_)
 ·refine Sz0 ?_;refine Qc ?_ rfl;rw[oE,decide_eq_false];intro e;have:=congrArg List.length e.2.2;simp at this;omega
 have rP:a.length=b.length:=by omega
 refine Sz0 ?_;refine Qb hP (acr ha hb hk la lb) ?_;refine Sz0 ?_;exact Qc (by unfold oE;simp) rfl
theorem akt{r c r' c':Int}{a b:List RQ}{k:Nat}(ha:mj k a)(hb:mj k b)(hk:k<2^34)(la:a.length<2^40)(lb:b.length<2^40):Qd Tryz.prog 154 [PV.lj r c a,PV.lj r' c' b] (· = .bool (oE r c r' c' a b)):=by
 refine aE Qg Tryz.func154 akd fun C hP=>?_;refine Sz0 ?_;by_cases h1:¬r=r'
 ·refine Sz1 h1 ?_;exact Qc (by rw[oE,decide_eq_false fun e=>h1 e.1]) rfl
 obtain rfl:=Classical.not_not.1 h1;refine Sz0 ?_;by_cases h2:¬c=c'
 ·refine Sz1 h2 ?_;exact Qc (by rw[oE,decide_eq_false fun e=>h2 e.2.1]) rfl
 obtain rfl:=Classical.not_not.1 h2;refine Sz0 ?_;refine Qa (fun h3=>?_) (fun h3=>?_)
 ·refine Sz0 ?_;refine Qc ?_ rfl;rw[oE,decide_eq_false];intro e;have:=congrArg List.length e.2.2;simp at this;omega
 have rP:a.length=b.length:=by omega
 refine Sz0 ?_;refine Qi okB [(4,5),(30,45)] [] (fun m J hp=>∃i,m=a.length-i/\i<=a.length/\(∀j (h1:j<a.length) (h2:j<b.length),j<i->eL a[j]=eL b[j])/\J 30= .int .i64 (i:Nat)/\hp 2=some ⟨3,24,[PV.lj r c a],false⟩/\hp 3=some ⟨3,24,[PV.lj r c b],false⟩) a.length ?_ ?_
 ·refine⟨0,rfl,by omega,by omega,?_⟩;refine Sz0 ?_;rfl
 rintro _ J h ⟨i,rfl,hi,h1,ky,b2,b3⟩;refine Sz1 ky ?_;refine Qa (fun hg=>?_) (fun hg=>?_)
 ·have al:i<a.length:=by omega
  have uu:i<b.length:=by omega
  have dU:=ha _ (Kah al);have M7:=hb _ (Kah uu);have aJ:eL a[i]≠eL b[i]->a.map eL≠b.map eL:=fun h e=>h (by have:=congrArg (fun l=>l[i]?) e;simpa[al,uu]using this);have fg:eL a[i]=eL b[i]->∀j (h1:j<a.length) (h2:j<b.length),j<i+1->eL a[j]=eL b[j]:=fun h j hj xE im=>by
   by_cases e:j=i
   ·subst e;exact h
   ·exact h1 j hj xE Oz
  generalize hx:a[i]=x at *
  generalize hy:b[i]=y at *
  refine Sz5 ky b2 b3 hx hy ?_;refine Qb hP (UU dU M7 Oz) ?_;by_cases e:eL x=eL y
  ·have e':rv x.n x.a x.d=rv y.n y.a y.d:=e;refine Sz4 ky b2 b3 e' ?_;refine Qf (a.length-(i+1)) Oz ⟨i+1,rfl,by omega,fg e,?_⟩;exact Tz2 b2 b3
  ·have e':¬rv x.n x.a x.d=rv y.n y.a y.d:=e;refine Sz4 ky b2 b3 e' ?_;refine Qc ?_ rfl;rw[oE,decide_eq_false fun e2=>aJ e e2.2.2]
 ·obtain rfl:i=a.length:=by omega
  refine Sz1 ky ?_;refine Qc ?_ rfl;rw[oE,decide_eq_true];refine⟨rfl,rfl,Ka7 (by simp[rP]) fun j j1 j2=>?_⟩;rw[Ka8,Ka8];exact h1 j (by simpa using j1) (by simpa using j2) (by simpa using j1)
end Go.Proofs.YtkoclfmjlolkhaaGreat
namespace Go.FW
open Go
abbrev LF:=Rat×(Nat->Rat)
def cT(M:MF)(f:LF):MF:=fun r c=>M r c-f.1*f.2 r*f.2 c
def fP(M:MF)(l:List LF):MF:=l.foldl cT M
theorem Lu(M:MF)(l:List LF)(f:LF):fP M (l++[f])=cT (fP M l) f:=by simp[fP]
def Qx(R:Nat)(M:MF):Nat->MF×List LF
 |0=>(M,[])
 |k+1=>(fP (Qx R M k).1 (cd (Qx R M k).1 R),(Qx R M k).2++cd (Qx R M k).1 R)
def dj(R:Nat)(l:List LF):List Rat:=l.flatMap fun f=>(List.range R).map f.2
theorem sh(R:Nat)(l:List LF):(dj R l).length=l.length*R:=by
 induction l with
 |nil=>simp[dj]
 |cons f l ih=>unfold dj at ih⊢;rw[Kav,Kay,ih,KaT,KaK];simp;omega
theorem Lv(R:Nat)(l:List LF)(f:LF):dj R (l++[f])=dj R l++(List.range R).map f.2:=by simp[dj]
theorem pe(f:Nat->Rat)(w:Nat):Qo PV.rat f w=((List.range w).map f).map PV.rat:=by simp[Qo]
theorem KF(M:MF)(R:Nat):(cd M R).length<=2:=by
 unfold cd;split
 ·simp
 ·split<;>simp
theorem Gw(R:Nat)(M:MF):∀k,(Qx R M k).2.length<=2*k
 |0=>by simp[Qx]
 |k+1=>by have:=Gw R M k;have:=KF (Qx R M k).1 R;simp only[Qx,Kay];omega
def xa(K R n:Nat)(M:MF):Prop:=∀k,k<=n->fL K R R (Qx R M k).1/\(∀f∈cd (Qx R M k).1 R,rs f.1<=K/\∀c,c<R->rs (f.2 c)<=K)/\∀j,j<=(cd (Qx R M k).1 R).length->fL K R R (fP (Qx R M k).1 ((cd (Qx R M k).1 R).take j))
end Go.FW
