/- Part 8 of the proof of GoalsTrivial: K2, FwXB, FwYC. Own lemmas; no conditions. -/
import Derived.Test.YtonjiljafkiikaaGreatGoalsTrivialPart7
set_option maxHeartbeats 1000000
set_option linter.unusedSimpArgs false
set_option linter.unusedVariables false
set_option linter.unnecessarySimpa false
set_option maxRecDepth 100000
namespace Go.Proofs.YtonjiljafkiikaaGreat
open Go Go.FW
abbrev Cd:=List Tm×List Tm
abbrev Vr:=Int×Int×Int
abbrev PV.bB(c:Cd):PV:=.agg [PV.aC c.1,PV.aC c.2]
abbrev PV.fvar(v:Vr):PV:=.agg [.int .i64 v.1,.int .i64 v.2.1,.int .i64 v.2.2]
abbrev sm(cs:List Cd):HB:=⟨2,82,cs.map PV.bB,false⟩
abbrev sn(vs:List Vr):HB:=⟨3,99,vs.map PV.fvar,false⟩
abbrev lU(f:Nat)(cs:List Cd)(vs cN:List Vr)(args:List PV)(q:PV):Prop:=
 rF Tryz.prog f (vL cs.length vs.length::args) (fun _=>.undef) (Qi (Qi au 2000000 (sm cs)) 2000001 (sn vs)) fun r _ H=>r= .cj [.ms 2000000 cs.length,.ms 2000001 cN.length] q/\H 2000000=some (sm cs)/\H 2000001=some (sn cN)
theorem rH{cs:List Cd}{vs:List Vr}{k s m:Int}(hv:vs.length<64):lU 57 cs vs (vs++[(k,s,m)]) [.int .i64 k,.int .i64 s,.int .i64 m] (PV.aC (bV vs.length)):=by
 have abv:=Bc (v:=vs.length) hv;refine rp Qk Tryz.func57 rfl VS (by simp[Di]) fun C hP=>?_;simp only[Di,Zo,Zg,Zm,Zc,Zf,Zl,Zh,Zs,Zi,Zb,Zk,Zn,Zu,Zq,Zr,Zz];refine Sz0 ?_;refine cq (mJ 8 2000010 bA (by omega) rfl (by omega)) ?_;refine Sz0 ?_;refine cq (mF (γ:=2000010) (e:=2) (ty:=43) (xs:=[.agg [.aa,.aa]]) (fz:=false) Tz0 (by simp) (by omega) (fun x hx=>by rw[KaQ.1 hx];rfl)) ?_;refine Sz0 ?_;rw[GM (f:=PV.fvar) (y:=(k,s,m)) (xs:=vs) (ty':=99) (fz:=false) Tz0 Tz0 (by omega) rfl (by omega) (by omega) (by omega)];have sL:((vs.length+1:Nat):Int)-1=(vs.length:Nat):=by omega
 refine Sz1 sL ?_;refine Qa hP abv rfl rfl rfl ?_;refine Sz0 ?_;refine PX (γ:=2000010) (ty:=43) (n:=cs.length) (m:=vs.length+1) Tz0 Tz0 (q:=PV.aC (bV vs.length)) Tz0 rfl ⟨by simp,by simp+decide (disch:=try exact D0) only[go_sem],by simp+decide (disch:=try exact D0) only[go_sem]⟩
theorem GW{cs:List Cd}{vs:List Vr}{s m:Int}(hv:vs.length<63)(hm:0<=m/\m<1000):
  lU 58 cs vs (vs++[(2,s,m),(2,s,m+1)]) [.int .i64 s,.int .i64 m] (PV.bB (bV vs.length,bV (vs.length+1:Nat))):=by
 have h1:=rH (cs:=cs) (vs:=vs) (k:=2) (s:=s) (m:=m) (by omega);have h2:=rH (cs:=cs) (vs:=vs++[(2,s,m)]) (k:=2) (s:=s) (m:=m+1) (by simp;omega);have e1:(vs++[(2,s,m)]).length=vs.length+1:=by simp
 have e2:vs++[(2,s,m)]++[(2,s,m+1)]=vs++[(2,s,m),(2,s,m+1)]:=by simp
 have e3:(vs++[(2,s,m),(2,s,m+1)]).length=vs.length+1+1:=by simp
 rw[lU,e2,e1,e3]at h2;rw[lU,e1]at h1;refine rp Qk Tryz.func58 rfl VT (by simp[Dj]) fun C hP=>?_;simp only[Dj,Zo,Zg,Zm,Zc,Zf,Zl,Zh,Zs,Zi,Zb,Zk,Zn,Zu,Zq,Zr,Zz];refine Sz0 ?_;refine cq (mJ 6 2000010 bA (by omega) rfl (by omega)) ?_;refine Sz0 ?_;refine cq (mF (γ:=2000010) (e:=2) (ty:=43) (xs:=[.agg [.aa,.aa]]) (fz:=false) Tz0 (by simp) (by omega) (fun x hx=>by rw[KaQ.1 hx];rfl)) ?_;refine Sz0 ?_;refine cq (ru (γ:=4000003) (e:=2) (ty:=43) (cs:=[.ao 2000000 0 cs.length,.ao 2000001 0 vs.length]) Tz0) ?_;refine Sz0 ?_;refine lH hP h1 Tz0 Tz0 rfl rfl rfl (by simp) ?_;refine Sz0 ?_;refine cq (ru (γ:=4000003) (e:=2) (ty:=43) (cs:=[.ao 2000000 0 cs.length,.ao 2000001 0 (vs.length+1)]) Tz0) ?_;refine Sz0 ?_;refine lH hP h2 Tz0 Tz0 rfl rfl rfl (by simp) ?_;refine Sz0 ?_;refine iE ?_ ?_
 all_goals
  refine Sz0 ?_;refine lD (γ:=2000010) (ty:=43) (n:=cs.length) (m:=vs.length+1+1) Tz0 Tz0 (q:=PV.bB (bV vs.length,bV (vs.length+1:Nat))) Tz0 rfl ⟨by rw[e3],by simp+decide (disch:=try exact D0) only[go_sem],by simp+decide (disch:=try exact D0) only[go_sem]⟩
end Go.Proofs.YtonjiljafkiikaaGreat
namespace Go.FW
open Go
variable {fr : Fr} {hp : HP}
theorem VX{β e ty:Nat}{xs xs':List PV}{fz:Bool}(ah:hp β=some ⟨e,ty,xs,fz⟩)(hl:xs'.length=xs.length)
  (hc:∀(i:Nat)(x x':PV),xs[i]? =some x->xs'[i]? =some x'->x'.ax=true/\x'.cells.length=x.cells.length/\∀(j:Nat)(y y':PV),x.cells[j]? =some y->x'.cells[j]? =some y'->PV.jf y y'):
  Wk fr hp fr (Qi hp β ⟨e,ty,xs',fz⟩):=by
 rintro C tmps w ⟨ρ,hs⟩;obtain⟨hp',ja⟩:∃f,f=Qi hp β ⟨e,ty,xs',fz⟩:=⟨_,rfl⟩
 rw[<-ja];have ES:hp' β=some ⟨e,ty,xs',fz⟩:=by rw[ja];simp[Qi]
 have po:∀γ,γ≠β->hp' γ=hp γ:=fun γ af=>by rw[ja];simp[Qi,af]
 have back:∀(i:Nat)(x':PV),xs'[i]? =some x'->∃x,xs[i]? =some x:=fun i x' h=>by have hi:i<xs'.length:=(Kac.1 h).1;exact⟨xs[i]'(by omega),by simp⟩
 have hX:∀c,ay C ρ hp' c->ay C ρ hp c:=by
  rintro c (hx|⟨γ,hb,g1,g2,g3⟩)
  ·exact .inl hx
  ·by_cases af:γ=β
   ·subst af;rw[ES]at g1;cases g1;exact .inr ⟨γ,_,ah,g2,g3⟩
   ·rw[po γ af]at g1;exact .inr ⟨γ,hb,g1,g2,g3⟩
 have aR:iN w w (ay C ρ hp) (ay C ρ hp'):=⟨fun _ _ _=>rfl,fun c _ hn h=>hn (hX c h),Kae _⟩
 have c1:∀γ,kH ρ ρ hp hp' w w γ:=fun γ=>by
  by_cases af:γ=β
  ·subst af;refine⟨rfl,fun hb hq=>?_⟩;rw[ah]at hq;cases hq;exact⟨_,ES,rfl,by show xs.length<=xs'.length;omega,fun _ _ _ h=>h,fun h=>⟨KbP (by rw[show xs=[]from h]at hl;exact hl),rfl,fun _ _=>rfl⟩⟩
  ·exact⟨rfl,fun hb hq=>⟨hb,by rw[po γ af];exact hq,rfl,Kae _,fun _ _ _ h=>h,fun h=>⟨h,rfl,fun _ _=>rfl⟩⟩⟩
 refine⟨ρ,hs.sz,hs.ext,hs.dE,fun γ aX af=>?_,fun γ δ c g1 g2 g3 g4=>?_,fun i=>?_⟩
 ·by_cases hq:γ=β
  ·subst hq;rw[ES]at af;cases af;have h:=hs.own γ _ ah;refine⟨h.gh,fun i x' aG=>?_,?_,h.fix,h.ro⟩
   ·obtain⟨x,hx⟩:=back i x' aG;obtain⟨d1,d2,_⟩:=hc i x x' hx aG;exact⟨d2.trans (h.len i x hx).1,d1⟩
   ·have aK:=h.b8;cases hr:ρ γ with
    |none=>rw[hr]at aK;exact KbP (by rw[show xs=[]from aK]at hl;exact hl)
    |some b=>
     rw[hr]at aK;obtain⟨b1,b2,cur,cap,k1,k2,k3,k4,k5⟩:=aK;refine⟨b1,b2,cur,cap,k1,k2,by show xs'.length<=cap;have:xs.length<=cap:=k3;omega,k4,fun i x' aG j y' jI=>?_⟩;obtain⟨x,hx⟩:=back i x' aG;obtain⟨_,d2,d3⟩:=hc i x x' hx aG;have hj:j<x'.cells.length:=(Kac.1 jI).1;have hy:x.cells[j]? =some (x.cells[j]'(by omega)):=by simp
     exact((k5 i x hx j _ hy).le (d3 j _ y' hy jI)).sub hX
  ·rw[po γ hq]at af;obtain⟨q1,q2,q3,q4,q5⟩:=hs.own γ aX af;refine⟨q1,q2,?_,q4,q5⟩;cases hr:ρ γ with
   |none=>rw[hr]at q3;exact q3
   |some c=>rw[hr]at q3;exact⟨q3.1,q3.2.1,q3.2.2.move rfl rfl rfl rfl aR.rc⟩
 ·have f:∀γ,hp' γ≠none->hp γ≠none:=fun γ af=>by
   by_cases hq:γ=β
   ·subst hq;simp[ah]
   ·rwa[po γ hq]at af
  exact hs.inj γ δ c (f γ g1) (f δ g2) g3 g4
 ·exact(hs.ch i).move aR (fun γ _=>(c1 γ).o) (fun γ _=>(c1 γ).sW) (fun γ e' ty' ys _=>c1 γ)
end Go.FW
namespace Go.FW
open Go
variable {C : Ctx} {fr : Fr} {hp : HP} {w : World} {K R : Qg}
theorem B6{β ty e e':Nat}(h:hp β=some ⟨2,ty,[.agg [.aa,.aa]],false⟩):Wk fr hp fr (Qi hp β ⟨2,ty,[.agg [.sl e [],.sl e' []]],false⟩):=
 VX h rfl fun i x x' hx aG=>by
  match i,hx,aG with
  |0,hx,aG=>
   simp at hx aG;subst hx aG;refine⟨rfl,rfl,fun j y y' h1 h2=>?_⟩
   match j,h1,h2 with
   |0,h1,h2=>cases h1;cases h2;trivial
   |1,h1,h2=>cases h1;cases h2;trivial
   |j+2,h1,h2=>cases h1
  |i+1,hx,aG=>simp at hx
end Go.FW
