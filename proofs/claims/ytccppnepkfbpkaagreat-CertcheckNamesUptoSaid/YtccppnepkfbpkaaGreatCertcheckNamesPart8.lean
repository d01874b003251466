/- Part 8 of the proof of CertcheckNames: K2, FwXB, FwYC. Own lemmas; no conditions. -/
import Derived.Test.YtccppnepkfbpkaaGreatCertcheckNamesPart7
set_option maxHeartbeats 1000000
set_option linter.unusedSimpArgs false
set_option linter.unusedVariables false
set_option linter.unnecessarySimpa false
set_option maxRecDepth 100000
namespace Go.Proofs.YtccppnepkfbpkaaGreat
open Go Go.FW
abbrev Cd:=List Tm×List Tm
abbrev Vr:=Int×Int×Int
abbrev PV.aC(c:Cd):PV:=.agg [PV.ao c.1,PV.ao c.2]
abbrev PV.fvar(v:Vr):PV:=.agg [.int .i64 v.1,.int .i64 v.2.1,.int .i64 v.2.2]
abbrev yq(cs:List Cd):HB:=⟨2,135,cs.map PV.aC,false⟩
abbrev yr(vs:List Vr):HB:=⟨3,193,vs.map PV.fvar,false⟩
abbrev pV(f:Nat)(cs:List Cd)(vs dD:List Vr)(args:List PV)(q:PV):Prop:=
 xq Tryz.prog f (Co cs.length vs.length::args) (fun _=>.undef) (Ql (Ql aw 2000000 (yq cs)) 2000001 (yr vs)) fun r _ H=>r= .cO [.ms 2000000 cs.length,.ms 2000001 dD.length] q/\H 2000000=some (yq cs)/\H 2000001=some (yr dD)
theorem xt{cs:List Cd}{vs:List Vr}{k s m:Int}(hv:vs.length<64):pV 133 cs vs (vs++[(k,s,m)]) [.int .i64 k,.int .i64 s,.int .i64 m] (PV.ao (Q3 vs.length)):=by
 have apf:=CR (v:=vs.length) hv;refine xd Qg Tryz.func133 rfl afw Nz fun C hP=>?_;simp only[Rn];refine du ?_;refine Sz0 ?_;refine bT (pN 8 2000010 bf (by omega) rfl (by omega)) ?_;refine Sz0 ?_;refine bT (pK (γ:=2000010) (e:=2) (ty:=30) (xs:=[.agg [.aa,.aa]]) (fz:=false) Tz0 (by simp) (by omega) (fun x hx=>by rw[Kay.1 hx];rfl)) ?_;refine Sz0 ?_;rw[CM (f:=PV.fvar) (y:=(k,s,m)) (xs:=vs) (ty':=193) (fz:=false) Tz0 Tz0 (by omega) rfl (by omega) (by omega) (by omega)];have tf:((vs.length+1:Nat):Int)-1=(vs.length:Nat):=by omega
 refine Sz1 tf ?_;refine Qa hP apf rfl rfl rfl ?_;refine Sz0 ?_;refine acv (γ:=2000010) (ty:=30) (n:=cs.length) (m:=vs.length+1) Tz0 Tz0 (q:=PV.ao (Q3 vs.length)) Tz0 rfl ⟨by simp,by simp+decide (disch:=try exact D0) only[go_sem],by simp+decide (disch:=try exact D0) only[go_sem]⟩
theorem OI{cs:List Cd}{vs:List Vr}{s m:Int}(hv:vs.length<63)(hm:0<=m/\m<1000):
  pV 134 cs vs (vs++[(2,s,m),(2,s,m+1)]) [.int .i64 s,.int .i64 m] (PV.aC (Q3 vs.length,Q3 (vs.length+1:Nat))):=by
 have h1:=xt (cs:=cs) (vs:=vs) (k:=2) (s:=s) (m:=m) (by omega);have h2:=xt (cs:=cs) (vs:=vs++[(2,s,m)]) (k:=2) (s:=s) (m:=m+1) (by simp;omega);have e1:(vs++[(2,s,m)]).length=vs.length+1:=by simp
 have e2:vs++[(2,s,m)]++[(2,s,m+1)]=vs++[(2,s,m),(2,s,m+1)]:=by simp
 have e3:(vs++[(2,s,m),(2,s,m+1)]).length=vs.length+1+1:=by simp
 rw[pV,e2,e1,e3]at h2;rw[pV,e1]at h1;refine xd Qg Tryz.func134 rfl afx Nz fun C hP=>?_;simp only[Ro];refine du ?_;refine Sz0 ?_;refine bT (pN 6 2000010 bf (by omega) rfl (by omega)) ?_;refine Sz0 ?_;refine bT (pK (γ:=2000010) (e:=2) (ty:=30) (xs:=[.agg [.aa,.aa]]) (fz:=false) Tz0 (by simp) (by omega) (fun x hx=>by rw[Kay.1 hx];rfl)) ?_;refine Sz0 ?_;refine bT (xg (γ:=4000003) (e:=2) (ty:=30) (cs:=[.au 2000000 0 cs.length,.au 2000001 0 vs.length]) Tz0) ?_;refine Sz0 ?_;refine pJ hP h1 Tz0 Tz0 rfl rfl rfl (by simp) ?_;refine Sz0 ?_;refine bT (xg (γ:=4000003) (e:=2) (ty:=30) (cs:=[.au 2000000 0 cs.length,.au 2000001 0 (vs.length+1)]) Tz0) ?_;refine Sz0 ?_;refine pJ hP h2 Tz0 Tz0 rfl rfl rfl (by simp) ?_;refine Sz0 ?_;refine dp ?_ ?_
 all_goals
  refine Sz0 ?_;refine pG (γ:=2000010) (ty:=30) (n:=cs.length) (m:=vs.length+1+1) Tz0 Tz0 (q:=PV.aC (Q3 vs.length,Q3 (vs.length+1:Nat))) Tz0 rfl ⟨by rw[e3],by simp+decide (disch:=try exact D0) only[go_sem],by simp+decide (disch:=try exact D0) only[go_sem]⟩
end Go.Proofs.YtccppnepkfbpkaaGreat
namespace Go.FW
open Go
variable {fr : Fr} {hp : HP}
theorem aih{β e ty:Nat}{xs xs':List PV}{fz:Bool}(aj:hp β=some ⟨e,ty,xs,fz⟩)(hl:xs'.length=xs.length)
  (hc:∀(i:Nat)(x x':PV),xs[i]? =some x->xs'[i]? =some x'->x'.aD=true/\x'.cells.length=x.cells.length/\∀(j:Nat)(y y':PV),x.cells[j]? =some y->x'.cells[j]? =some y'->PV.mC y y'):
  Wk fr hp fr (Ql hp β ⟨e,ty,xs',fz⟩):=by
 rintro C tmps w ⟨ρ,hs⟩;obtain⟨hp',mw⟩:∃f,f=Ql hp β ⟨e,ty,xs',fz⟩:=⟨_,rfl⟩
 rw[<-mw];have KG:hp' β=some ⟨e,ty,xs',fz⟩:=by rw[mw];simp[Ql]
 have po:∀γ,γ≠β->hp' γ=hp γ:=fun γ ah=>by rw[mw];simp[Ql,ah]
 have back:∀(i:Nat)(x':PV),xs'[i]? =some x'->∃x,xs[i]? =some x:=fun i x' h=>by have hi:i<xs'.length:=(Kaf.1 h).1;exact⟨xs[i]'(by omega),by simp⟩
 have hX:∀c,aE C ρ hp' c->aE C ρ hp c:=by
  rintro c (hx|⟨γ,hb,g1,g2,g3⟩)
  ·exact .inl hx
  ·by_cases ah:γ=β
   ·subst ah;rw[KG]at g1;cases g1;exact .inr ⟨γ,_,aj,g2,g3⟩
   ·rw[po γ ah]at g1;exact .inr ⟨γ,hb,g1,g2,g3⟩
 have aL:lX w w (aE C ρ hp) (aE C ρ hp'):=⟨fun _ _ _=>rfl,fun c _ hn h=>hn (hX c h),Kad _⟩
 have c1:∀γ,oH ρ ρ hp hp' w w γ:=fun γ=>by
  by_cases ah:γ=β
  ·subst ah;refine⟨rfl,fun hb hq=>?_⟩;rw[aj]at hq;cases hq;exact⟨_,KG,rfl,by show xs.length<=xs'.length;omega,fun _ _ _ h=>h,fun h=>⟨Kb9 (by rw[show xs=[]from h]at hl;exact hl),rfl,fun _ _=>rfl⟩⟩
  ·exact⟨rfl,fun hb hq=>⟨hb,by rw[po γ ah];exact hq,rfl,Kad _,fun _ _ _ h=>h,fun h=>⟨h,rfl,fun _ _=>rfl⟩⟩⟩
 refine⟨ρ,hs.sz,hs.ext,hs.eG,fun γ aZ ah=>?_,fun γ δ c g1 g2 g3 g4=>?_,fun i=>?_⟩
 ·by_cases hq:γ=β
  ·subst hq;rw[KG]at ah;cases ah;have h:=hs.own γ _ aj;refine⟨h.jV,fun i x' aP=>?_,?_,h.fix,h.ro⟩
   ·obtain⟨x,hx⟩:=back i x' aP;obtain⟨d1,d2,_⟩:=hc i x x' hx aP;exact⟨d2.trans (h.len i x hx).1,d1⟩
   ·have aU:=h.cD;cases hr:ρ γ with
    |none=>rw[hr]at aU;exact Kb9 (by rw[show xs=[]from aU]at hl;exact hl)
    |some b=>
     rw[hr]at aU;obtain⟨b1,b2,cur,cap,k1,k2,k3,k4,k5⟩:=aU;refine⟨b1,b2,cur,cap,k1,k2,by show xs'.length<=cap;have:xs.length<=cap:=k3;omega,k4,fun i x' aP j y' nC=>?_⟩;obtain⟨x,hx⟩:=back i x' aP;obtain⟨_,d2,d3⟩:=hc i x x' hx aP;have hj:j<x'.cells.length:=(Kaf.1 nC).1;have hy:x.cells[j]? =some (x.cells[j]'(by omega)):=by simp
     exact((k5 i x hx j _ hy).le (d3 j _ y' hy nC)).sub hX
  ·rw[po γ hq]at ah;obtain⟨q1,q2,q3,q4,q5⟩:=hs.own γ aZ ah;refine⟨q1,q2,?_,q4,q5⟩;cases hr:ρ γ with
   |none=>rw[hr]at q3;exact q3
   |some c=>rw[hr]at q3;exact⟨q3.1,q3.2.1,q3.2.2.move rfl rfl rfl rfl aL.rc⟩
 ·have f:∀γ,hp' γ≠none->hp γ≠none:=fun γ ah=>by
   by_cases hq:γ=β
   ·subst hq;simp[aj]
   ·rwa[po γ hq]at ah
  exact hs.inj γ δ c (f γ g1) (f δ g2) g3 g4
 ·exact(hs.cH i).move aL (fun γ _=>(c1 γ).o) (fun γ _=>(c1 γ).yY) (fun γ e' ty' ys _=>c1 γ)
end Go.FW
namespace Go.FW
open Go
variable {C : Ctx} {fr : Fr} {hp : HP} {w : World} {K R : Qh}
theorem Ig{β ty e e':Nat}(h:hp β=some ⟨2,ty,[.agg [.aa,.aa]],false⟩):Wk fr hp fr (Ql hp β ⟨2,ty,[.agg [.sl e [],.sl e' []]],false⟩):=
 aih h rfl fun i x x' hx aP=>by
  match i,hx,aP with
  |0,hx,aP=>
   simp at hx aP;subst hx aP;refine⟨rfl,rfl,fun j y y' h1 h2=>?_⟩
   match j,h1,h2 with
   |0,h1,h2=>cases h1;cases h2;trivial
   |1,h1,h2=>cases h1;cases h2;trivial
   |j+2,h1,h2=>cases h1
  |i+1,hx,aP=>simp at hx
end Go.FW
