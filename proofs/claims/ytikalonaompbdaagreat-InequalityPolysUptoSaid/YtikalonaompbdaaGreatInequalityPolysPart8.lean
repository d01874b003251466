/- Part 8 of the proof of InequalityPolys: K2, FwXB, FwYC. Own lemmas; no conditions. -/
import Derived.Test.YtikalonaompbdaaGreatInequalityPolysPart7
set_option maxHeartbeats 1000000
set_option linter.all false
set_option maxRecDepth 100000
namespace Go.Proofs.YtikalonaompbdaaGreat
open Go.Proofs.Tryz
open Go Go.FW
variable{m:Int}
abbrev Cd:=List Tm×List Tm
abbrev Vr:=Int×Int×Int
abbrev PV.bj(c:Cd):PV:=.agg [PV.aC c.1,PV.aC c.2]
abbrev PV.fvar(v:Vr):PV:=.agg [.int .i64 v.1,.int .i64 v.2.1,.int .i64 v.2.2]
abbrev te(cs:List Cd):HB:=⟨2,81,cs.map PV.bj,false⟩
abbrev tf(vs:List Vr):HB:=⟨3,253,vs.map PV.fvar,false⟩
abbrev sR(f:Nat)(cs:List Cd)(vs eP:List Vr)(args:List PV)(q:PV):Prop:=
 jc Tryz.prog f (Iq cs.length vs.length::args) (λ_=>.undef) (Qg (Qg aB 2000000 (te cs)) 2000001 (tf vs)) λr _ H=>r= .dQ [.ms 2000000 cs.length,.ms 2000001 eP.length] q/\H 2000000=some (te cs)/\H 2000001=some (tf eP)
def AO{cs:List Cd}{vs:List Vr}{k s:Int}(hv:vs.length<64):sR 165 cs vs (vs++[(k,s,m)]) [.int .i64 k,.int .i64 s,.int .i64 m] (PV.aC (bJ vs.length)):=by have OE:=Q9a (v:=vs.length) hv;refine jd Qd func165 rfl an4 Nz λC hP=>?_;simp only[Xf];refine cC ?_;refine Sz0 ?_;refine bV (kv 8 2000010 Qw Oz rfl Oz) ?_;refine Sz0 ?_;refine bV (me (γ:=2000010) (e:=2) (ty:=76) (xs:=[.agg [.aa,.aa]]) (fz:=false) Tz0 (by simp) Oz (λx hx=>by rw[Kax.1 hx];rfl)) ?_;refine Sz0 ?_;rw[wK (f:=PV.fvar) (y:=(k,s,m)) (xs:=vs) (ty':=253) (fz:=false) Tz0 Tz0 Oz rfl Oz Oz Oz];have wx:((vs.length+1:Nat):Int)-1=(vs.length:Nat):=Oz;refine gE wx hP OE ?_;refine Sz0 ?_;refine aj8 (γ:=2000010) (ty:=76) (n:=cs.length) (m:=vs.length+1) Tz0 Tz0 (q:=PV.aC (bJ vs.length)) Tz0 rfl ⟨by simp,by simp+decide (disch:=try exact D0) only[go_sem],by simp+decide (disch:=try exact D0) only[go_sem]⟩
def VP{cs:List Cd}{vs:List Vr}{s:Int}(hv:vs.length<63)(hm:0<=m/\m<1000):
  sR 166 cs vs (vs++[(2,s,m),(2,s,m+1)]) [.int .i64 s,.int .i64 m] (PV.bj (bJ vs.length,bJ (vs.length+1:Nat))):=by
 have h1:=AO (cs:=cs) (vs:=vs) (k:=2) (s:=s) (m:=m) Oz;have h2:=AO (cs:=cs) (vs:=vs++[(2,s,m)]) (k:=2) (s:=s) (m:=m+1) (by simp;omega);have e1:(vs++[(2,s,m)]).length=vs.length+1:=by simp
 have e2:vs++[(2,s,m)]++[(2,s,m+1)]=vs++[(2,s,m),(2,s,m+1)]:=by simp
 have e3:(vs++[(2,s,m),(2,s,m+1)]).length=vs.length+1+1:=by simp
 rw[sR,e2,e1,e3]at h2;rw[sR,e1]at h1;refine jd Qd func166 rfl an5 Nz λC hP=>?_;simp only[Xg];refine cC ?_;refine Sz0 ?_;refine bV (kv 6 2000010 Qw Oz rfl Oz) ?_;refine Sz0 ?_;refine bV (me (γ:=2000010) (e:=2) (ty:=76) (xs:=[.agg [.aa,.aa]]) (fz:=false) Tz0 (by simp) Oz (λx hx=>by rw[Kax.1 hx];rfl)) ?_;refine Sz0 ?_;refine bV (AF (γ:=4000003) (e:=2) (ty:=76) (cs:=[.aD 2000000 0 cs.length,.aD 2000001 0 vs.length]) Tz0) ?_;refine Sz0 ?_;refine sB hP h1 Tz0 Tz0 rfl rfl rfl (by simp) ?_;refine Sz0 ?_;refine bV (AF (γ:=4000003) (e:=2) (ty:=76) (cs:=[.aD 2000000 0 cs.length,.aD 2000001 0 (vs.length+1)]) Tz0) ?_;refine Sz0 ?_;refine sB hP h2 Tz0 Tz0 rfl rfl rfl (by simp) ?_;refine Sz0 ?_;refine fU ?_ ?_
 all_goals
  refine Sz0 ?_;refine sv (γ:=2000010) (ty:=76) (n:=cs.length) (m:=vs.length+1+1) Tz0 Tz0 (q:=PV.bj (bJ vs.length,bJ (vs.length+1:Nat))) Tz0 rfl ⟨by rw[e3],by simp+decide (disch:=try exact D0) only[go_sem],by simp+decide (disch:=try exact D0) only[go_sem]⟩
end Go.Proofs.YtikalonaompbdaaGreat
namespace Go.FW
open Go
variable {fr : Fr} {hp : HP}
variable{O e ty:Nat}{fz:Bool}{xs xs':List PV}
def KP(ao:hp O=some ⟨e,ty,xs,fz⟩)(hl:xs'.length=xs.length)
  (hc:∀(i:Nat)(x x':PV),xs[i]? =some x->xs'[i]? =some x'->x'.aJ=true/\x'.cells.length=x.cells.length/\∀(j:Nat)(y y':PV),x.cells[j]? =some y->x'.cells[j]? =some y'->PV.oR y y'):
  Wk fr hp fr (Qg hp O ⟨e,ty,xs',fz⟩):=by
 rintro C tmps w ⟨ρ,hs⟩;obtain⟨hp',lC⟩:∃f,f=Qg hp O ⟨e,ty,xs',fz⟩:=⟨_,rfl⟩
 rw[<-lC];have O1:hp' O=some ⟨e,ty,xs',fz⟩:=by rw[lC];simp[Qg]
 have po:∀γ,γ≠O->hp' γ=hp γ:=λγ ak=>by rw[lC];simp[Qg,ak]
 have back:∀(i:Nat)(x':PV),xs'[i]? =some x'->∃x,xs[i]? =some x:=λi x' h=>by have hi:i<xs'.length:=(Kah.1 h).1;exact⟨xs[i]'Oz,by simp⟩
 have hX:∀c,aM C ρ hp' c->aM C ρ hp c:=by
  rintro c (hx|⟨γ,hb,g1,g2,g3⟩)
  .exact .inl hx
  .by_cases ak:γ=O
   .subst ak;rw[O1]at g1;cases g1;exact .inr ⟨γ,_,ao,g2,g3⟩
   .rw[po γ ak]at g1;exact .inr ⟨γ,hb,g1,g2,g3⟩
 have a9:nK w w (aM C ρ hp) (aM C ρ hp'):=⟨λ_ _ _=>rfl,λc _ hn h=>hn (hX c h),Kag _⟩
 have c1:∀γ,pW ρ ρ hp hp' w w γ:=λγ=>by
  by_cases ak:γ=O
  .subst ak;refine⟨rfl,λhb hq=>?_⟩;rw[ao]at hq;cases hq;exact⟨_,O1,rfl,by show xs.length<=xs'.length;omega,λ_ _ _ h=>h,λh=>⟨Kb6 (by rw[show xs=[]from h]at hl;exact hl),rfl,λ_ _=>rfl⟩⟩
  .exact⟨rfl,λhb hq=>⟨hb,by rw[po γ ak];exact hq,rfl,Kag _,λ_ _ _ h=>h,λh=>⟨h,rfl,λ_ _=>rfl⟩⟩⟩
 refine⟨ρ,hs.sz,hs.ext,hs.fG,λγ hb1 ak=>?_,λγ δ c g1 g2 g3 g4=>?_,λi=>?_⟩
 .by_cases hq:γ=O
  .subst hq;rw[O1]at ak;cases ak;have h:=hs.own γ _ ao;refine⟨h.mA,λi x' bc=>?_,?_,h.fix,h.ro⟩
   .obtain⟨x,hx⟩:=back i x' bc;obtain⟨d1,d2,_⟩:=hc i x x' hx bc;exact⟨d2.trans (h.len i x hx).1,d1⟩
   .have bu:=h.du;cases hr:ρ γ with
    |none=>rw[hr]at bu;exact Kb6 (by rw[show xs=[]from bu]at hl;exact hl)
    |some b=>
     rw[hr]at bu;obtain⟨b1,b2,cur,cap,k1,k2,k3,k4,k5⟩:=bu;refine⟨b1,b2,cur,cap,k1,k2,by show xs'.length<=cap;have:xs.length<=cap:=k3;omega,k4,λi x' bc j y' iV=>?_⟩;obtain⟨x,hx⟩:=back i x' bc;obtain⟨_,d2,d3⟩:=hc i x x' hx bc;have hj:j<x'.cells.length:=(Kah.1 iV).1;have hy:x.cells[j]? =some (x.cells[j]'Oz):=by simp
     exact((k5 i x hx j _ hy).le (d3 j _ y' hy iV)).sub hX
  .rw[po γ hq]at ak;obtain⟨q1,q2,q3,q4,q5⟩:=hs.own γ hb1 ak;refine⟨q1,q2,?_,q4,q5⟩;cases hr:ρ γ with
   |none=>rw[hr]at q3;exact q3
   |some c=>rw[hr]at q3;exact⟨q3.1,q3.2.1,q3.2.2.move rfl rfl rfl rfl a9.rc⟩
 .have f:∀γ,hp' γ≠none->hp γ≠none:=λγ ak=>by
   by_cases hq:γ=O
   .subst hq;simp[ao]
   .rwa[po γ hq]at ak
  exact hs.inj γ δ c (f γ g1) (f δ g2) g3 g4
 .exact(hs.cQ i).move a9 (λγ _=>(c1 γ).o) (λγ _=>(c1 γ).Ac) (λγ e' ty' ys _=>c1 γ)
end Go.FW
namespace Go.FW
open Go
variable {C : Ctx} {fr : Fr} {hp : HP} {w : World} {K R : Qf}
variable{O e ty:Nat}
def J6{e':Nat}(h:hp O=some ⟨2,ty,[.agg [.aa,.aa]],false⟩):Wk fr hp fr (Qg hp O ⟨2,ty,[.agg [.sl e [],.sl e' []]],false⟩):=
 KP h rfl λi x x' hx bc=>by
  match i,hx,bc with
  |0,hx,bc=>
   simp at hx bc;subst hx bc;refine⟨rfl,rfl,λj y y' h1 h2=>?_⟩
   match j,h1,h2 with
   |0,h1,h2=>cases h1;cases h2;trivial
   |1,h1,h2=>cases h1;cases h2;trivial
   |j+2,h1,h2=>cases h1
  |i+1,hx,bc=>simp at hx
end Go.FW
