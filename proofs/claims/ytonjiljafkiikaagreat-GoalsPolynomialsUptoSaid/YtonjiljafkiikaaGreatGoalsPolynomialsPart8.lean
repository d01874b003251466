/- Part 8 of the proof of GoalsPolynomials: K2, FwXB, FwYC. Own lemmas; no conditions. -/
import Derived.Test.YtonjiljafkiikaaGreatGoalsPolynomialsPart7
set_option maxHeartbeats 1000000
set_option linter.unusedSimpArgs false
set_option linter.unusedVariables false
set_option linter.unnecessarySimpa false
set_option maxRecDepth 100000
namespace Go.Proofs.YtonjiljafkiikaaGreat
open Go Go.FW
abbrev Cd:=List Tm×List Tm
abbrev Vr:=Int×Int×Int
abbrev PV.ay(c:Cd):PV:=.agg [PV.ax c.1,PV.ax c.2]
abbrev PV.fvar(v:Vr):PV:=.agg [.int .i64 v.1,.int .i64 v.2.1,.int .i64 v.2.2]
abbrev s9(cs:List Cd):HB:=⟨2,82,cs.map PV.ay,false⟩
abbrev tc(vs:List Vr):HB:=⟨3,99,vs.map PV.fvar,false⟩
abbrev mr(f:Nat)(cs:List Cd)(vs cV:List Vr)(args:List PV)(q:PV):Prop:=
 sr Tryz.prog f (wV cs.length vs.length::args) (fun _=>.undef) (Qi (Qi au 2000000 (s9 cs)) 2000001 (tc vs)) fun r _ H=>r= .cm [.ms 2000000 cs.length,.ms 2000001 cV.length] q/\H 2000000=some (s9 cs)/\H 2000001=some (tc cV)
theorem su{cs:List Cd}{vs:List Vr}{k s m:Int}(hv:vs.length<64):mr 57 cs vs (vs++[(k,s,m)]) [.int .i64 k,.int .i64 s,.int .i64 m] (PV.ax (bX vs.length)):=by
 have adh:=Bp (v:=vs.length) hv;refine rV Qh Tryz.func57 rfl X9 (by simp[Et]) fun C hP=>?_;simp only[Et,Zo,Zg,Zm,Zc,Zf,Zl,Zh,Zs,Zi,Zb,Zk,Zn,Zu,Zq,Zr,Zz];refine Sz0 ?_;refine cO (ni 8 2000010 bd (by omega) rfl (by omega)) ?_;refine Sz0 ?_;refine cO (nc (γ:=2000010) (e:=2) (ty:=43) (xs:=[.agg [.aa,.aa]]) (fz:=false) Tz0 (by simp) (by omega) (fun x hx=>by rw[KaB.1 hx];rfl)) ?_;refine Sz0 ?_;rw[H9 (f:=PV.fvar) (y:=(k,s,m)) (xs:=vs) (ty':=99) (fz:=false) Tz0 Tz0 (by omega) rfl (by omega) (by omega) (by omega)];have tx:((vs.length+1:Nat):Int)-1=(vs.length:Nat):=by omega
 refine Sz1 tx ?_;refine Qa hP adh rfl rfl rfl ?_;refine Sz0 ?_;refine Sr (γ:=2000010) (ty:=43) (n:=cs.length) (m:=vs.length+1) Tz0 Tz0 (q:=PV.ax (bX vs.length)) Tz0 rfl ⟨by simp,by simp+decide (disch:=try exact D0) only[go_sem],by simp+decide (disch:=try exact D0) only[go_sem]⟩
theorem Is{cs:List Cd}{vs:List Vr}{s m:Int}(hv:vs.length<63)(hm:0<=m/\m<1000):
  mr 58 cs vs (vs++[(2,s,m),(2,s,m+1)]) [.int .i64 s,.int .i64 m] (PV.ay (bX vs.length,bX (vs.length+1:Nat))):=by
 have h1:=su (cs:=cs) (vs:=vs) (k:=2) (s:=s) (m:=m) (by omega);have h2:=su (cs:=cs) (vs:=vs++[(2,s,m)]) (k:=2) (s:=s) (m:=m+1) (by simp;omega);have e1:(vs++[(2,s,m)]).length=vs.length+1:=by simp
 have e2:vs++[(2,s,m)]++[(2,s,m+1)]=vs++[(2,s,m),(2,s,m+1)]:=by simp
 have e3:(vs++[(2,s,m),(2,s,m+1)]).length=vs.length+1+1:=by simp
 rw[mr,e2,e1,e3]at h2;rw[mr,e1]at h1;refine rV Qh Tryz.func58 rfl Ya (by simp[Eu]) fun C hP=>?_;simp only[Eu,Zo,Zg,Zm,Zc,Zf,Zl,Zh,Zs,Zi,Zb,Zk,Zn,Zu,Zq,Zr,Zz];refine Sz0 ?_;refine cO (ni 6 2000010 bd (by omega) rfl (by omega)) ?_;refine Sz0 ?_;refine cO (nc (γ:=2000010) (e:=2) (ty:=43) (xs:=[.agg [.aa,.aa]]) (fz:=false) Tz0 (by simp) (by omega) (fun x hx=>by rw[KaB.1 hx];rfl)) ?_;refine Sz0 ?_;refine cO (r9 (γ:=4000003) (e:=2) (ty:=43) (cs:=[.aq 2000000 0 cs.length,.aq 2000001 0 vs.length]) Tz0) ?_;refine Sz0 ?_;refine me hP h1 Tz0 Tz0 rfl rfl rfl (by simp) ?_;refine Sz0 ?_;refine cO (r9 (γ:=4000003) (e:=2) (ty:=43) (cs:=[.aq 2000000 0 cs.length,.aq 2000001 0 (vs.length+1)]) Tz0) ?_;refine Sz0 ?_;refine me hP h2 Tz0 Tz0 rfl rfl rfl (by simp) ?_;refine Sz0 ?_;refine eV ?_ ?_
 all_goals
  refine Sz0 ?_;refine ma (γ:=2000010) (ty:=43) (n:=cs.length) (m:=vs.length+1+1) Tz0 Tz0 (q:=PV.ay (bX vs.length,bX (vs.length+1:Nat))) Tz0 rfl ⟨by rw[e3],by simp+decide (disch:=try exact D0) only[go_sem],by simp+decide (disch:=try exact D0) only[go_sem]⟩
end Go.Proofs.YtonjiljafkiikaaGreat
namespace Go.FW
open Go
variable {fr : Fr} {hp : HP}
theorem XD{β e ty:Nat}{xs xs':List PV}{fz:Bool}(aj:hp β=some ⟨e,ty,xs,fz⟩)(hl:xs'.length=xs.length)
  (hc:∀(i:Nat)(x x':PV),xs[i]? =some x->xs'[i]? =some x'->x'.aA=true/\x'.cells.length=x.cells.length/\∀(j:Nat)(y y':PV),x.cells[j]? =some y->x'.cells[j]? =some y'->PV.jD y y'):
  Wk fr hp fr (Qi hp β ⟨e,ty,xs',fz⟩):=by
 rintro C tmps w ⟨ρ,hs⟩;obtain⟨hp',jy⟩:∃f,f=Qi hp β ⟨e,ty,xs',fz⟩:=⟨_,rfl⟩
 rw[<-jy];have Gh:hp' β=some ⟨e,ty,xs',fz⟩:=by rw[jy];simp[Qi]
 have po:∀γ,γ≠β->hp' γ=hp γ:=fun γ ah=>by rw[jy];simp[Qi,ah]
 have back:∀(i:Nat)(x':PV),xs'[i]? =some x'->∃x,xs[i]? =some x:=fun i x' h=>by have hi:i<xs'.length:=(Kad.1 h).1;exact⟨xs[i]'(by omega),by simp⟩
 have hX:∀c,aB C ρ hp' c->aB C ρ hp c:=by
  rintro c (hx|⟨γ,hb,g1,g2,g3⟩)
  ·exact .inl hx
  ·by_cases ah:γ=β
   ·subst ah;rw[Gh]at g1;cases g1;exact .inr ⟨γ,_,aj,g2,g3⟩
   ·rw[po γ ah]at g1;exact .inr ⟨γ,hb,g1,g2,g3⟩
 have aW:jg w w (aB C ρ hp) (aB C ρ hp'):=⟨fun _ _ _=>rfl,fun c _ hn h=>hn (hX c h),Kag _⟩
 have c1:∀γ,ll ρ ρ hp hp' w w γ:=fun γ=>by
  by_cases ah:γ=β
  ·subst ah;refine⟨rfl,fun hb hq=>?_⟩;rw[aj]at hq;cases hq;exact⟨_,Gh,rfl,by show xs.length<=xs'.length;omega,fun _ _ _ h=>h,fun h=>⟨KbR (by rw[show xs=[]from h]at hl;exact hl),rfl,fun _ _=>rfl⟩⟩
  ·exact⟨rfl,fun hb hq=>⟨hb,by rw[po γ ah];exact hq,rfl,Kag _,fun _ _ _ h=>h,fun h=>⟨h,rfl,fun _ _=>rfl⟩⟩⟩
 refine⟨ρ,hs.sz,hs.ext,hs.dK,fun γ ba ah=>?_,fun γ δ c g1 g2 g3 g4=>?_,fun i=>?_⟩
 ·by_cases hq:γ=β
  ·subst hq;rw[Gh]at ah;cases ah;have h:=hs.own γ _ aj;refine⟨h.gF,fun i x' aL=>?_,?_,h.fix,h.ro⟩
   ·obtain⟨x,hx⟩:=back i x' aL;obtain⟨d1,d2,_⟩:=hc i x x' hx aL;exact⟨d2.trans (h.len i x hx).1,d1⟩
   ·have aP:=h.ca;cases hr:ρ γ with
    |none=>rw[hr]at aP;exact KbR (by rw[show xs=[]from aP]at hl;exact hl)
    |some b=>
     rw[hr]at aP;obtain⟨b1,b2,cur,cap,k1,k2,k3,k4,k5⟩:=aP;refine⟨b1,b2,cur,cap,k1,k2,by show xs'.length<=cap;have:xs.length<=cap:=k3;omega,k4,fun i x' aL j y' kk=>?_⟩;obtain⟨x,hx⟩:=back i x' aL;obtain⟨_,d2,d3⟩:=hc i x x' hx aL;have hj:j<x'.cells.length:=(Kad.1 kk).1;have hy:x.cells[j]? =some (x.cells[j]'(by omega)):=by simp
     exact((k5 i x hx j _ hy).le (d3 j _ y' hy kk)).sub hX
  ·rw[po γ hq]at ah;obtain⟨q1,q2,q3,q4,q5⟩:=hs.own γ ba ah;refine⟨q1,q2,?_,q4,q5⟩;cases hr:ρ γ with
   |none=>rw[hr]at q3;exact q3
   |some c=>rw[hr]at q3;exact⟨q3.1,q3.2.1,q3.2.2.move rfl rfl rfl rfl aW.rc⟩
 ·have f:∀γ,hp' γ≠none->hp γ≠none:=fun γ ah=>by
   by_cases hq:γ=β
   ·subst hq;simp[aj]
   ·rwa[po γ hq]at ah
  exact hs.inj γ δ c (f γ g1) (f δ g2) g3 g4
 ·exact(hs.cd i).move aW (fun γ _=>(c1 γ).o) (fun γ _=>(c1 γ).tJ) (fun γ e' ty' ys _=>c1 γ)
end Go.FW
namespace Go.FW
open Go
variable {C : Ctx} {fr : Fr} {hp : HP} {w : World} {K R : Qg}
theorem CJ{β ty e e':Nat}(h:hp β=some ⟨2,ty,[.agg [.aa,.aa]],false⟩):Wk fr hp fr (Qi hp β ⟨2,ty,[.agg [.sl e [],.sl e' []]],false⟩):=
 XD h rfl fun i x x' hx aL=>by
  match i,hx,aL with
  |0,hx,aL=>
   simp at hx aL;subst hx aL;refine⟨rfl,rfl,fun j y y' h1 h2=>?_⟩
   match j,h1,h2 with
   |0,h1,h2=>cases h1;cases h2;trivial
   |1,h1,h2=>cases h1;cases h2;trivial
   |j+2,h1,h2=>cases h1
  |i+1,hx,aL=>simp at hx
end Go.FW
