/- Part 17 of the proof of InequalityPolys: DB, FwYM. Own lemmas; no conditions. -/
import Derived.Test.YtikalonaompbdaaGreatInequalityPolysPart16
set_option maxHeartbeats 1000000
set_option linter.all false
set_option maxRecDepth 100000
namespace Go.Proofs.YtikalonaompbdaaGreat
open Go.Proofs.Tryz
open Go Go.FW
variable{k:Nat}
abbrev Pt:=Rat×Rat
abbrev PV.ju(p:Pt):PV:=.agg [.bool (decide (p.1.num<0)),PV.num p.1.num.natAbs,PV.num p.1.den,.bool (decide (p.2.num<0)),PV.num p.2.num.natAbs,PV.num p.2.den]
def lO(k:Nat)(p:Pt):Prop:=rs p.1<=k/\rs p.2<=k
def xq(p q:Pt):Pt:=(q.1-p.1,q.2-p.2)
def adW{p q:Pt}(hp:lO k p)(hq:lO k q):lO (2*k+1) (xq p q):=by have h1:=H6 q.1 p.1;have h2:=H6 q.2 p.2;obtain⟨a,b⟩:=hp;obtain⟨c,d⟩:=hq;exact⟨by show rs (q.1-p.1)<=_;omega,by show rs (q.2-p.2)<=_;omega⟩
def aom{p q:Pt}(hp:lO k p)(hq:lO k q)(hk:k<=2^30):AC 291 [PV.ju p,PV.ju q] (· =PV.ju (xq p q)):=by have h1:=Bm (a:=q.1) (b:=p.1) (k:=k) hq.1 hp.1 Oz;have h2:=Bm (a:=q.2) (b:=p.2) (k:=k) hq.2 hp.2 Oz;obtain⟨p1,p2⟩:=p;obtain⟨q1,q2⟩:=q;simp only[xq]at h1 h2⊢;refine aF Qd func291 aol λC hP=>?_;refine ay hP h1 ?_;refine ay hP h2 ?_;refine Sz0 ?_;refine cx ?_;exact cf
end Go.Proofs.YtikalonaompbdaaGreat
namespace Go.FW
open Go
variable {C : Ctx} {ρ : Nat -> Option Nat} {fr aG : Fr} {hp hp' : HP} {w w' : World} {K R : Qf}
variable{A:HB}{D:PV}{P:Program}{ag:Bool}{args cs:List PV}
def z':PV->Bool
 |.aD O _ _=>O==2000000
 |.fn .. =>false
 |p=>eE p
def Uk{c:PV}(h:z' c=true):(∀x∈c.dM,x=2000000)/\∀σ:Nat->Nat,σ 2000000=2000000->dh σ c=c:=by
 cases c with
 |aD O o n=>
  have:O=2000000:=by simpa[z']using h
  subst this;exact⟨λx hx=>by simpa[PV.dM]using hx,λσ lH=>by simp[dh,lH]⟩
 |_=>first|(simp[z',eE]at h;done)|exact⟨λx hx=>absurd (show x∈([]:List Nat)from hx) KaR,λ_ _=>rfl⟩
abbrev sX(γ ty e:Nat)(cs:List PV):PV:=.aH γ e ty [.aU cs]
abbrev bgG(ty e:Nat)(cs:List PV):Fr:=ae (λ_=>.undef) 1000000 (sX 1000000 ty e cs)
abbrev bgH(ty e:Nat)(A:HB):HP:=Qg (Qg aB 1000000 ⟨e,ty,[],false⟩) 2000000 A
abbrev Tc(P:Program)(f:FuncId)(args:List PV)(ty e:Nat)(cs:List PV)(A:HB)(cs':List PV)(A':HB)(D:PV):Prop:=
 jc P f (.np 1000000 0 0::args) (bgG ty e cs) (bgH ty e A) λr F H=>r=D/\F 1000000=sX 1000000 ty e cs'/\H 1000000=some ⟨e,ty,[],false⟩/\H 2000000=some A'
def RY{γ ty e:Nat}(h:cs.all z'=true){x:Nat}(hx:x∈(sX γ ty e cs).refs++(sX γ ty e cs).aO):x=γ\/x=2000000:=by
 simp only[PV.refs,PV.aO,PV.aV,KaO,Kal,Kaq,Kai,KaA,Kat]at hx;rcases hx with rfl|⟨c,hc,hx⟩
 .exact .inl rfl
 .exact .inr ((Uk (Kas.1 h c hc)).1 x hx)
def UG{γ ty e:Nat}(h:cs.all z'=true)(hr:cs.any PV.kC=true)(h2:2<=cs.length){σ:Nat->Nat}(lH:σ 2000000=2000000):bF σ (sX γ ty e cs)=sX (σ γ) ty e cs:=by
 have e1:cs.map (dh σ)=cs:=by
  conv=>rhs;rw[<-List.map_id cs]
  exact KaF λc hc=>(Uk (Kas.1 h c hc)).2 σ lH
 have e2:eW cs= .aU cs:=by
  match cs,h2 with
  |a::b::l,_=>show lR (a::b::l)=_;unfold lR;rw[if_pos hr]
 simp only[bF,PV.aV,Ka3,Kbs,e1,e2]
def Dr  (hP:C.P=P) {g ty e γ d:Nat} {cs':List PV} {A':HB}   (h:Tc P g args ty e cs A cs' A' D) (ak:γ=1000000\/γ=2000010)
  (hg:fr γ=sX γ ty e cs) (h0:hp γ=some ⟨e,ty,[],false⟩) (hA:hp 2000000=some A) (fA:A.fz=false)
  (ok:cs.all z'=true) (okr:cs.any PV.kC=true) (okl:2<=cs.length) (ok':cs'.all z'=true) (ayx:cs'.any PV.kC=true) (ayv:2<=cs'.length)
  (gG:∀x∈args,eE x=true) (bx:args.length+1<=1000000) (hD:lU D)
  (hK:K (ae (ae (ep yg (gC γ fr)) γ (sX γ ty e cs')) d D) (Qg (Qg hp γ ⟨e,ty,[],false⟩) 2000000 A')):eI C false (.fn g [] []) (.np γ 0 0::args) (some d) fr hp K:=by
 have Fy:bN γ=true:=by rcases ak with rfl|rfl<;>decide
 have tE:γ≠2000000:=by rcases ak with rfl|rfl<;>decide
 have O7:1000000<=γ:=by rcases ak with rfl|rfl<;>decide
 obtain⟨gv,gA⟩:∃f:Nat->Option Nat,f=λx=>if x=1000000 then some γ else if x=2000000 then some 2000000 else none:=⟨_,rfl⟩
 obtain⟨τ,jZ⟩:∃f:Nat->Nat,f=λx=>if x=γ then 1000000 else x:=⟨_,rfl⟩
 have ga:∀O δ,gv O=some δ->(O=1000000/\δ=γ)\/(O=2000000/\δ=2000000):=λO δ hq=>by
  rw[gA]at hq;simp only at hq;split at hq
  .cases hq;rename_i e;exact .inl ⟨e,rfl⟩
  .split at hq
   .cases hq;rename_i e;exact .inr ⟨e,rfl⟩
   .cases hq
 have g0:gv 1000000=some γ:=by rw[gA];simp
 have g1:gv 2000000=some 2000000:=by rw[gA];simp
 have t0:τ γ=1000000:=by rw[jZ];simp
 have t1:τ 2000000=2000000:=by rw[jZ];simp[Ne.symm tE]
 have gr:∀O δ,gv O=some δ->eB O=false:=λO δ hq=>by rcases ga O δ hq with⟨rfl,_⟩|⟨rfl,_⟩<;>decide
 have gN:∀δ,(∃O,gv O=some δ)->δ=γ\/δ=2000000:=λδ ⟨O,ao⟩=>by rcases ga O δ ao with⟨_,rfl⟩|⟨_,rfl⟩<;>simp
 have names:∀x∈args,x.refs=[]/\x.aO=[]/\∀σ,bF σ x=x:=λx hx=>AA (gG x hx)
 refine AY hP h gv τ ⟨λO δ hq=>?_,λO hq=>?_,λO bq δ q1 q2=>?_⟩ (λO δ hq=>?_) ?_ (λx hx δ fq=>?_) (λs hs=>?_) (by simpa using bx) (λh=>by cases h) (λρ tmps w hs r F H dY _=>?_)
 .rcases ga O δ hq with⟨rfl,rfl⟩|⟨rfl,rfl⟩
  .exact⟨_,h0,by decide,(λh=>by cases h),λ_=>⟨by simp[Qg],rfl,Fy,λh=>by cases h⟩⟩
  .exact⟨_,hA,by decide,(λh=>by cases h),λ_=>⟨by simp[Qg],fA,by decide,λ_=>by decide⟩⟩
 .by_cases e0:O=1000000
  .subst e0;exact⟨_,g0⟩
  .by_cases e1:O=2000000
   .subst e1;exact⟨_,g1⟩
   .simp[Qg,FW.aB,e0,e1]at hq
 .rcases ga O δ q1 with⟨rfl,rfl⟩|⟨rfl,rfl⟩<;>rcases ga bq _ q2 with⟨rfl,e⟩|⟨rfl,e⟩<;>first|rfl|exact absurd e tE|exact absurd e.symm tE
 .rcases ga O δ hq with⟨rfl,rfl⟩|⟨rfl,rfl⟩
  .exact t0
  .exact t1
 .simp only[Ka3];congr 1
  .simp[bF,dh,t0]
  .conv=>rhs;rw[<-List.map_id args]
   exact KaF λx hx=>(names x hx).2.2 τ
 .rcases KaA.1 hx with rfl|hx
  .simp[PV.refs,PV.aO]at fq;subst fq;exact⟨_,g0⟩
  .rw[(names x hx).1,(names x hx).2.1]at fq;cases fq
 .by_cases es:s=1000000
  .subst es;refine .inr ⟨γ,O7,?_,λδ fq=>?_⟩
   .rw[hg,UG ok okr okl t1,t0];simp[ae]
   .rw[hg]at fq;rcases RY ok fq with rfl|rfl
    .exact⟨_,g0⟩
    .exact⟨_,g1⟩
  .left;simp[ae,es]
 .rw [HZ gr];obtain⟨rfl,k1,k2,k3⟩:=dY;obtain⟨⟨p1,p2⟩,p3⟩:=hD;obtain⟨eo,jV⟩:∃f:Nat->Option Nat,f=λx=>if x=γ then some 1000000 else if x=2000000 then some 2000000 else none:=⟨_,rfl⟩
  obtain⟨σ,lH⟩:∃f:Nat->Nat,f=λx=>if x=1000000 then γ else x:=⟨_,rfl⟩
  have s0:σ 1000000=γ:=by rw[lH];simp
  have s1:σ 2000000=2000000:=by rw[lH];simp
  have ea:∀x O,eo x=some O->(x=γ/\O=1000000)\/(x=2000000/\O=2000000):=λx O hq=>by
   rw[jV]at hq;simp only at hq;split at hq
   .cases hq;rename_i e;exact .inl ⟨e,rfl⟩
   .split at hq
    .cases hq;rename_i e;exact .inr ⟨e,rfl⟩
    .cases hq
  have e0:eo γ=some 1000000:=by rw[jV];simp
  have e1:eo 2000000=some 2000000:=by rw[jV];simp[Ne.symm tE]
  have en:∀x,eo x=none->x≠γ/\x≠2000000:=λx hx=>⟨(λe=>by rw[e,e0]at hx;cases hx),(λe=>by rw[e,e1]at hx;cases hx)⟩
  refine⟨eo,σ,_,_,λx O hq=>?_,λO δ hq hy=>?_,λx O hq=>?_,λx hq hx=>?_,λx hq _=>?_,λs=>?_,hK⟩
  .rcases ea x O hq with⟨rfl,rfl⟩|⟨rfl,rfl⟩
   .exact⟨by rw[k2];simp,s0,Fy,.inl ⟨by decide,g0⟩⟩
   .exact⟨by rw[k3];simp,s1,by decide,.inr ⟨by decide,by decide,.inr ⟨_,g1⟩⟩⟩
  .rcases ga O δ hq with⟨rfl,rfl⟩|⟨rfl,rfl⟩
   .exact e0
   .cases hy
  .rcases ea x O hq with⟨rfl,rfl⟩|⟨rfl,rfl⟩
   .rw[k2];simp[Qg,tE]
   .rw[k3];simp[Qg]
  .obtain⟨n1,n2⟩:=en x hq;rcases gN x hx with h|h
   .exact absurd h n1
   .exact absurd h n2
  .obtain⟨n1,n2⟩:=en x hq;simp[Qg,n1,n2]
  .by_cases es:s=d
   .subst es;refine .inr (.inr (.inl ⟨rfl,?_,λO ao=>by rw[p1,p2]at ao;cases ao⟩));rw[p3];simp[ae]
   .by_cases eg:s=γ
    .subst eg;refine .inr (.inr (.inr ⟨1000000,Oz,⟨_,_,_,_,k1⟩,?_,λO ao=>?_⟩))
     .rw[k1,UG ok' ayx ayv s1,s0];simp[ae,es]
     .rw[k1]at ao;rcases RY ok' ao with rfl|rfl
      .rw[s0];exact e0
      .rw[s1];exact e1
    .have ev:ae (ae (ep yg (gC γ fr)) γ (sX γ ty e cs')) d r s=lk yg (fj γ (fr s)):=by simp[ae,es,eg,ep,gC]
     rw[ev];unfold lk;split
     .exact .inl rfl
     .rename_i rW;by_cases hn:∃e' ty' ys,fr s= .aH γ e' ty' ys
      .obtain⟨e',ty',ys,hq⟩:=hn;left;rw[hq];simp[fj]
      .have Nh:fj γ (fr s)=fr s:=by
        cases hq:fr s with
        |aH bo e' ty' ys=>simp only[fj];rw[if_neg];intro h;subst h;exact hn ⟨_,_,_,hq⟩
        |_=>rfl
       rw[Nh]at rW⊢;refine .inr (.inl ⟨λh=>es (Kbn h).symm,rfl,λδ fq=>?_,λδ e ty xs hq=>?_⟩)
       .by_cases ed:δ=γ
        .subst ed;exact .inr ⟨1000000,_,_,g0,by decide,h0,k2,rfl,Kag _⟩
        .left;intro hx;rcases gN δ hx with h|h
         .exact ed h
         .subst h;exact rW (KaJ.2 ⟨_,fq,KO⟩)
       .intro hx;have hm:δ∈(fr s).refs++(fr s).aO:=by rw[hq];simp[PV.aO]
        rcases gN δ hx with h|h
        .subst h;exact hn ⟨_,_,_,hq⟩
        .subst h;exact rW (KaJ.2 ⟨_,hm,KO⟩)
def Td{s n t:Nat}{E:PV}{aN:PV->Fr->HP->Prop}(h:gv fr hp (.cell s n ag)=D)(hd:D.aJ=true)(h2:fr t=E)(he:E.flat=true)(dY:aN (.aI [D,E]) fr hp):lW [.cell s n ag,.t t] aN fr hp:=by
 subst h;obtain⟨g1,g2⟩:=tX hd;obtain⟨f1,f2,f3⟩:=tL (hp:=hp) he;subst h2;refine rp ⟨?_,.aI [gv fr hp (.cell s n ag),fr t],?_,?_⟩
 .intro r hr;simp only[KaA,KaR,or_false]at hr;rcases hr with rfl|rfl
  .exact g1
  .show(Qr hp (fr t)).aJ=true;rw[f1];exact f3
 .show PV.yd (.aI [lK fr hp (.cell s n ag),Qr hp (fr t)]) _;rw[g2,f1];exact⟨Qi _,Qi _,trivial⟩
 .show aN _ fr (Qu hp ([]++((fr t).refs++[])));rw[f2];show aN _ fr (Qu hp []);rw[vd];exact dY
end Go.FW
