/- Part 14 of the proof of InequalityPolys: IC5, FwYG, FwYH, FwYL. Own lemmas; no conditions. -/
import Derived.Test.YtikalonaompbdaaGreatInequalityPolysPart13
set_option maxHeartbeats 1000000
set_option linter.all false
set_option maxRecDepth 100000
namespace Go.Proofs.YtikalonaompbdaaGreat
open Go.Proofs.Tryz
open Go Go.FW
noncomputable def JH : Array Oper := UE f46 1
def Lb:List rf:=[⟨none,.dI 10 0 (.t 2)⟩,⟨none,.ld 11 1 false (.t 10)⟩,⟨none,.dI 12 1 (.t 3)⟩,⟨none,.ld 13 1 false (.t 12)⟩,⟨none,.idx 14 1 (.t 13) (.c (.int .i64 0))⟩,⟨none,.ld 15 1 false (.t 14)⟩,⟨none,.idx 16 2 (.t 11) (.t 15)⟩,⟨none,.ld 17 2 true (.t 16)⟩,⟨none,.dI 18 0 (.t 2)⟩,⟨none,.ld 19 1 false (.t 18)⟩,⟨none,.dI 20 1 (.t 3)⟩,⟨none,.ld 21 1 false (.t 20)⟩,⟨none,.idx 22 1 (.t 21) (.c (.int .i64 1))⟩,⟨none,.ld 23 1 false (.t 22)⟩,⟨none,.idx 24 2 (.t 19) (.t 23)⟩,⟨none,.ld 25 2 true (.t 24)⟩,⟨none,.alloc 5 2 81 (.agg [.aa,.aa])⟩,⟨none,.alloc 6 2 81 (.agg [.aa,.aa])⟩,⟨none,.st 2 (.t 5) (.t 17)⟩,⟨none,.st 2 (.t 6) (.t 25)⟩]
def FO:List (List Nat):=[[],[0],[],[2],[3],[4],[1,5],[6],[],[8],[],[10],[11],[12],[9,13],[14],[],[],[16,7,0,1,2,3,4,5,6,7,16,17],[17,15,18,0,1,2,3,4,5,6,7,8,9,10,11,12,13,14,15,16,17,18]]
def aj0:JH.toList.map (nD Tryz.prog 61 true JH)=Lb.map some:=by kernel_rfl
def aj1:JH.toList.map (λo=>(o.after.toList.filter (Region.binds .any)).map (·.on))=FO:=by kernel_rfl
noncomputable def JI : Array Oper := UE f46 2
def Lc:List rf:=[⟨none,.dI 26 0 (.t 2)⟩,⟨none,.ld 27 1 false (.t 26)⟩,⟨none,.dI 28 1 (.t 3)⟩,⟨none,.ld 29 1 false (.t 28)⟩,⟨none,.idx 30 1 (.t 29) (.c (.int .i64 2))⟩,⟨none,.ld 31 1 false (.t 30)⟩,⟨none,.idx 32 2 (.t 27) (.t 31)⟩,⟨none,.ld 33 2 true (.t 32)⟩,⟨none,.dI 34 0 (.t 2)⟩,⟨none,.ld 35 1 false (.t 34)⟩,⟨none,.dI 36 1 (.t 3)⟩,⟨none,.ld 37 1 false (.t 36)⟩,⟨none,.idx 38 1 (.t 37) (.c (.int .i64 3))⟩,⟨none,.ld 39 1 false (.t 38)⟩,⟨none,.idx 40 2 (.t 35) (.t 39)⟩,⟨none,.ld 41 2 true (.t 40)⟩,⟨none,.alloc 7 2 81 (.agg [.aa,.aa])⟩,⟨none,.alloc 8 2 81 (.agg [.aa,.aa])⟩,⟨none,.st 2 (.t 7) (.t 33)⟩,⟨none,.st 2 (.t 8) (.t 41)⟩]
def FP:List (List Nat):=[[],[0],[],[2],[3],[4],[1,5],[6],[],[8],[],[10],[11],[12],[9,13],[14],[],[],[16,7,0,1,2,3,4,5,6,7,16,17],[17,15,18,0,1,2,3,4,5,6,7,8,9,10,11,12,13,14,15,16,17,18]]
def aj2:JI.toList.map (nD Tryz.prog 61 true JI)=Lc.map some:=by kernel_rfl
def aj3:JI.toList.map (λo=>(o.after.toList.filter (Region.binds .any)).map (·.on))=FP:=by kernel_rfl
noncomputable def Xy : ax := ⟨61, [.t 4], .seq (.rg (.o none (.box 2 2 76 (.t 0)) <| .wk <| .o none (.box 3 5 65 (.t 1)) <| .wk <| .o none (.mv 4 (.c .aa)) .nil)) <| .seq (.raw 1 JH) <| .seq (.raw 2 JI) <| .seq (.rg (.o none (.call (some 42) false (.c (.fn 53 [] [])) [(.c (.int .i64 1))]) <| .o none (.alloc 9 3 49 (.agg [(.bool false), .aa, .aa])) <| .o none (.st 3 (.t 9) (.t 42)) .nil)) <| .seq (.seq (.rg (.o none (.dI 43 0 (.t 3)) <| .o none (.ld 44 1 false (.t 43)) <| .o none (.bin 45 .eql false (.t 44) (.c (.int .i64 9))) .nil)) <| .cond (.t 45) (.rg (.o none (.dI 46 2 (.t 3)) <| .o none (.ld 47 3 true (.t 46)) <| .o none (.st 3 (.t 9) (.t 47)) .nil)) (.skip)) <| .seq (.rg (.o none (.ld 48 2 true (.t 5)) <| .o none (.ld 49 2 true (.t 6)) <| .o none (.ld 50 2 true (.t 5)) <| .o none (.ld 51 2 true (.t 6)) <| .o none (.ld 53 2 true (.t 7)) <| .o none (.ld 54 2 true (.t 8)) <| .o none (.ld 55 2 true (.t 7)) <| .o none (.ld 56 2 true (.t 8)) <| .o none (.ld 58 3 true (.t 9)) <| .o none (.call (some 52) true (.c (.fn 96 [] [])) [(.t 48), (.t 49), (.t 50), (.t 51)]) <| .o none (.call (some 57) true (.c (.fn 96 [] [])) [(.t 53), (.t 54), (.t 55), (.t 56)]) <| .o none (.call (some 59) true (.c (.fn 70 [] [])) [(.t 57), (.t 58)]) <| .o none (.call (some 60) true (.c (.fn 95 [] [])) [(.t 52), (.t 59)]) <| .o none (.mv 4 (.t 60)) .nil)) <| .ret⟩
def adl:Qc Tryz.prog f46=some Xy.strip:=by kernel_rfl
end Go.Proofs.YtikalonaompbdaaGreat
namespace Go.FW
open Go
variable {C : Ctx} {fr : Fr} {hp : HP}
variable{E:HB}{α:Type}
abbrev WT:=List (Nat×Nat×PV)
abbrev WB:=List (Nat×Nat×Nat×HB×HB)
structure dR(Z:List (Nat×PV))(T:WT)(B:WB)(l:Nat->Bool)(fr:Fr)(hp:HP):Prop where
 z:∀e∈Z,fr e.1=e.2
 t:∀e∈T,l e.2.1=true->fr e.1=e.2.2
 a:∀e∈B,l e.2.1=true->l e.2.2.1=false->hp e.1=some e.2.2.2.1
 s:∀e∈B,l e.2.2.1=true->hp e.1=some e.2.2.2.2
variable {Z : List (Nat × PV)} {T : WT} {B : WB} {l : Nat -> Bool}
def dR.zf(h:dR Z T B l fr hp){s:Nat}{v:PV}(hf:Z.find? (λe=>e.1==s)=some (s,v)):fr s=v:=h.z (s,v) (List.mem_of_find?_eq_some hf)
def dR.at(h:dR Z T B l fr hp){s i:Nat}{v:PV}(hf:T.find? (λe=>e.1==s)=some (s,i,v))(hl:l i=true):fr s=v:=h.t (s,i,v) (List.mem_of_find?_eq_some hf) hl
def vw{i j:Nat}(h:(j==i||l j)=true)(hn:j≠i):l j=true:=by
 rcases KbL _ _▸h with h|h
 .exact absurd (by simpa using h) hn
 .exact h
def DG{p:α->Bool}{L:List α}{x e:α}(h:L.filter p=[x])(he:e∈L)(hp:p e=true):e=x:=by have:e∈L.filter p:=KcY.2 ⟨he,hp⟩;rw[h]at this;exact Kax.1 this
def dR.slot(h:dR Z T B l fr hp){d i:Nat}{v:PV}(c1:T.filter (λe=>e.2.1==i)=[(d,i,v)])(c2:T.all (λe=>e.2.1==i||e.1 !=d)=true)(c3:Z.all (λe=>e.1 !=d)=true)(c4:B.all (λe=>e.2.1 !=i&&e.2.2.1 !=i)=true):dR Z T B (λk=>k==i||l k) (ae fr d v) hp:=by
 have k4:∀e∈B,e.2.1≠i/\e.2.2.1≠i:=λe he=>by simpa using Kas.1 c4 e he
 refine⟨λe he=>?_,λe he hl=>?_,λe he h1 h2=>?_,λe he h1=>?_⟩
 .have:e.1≠d:=by simpa using Kas.1 c3 e he
  simp[ae,this,h.z e he]
 .by_cases hi:e.2.1=i
  .have:=DG c1 he (by simpa using hi);subst this;simp[ae]
  .have k2:=Kas.1 c2 e he;have:e.1≠d:=by simpa[hi]using k2
   simp[ae,this,h.t e he (vw hl hi)]
 .exact h.a e he (vw h1 (k4 e he).1) (by simp at h2;exact h2.2)
 .exact h.s e he (vw h1 (k4 e he).2)
def RJ{O:Nat}{p:PV}(h:p.refs.contains O=false):ct O p=p:=by unfold ct;rw[if_neg];rw[h];exact Bool.false_ne_true
def dR.box(h:dR Z T B l fr hp){d i st:Nat}{F:HB}(c1:T.filter (λe=>e.2.1==i)=[(d,i,.mp d 0 0)])(c2:T.all (λe=>e.2.1==i||e.1 !=d&& !(e.2.2.refs.contains d))=true)(c3:Z.all (λe=>e.1 !=d&& !(e.2.refs.contains d))=true)
  (c4:B.filter (λe=>e.2.1==i)=[(d,i,st,E,F)]) (c5:B.all (λe=>e.2.2.1 !=i&&(e.2.1==i||e.1 !=d))=true) (a9:l st=false):dR Z T B (λk=>k==i||l k) (ae (cI d fr) d (.mp d 0 0)) (Qg hp d E):=by
 have k5:∀e∈B,e.2.2.1≠i/\(e.2.1=i\/e.1≠d):=λe he=>by simpa using Kas.1 c5 e he
 refine⟨λe he=>?_,λe he hl=>?_,λe he h1 h2=>?_,λe he h1=>?_⟩
 .have k3:e.1≠d/\e.2.refs.contains d=false:=by have:=Kas.1 c3 e he;rw[Kav]at this;exact⟨by simpa using this.1,by simpa using this.2⟩
  have:ae (cI d fr) d (.mp d 0 0) e.1=ct d (fr e.1):=by simp[ae,k3.1,cI]
  rw[this,h.z e he,RJ k3.2]
 .by_cases hi:e.2.1=i
  .have:=DG c1 he (by simpa using hi);subst this;simp[ae]
  .have k2:=Kas.1 c2 e he;have Js:e.1≠d/\e.2.2.refs.contains d=false:=by
    rw[KbL]at k2;rcases k2 with k2|k2
    .exact absurd (by simpa using k2) hi
    .rw[Kav]at k2;exact⟨by simpa using k2.1,by simpa using k2.2⟩
   have:ae (cI d fr) d (.mp d 0 0) e.1=ct d (fr e.1):=by simp[ae,Js.1,cI]
   rw[this,h.t e he (vw hl hi),RJ Js.2]
 .by_cases hi:e.2.1=i
  .have:=DG c4 he (by simpa using hi);subst this;simp[Qg]
  .have hd:e.1≠d:=(k5 e he).2.resolve_left hi;have:=h.a e he (vw h1 hi) (by simp at h2;exact h2.2);simp[Qg,hd,this]
 .have jC:=vw h1 (k5 e he).1;by_cases hi:e.2.1=i
  .have:=DG c4 he (by simpa using hi);subst this;simp only at jC;rw[a9]at jC;cases jC
  .have hd:e.1≠d:=(k5 e he).2.resolve_left hi;have:=h.s e he jC;simp[Qg,hd,this]
def dR.store(h:dR Z T B l fr hp){O i al:Nat}{F:HB}(c1:T.all (λe=>e.2.1 !=i)=true)(c2:B.filter (λe=>e.2.2.1==i)=[(O,al,i,E,F)])(c3:B.all (λe=>e.2.1 !=i&&(e.2.2.1==i||e.1 !=O))=true):dR Z T B (λk=>k==i||l k) fr (Qg hp O F):=by
 have k3:∀e∈B,e.2.1≠i/\(e.2.2.1=i\/e.1≠O):=λe he=>by simpa using Kas.1 c3 e he
 refine⟨λe he=>h.z e he,λe he hl=>?_,λe he h1 h2=>?_,λe he h1=>?_⟩
 .exact h.t e he (vw hl (by simpa using Kas.1 c1 e he))
 .have hi:e.2.2.1≠i:=λhi=>by simp[hi]at h2
  have hd:e.1≠O:=(k3 e he).2.resolve_left hi;have:=h.a e he (vw h1 (k3 e he).1) (by simp at h2;exact h2.2);simp[Qg,hd,this]
 .by_cases hi:e.2.2.1=i
  .have:=DG c2 he (by simpa using hi);subst this;simp[Qg]
  .have hd:e.1≠O:=(k3 e he).2.resolve_left hi;have:=h.s e he (vw h1 hi);simp[Qg,hd,this]
def KI(Z:List (Nat×PV))(T:WT)(B:WB)(l:Nat->Bool)(i:Nat):Qf:=λfr hp=>∃aX aB,Wk fr hp aX aB/\dR Z T B (λk=>k==i||l k) aX aB
def dR.op(h:dR Z T B l fr hp){o:cZ}{d i:Nat}{v:PV}(hv:∀K,bK C o fr hp K=K (ae fr d v) hp)(c1:T.filter (λe=>e.2.1==i)=[(d,i,v)])(c2:T.all (λe=>e.2.1==i||e.1 !=d)=true)(c3:Z.all (λe=>e.1 !=d)=true)(c4:B.all (λe=>e.2.1 !=i&&e.2.2.1 !=i)=true):iy C none o fr hp (KI Z T B l i):=by show bK C o fr hp _;rw[hv];exact⟨_,_,Wk.refl _ _,h.slot c1 c2 c3 c4⟩
def dR.alloc(h:dR Z T B l fr hp){d i st n ty:Nat}{cs:List PV}{F:HB}(hz:(PV.agg cs).cells.length=n/\0<n)(c1:T.filter (λe=>e.2.1==i)=[(d,i,.mp d 0 0)])(c2:T.all (λe=>e.2.1==i||e.1 !=d&& !(e.2.2.refs.contains d))=true)(c3:Z.all (λe=>e.1 !=d&& !(e.2.refs.contains d))=true)
  (c4:B.filter (λe=>e.2.1==i)=[(d,i,st,⟨n,ty,[.agg cs],false⟩,F)]) (c5:B.all (λe=>e.2.2.1 !=i&&(e.2.1==i||e.1 !=d))=true) (a9:l st=false):iy C none (.alloc d n ty (.agg cs)) fr hp (KI Z T B l i):=by
 show fM n ty (.agg cs) d fr hp _;unfold fM;refine⟨rfl,hz.1,hz.2,_,_,Wk.refl _ _,?_⟩;rw[show(PV.agg cs).refs=[]from rfl,vd];exact h.box c1 c2 c3 c4 c5 a9
def dR.st(h:dR Z T B l fr hp){O a i al n ty:Nat}{z:PV}{cs:List PV}(hb:fr O= .mp O 0 0)(ha:fr a= .agg cs)(hn:(PV.agg cs).cells.length=n)(jU:l al=true)(h0:l i=false)(c1:T.all (λe=>e.2.1 !=i)=true)
  (c2:B.filter (λe=>e.2.2.1==i)=[(O,al,i,⟨n,ty,[z],false⟩,⟨n,ty,[.agg cs],false⟩)]) (c3:B.all (λe=>e.2.1 !=i&&(e.2.2.1==i||e.1 !=O))=true):iy C none (.st n (.t O) (.t a)) fr hp (KI Z T B l i):=by
 have he:(O,al,i,(⟨n,ty,[z],false⟩:HB),(⟨n,ty,[.agg cs],false⟩:HB))∈B:=by
  have:(O,al,i,(⟨n,ty,[z],false⟩:HB),(⟨n,ty,[.agg cs],false⟩:HB))∈B.filter (λe=>e.2.2.1==i):=by rw[c2];exact Kax.2 rfl
  exact(KcY.1 this).1
 have hh:=h.a _ he jU h0;show pV n (fr O) (fr a) fr hp _;rw[hb,ha];unfold pV;simp only[];rw[show(PV.agg cs).refs=[]from rfl,vd,hh];refine⟨rfl,rfl,hn,by simp,by simp,_,_,Wk.refl _ _,?_⟩;have:=h.store (O:=O) (i:=i) (al:=al) c1 c2 c3;simpa[Qr,cA]using this
end Go.FW
namespace Go.FW
open Go
variable {C : Ctx} {fr : Fr} {hp : HP}
variable{K:Qf}{k:IntKind}
def Ug{e d n:Nat}{xs:List PV}{p:PV}(h:xs[n]? =some p):ej e (.sl e xs) (.int k (n:Nat)) d fr hp K=K (ae fr d (.pt p.cells)) hp:=by obtain⟨hn,rfl⟩:=Kah.1 h;unfold ej;simp[hn]
def adm{d:Nat}{x:PV}:gU 1 false (.pt [x]) d fr hp K=K (ae fr d x) hp:=by have:fg false 1 0 (.agg [x])=x:=rfl;unfold gU;simp only[];rw[this];simp
def adn{d:Nat}{x y:PV}:gU 2 true (.pt [x,y]) d fr hp K=K (ae fr d (.agg [x,y])) hp:=by have:fg true 2 0 (.agg [x,y])= .agg [x,y]:=rfl;unfold gU;simp only[];rw[this];simp
variable {Z : List (Nat × PV)} {T : WT} {B : WB} {l : Nat -> Bool}
def vt{ks:List Nat}{j:Nat}(R:∀k∈ks,l k=true)(h:ks.contains j=true):l j=true:=R j (by simpa using h)
def dR.Jn(h:dR Z T B l fr hp){d e s i j n:Nat}{xs:List PV}{p:PV}{ks:List Nat}(R:∀k∈ks,l k=true)(hx:xs[n]? =some p)(hz:T.find? (λe=>e.1==s)=some (s,j,.sl e xs):=by rfl)(hj:ks.contains j=true:=by rfl)(c1:T.filter (λe=>e.2.1==i)=[(d,i,.pt p.cells)]:=by rfl)(c2:T.all (λe=>e.2.1==i||e.1 !=d)=true:=by rfl)(c3:Z.all (λe=>e.1 !=d)=true:=by rfl)(c4:B.all (λe=>e.2.1 !=i&&e.2.2.1 !=i)=true:=by rfl):iy C none (.idx d e (.t s) (.c (.int k (n:Nat)))) fr hp (KI Z T B l i):=
 h.op (λK=>by show ej e (fr s) (.int k (n:Nat)) d fr hp K=_;rw[h.at hz (vt R hj)];exact Ug hx) c1 c2 c3 c4
def dR.Jo(h:dR Z T B l fr hp){d e s s2 i j j2 n:Nat}{xs:List PV}{p:PV}{ks:List Nat}(R:∀k∈ks,l k=true)(hx:xs[n]? =some p)(hz:T.find? (λe=>e.1==s)=some (s,j,.sl e xs):=by rfl)(hj:ks.contains j=true:=by rfl)(B2:T.find? (λe=>e.1==s2)=some (s2,j2,.int k (n:Nat)):=by rfl)(tl:ks.contains j2=true:=by rfl)(c1:T.filter (λe=>e.2.1==i)=[(d,i,.pt p.cells)]:=by rfl)(c2:T.all (λe=>e.2.1==i||e.1 !=d)=true:=by rfl)(c3:Z.all (λe=>e.1 !=d)=true:=by rfl)(c4:B.all (λe=>e.2.1 !=i&&e.2.2.1 !=i)=true:=by rfl):iy C none (.idx d e (.t s) (.t s2)) fr hp (KI Z T B l i):=
 h.op (λK=>by show ej e (fr s) (fr s2) d fr hp K=_;rw[h.at hz (vt R hj),h.at B2 (vt R tl)];exact Ug hx) c1 c2 c3 c4
def dR.Jv(h:dR Z T B l fr hp){d s i j:Nat}{x:PV}{ks:List Nat}(R:∀k∈ks,l k=true)(hz:T.find? (λe=>e.1==s)=some (s,j,.pt [x]):=by rfl)(hj:ks.contains j=true:=by rfl)(c1:T.filter (λe=>e.2.1==i)=[(d,i,x)]:=by rfl)(c2:T.all (λe=>e.2.1==i||e.1 !=d)=true:=by rfl)(c3:Z.all (λe=>e.1 !=d)=true:=by rfl)(c4:B.all (λe=>e.2.1 !=i&&e.2.2.1 !=i)=true:=by rfl):iy C none (.ld d 1 false (.t s)) fr hp (KI Z T B l i):=
 h.op (λK=>by show gU 1 false (fr s) d fr hp K=_;rw[h.at hz (vt R hj)];exact adm) c1 c2 c3 c4
def dR.Jw(h:dR Z T B l fr hp){d s i j:Nat}{x y:PV}{ks:List Nat}(R:∀k∈ks,l k=true)(hz:T.find? (λe=>e.1==s)=some (s,j,.pt [x,y]):=by rfl)(hj:ks.contains j=true:=by rfl)(c1:T.filter (λe=>e.2.1==i)=[(d,i,.agg [x,y])]:=by rfl)(c2:T.all (λe=>e.2.1==i||e.1 !=d)=true:=by rfl)(c3:Z.all (λe=>e.1 !=d)=true:=by rfl)(c4:B.all (λe=>e.2.1 !=i&&e.2.2.1 !=i)=true:=by rfl):iy C none (.ld d 2 true (.t s)) fr hp (KI Z T B l i):=
 h.op (λK=>by show gU 2 true (fr s) d fr hp K=_;rw[h.at hz (vt R hj)];exact adn) c1 c2 c3 c4
def aeR{A:List (List Nat)}{s i:Nat}(D:∀j,l j=true->∀k∈A.getD j [],l k=true)(h0:l i=false)(h:(A.getD s []).contains i=true):l s=false:=by
 cases e:l s with
 |false=>rfl
 |true=>rw[D s e i (by simpa using h)]at h0;cases h0
def dR.al(h:dR Z T B l fr hp){d i st n ty:Nat}{cs:List PV}{F:HB}{A:List (List Nat)}(D:∀j,l j=true->∀k∈A.getD j [],l k=true)(h0:l i=false)(c4:B.filter (λe=>e.2.1==i)=[(d,i,st,⟨n,ty,[.agg cs],false⟩,F)]:=by rfl)(hA:(A.getD st []).contains i=true:=by rfl)(hz:(PV.agg cs).cells.length=n:=by rfl)(hn:Nat.ble 1 n=true:=by rfl)(c1:T.filter (λe=>e.2.1==i)=[(d,i,.mp d 0 0)]:=by rfl)(c2:T.all (λe=>e.2.1==i||e.1 !=d&& !(e.2.2.refs.contains d))=true:=by rfl)(c3:Z.all (λe=>e.1 !=d&& !(e.2.refs.contains d))=true:=by rfl)
  (c5:B.all (λe=>e.2.2.1 !=i&&(e.2.1==i||e.1 !=d))=true:=by rfl):iy C none (.alloc d n ty (.agg cs)) fr hp (KI Z T B l i):=h.alloc ⟨hz,Ka7 hn⟩ c1 c2 c3 c4 c5 (aeR D h0 hA)
def dR.JP(h:dR Z T B l fr hp){O a i al j n ty:Nat}{z:PV}{cs:List PV}{ks:List Nat}(R:∀k∈ks,l k=true)(h0:l i=false)(hb:T.find? (λe=>e.1==O)=some (O,al,.mp O 0 0):=by rfl)(hj:ks.contains al=true:=by rfl)(ha:T.find? (λe=>e.1==a)=some (a,j,.agg cs):=by rfl)(tl:ks.contains j=true:=by rfl)(c2:B.filter (λe=>e.2.2.1==i)=[(O,al,i,⟨n,ty,[z],false⟩,⟨n,ty,[.agg cs],false⟩)]:=by rfl)(hn:(PV.agg cs).cells.length=n:=by rfl)(c1:T.all (λe=>e.2.1 !=i)=true:=by rfl)
  (c3:B.all (λe=>e.2.1 !=i&&(e.2.2.1==i||e.1 !=O))=true:=by rfl):iy C none (.st n (.t O) (.t a)) fr hp (KI Z T B l i):=h.st (h.at hb (vt R hj)) (h.at ha (vt R tl)) hn (vt R hj) h0 c1 c2 c3
end Go.FW
namespace Go.FW
open Go
variable {C : Ctx} {fr : Fr} {hp : HP} {K R : Qf}
variable {Z : List (Nat × PV)} {T : WT} {B : WB} {l : Nat -> Bool}
def RK{sk:List It}{r:RT}(s:Nat){O e ty:Nat}{x:PV}{z:Bool}(h:fr s= .mp O 0 0)(hb:hp O=some ⟨e,ty,[x],z⟩)(hy:aP O=false)(hv:vc C R (.o r::sk) (ae fr s (.pt x.cells)) (FW.Qu hp [O])):vc C R (.o (.wk r)::sk) fr hp:=by
 have es:Qr hp (fr s)= .pt x.cells:=by rw[h];exact AP hb hy
 have h2:=vm (fr:=fr) (hp:=hp) s (by rw[es];rfl);rw[es,h]at h2;exact bV h2 hv
def aog{off d:Nat}{cs:List PV}(h:Nat.ble off cs.length=true):qp off (.pt cs) d fr hp K=K (ae fr d (.pt (cs.drop off))) hp:=by have:=Ka7 h;simp[qp,this]
def ado{d:Nat}{x:PV}{cs:List PV}:gU 1 false (.pt (x::cs)) d fr hp K=K (ae fr d x) hp:=by have:fg false 1 0 (.agg (x::cs))=x:=rfl;unfold gU;simp only[];rw[this];simp
def dR.xC(h:dR Z T B l fr hp){d s i off:Nat}{cs:List PV}(hz:Z.find? (λe=>e.1==s)=some (s,.pt cs):=by rfl)(ho:Nat.ble off cs.length=true:=by rfl)(c1:T.filter (λe=>e.2.1==i)=[(d,i,.pt (cs.drop off))]:=by rfl)(c2:T.all (λe=>e.2.1==i||e.1 !=d)=true:=by rfl)(c3:Z.all (λe=>e.1 !=d)=true:=by rfl)(c4:B.all (λe=>e.2.1 !=i&&e.2.2.1 !=i)=true:=by rfl):iy C none (.dI d off (.t s)) fr hp (KI Z T B l i):=
 h.op (λK=>by show qp off (fr s) d fr hp K=_;rw[h.zf hz];exact aog ho) c1 c2 c3 c4
def dR.yc(h:dR Z T B l fr hp){d s i j:Nat}{x:PV}{cs:List PV}{ks:List Nat}(R:∀k∈ks,l k=true)(hz:T.find? (λe=>e.1==s)=some (s,j,.pt (x::cs)):=by rfl)(hj:ks.contains j=true:=by rfl)(c1:T.filter (λe=>e.2.1==i)=[(d,i,x)]:=by rfl)(c2:T.all (λe=>e.2.1==i||e.1 !=d)=true:=by rfl)(c3:Z.all (λe=>e.1 !=d)=true:=by rfl)(c4:B.all (λe=>e.2.1 !=i&&e.2.2.1 !=i)=true:=by rfl):iy C none (.ld d 1 false (.t s)) fr hp (KI Z T B l i):=
 h.op (λK=>by show gU 1 false (fr s) d fr hp K=_;rw[h.at hz (vt R hj)];exact ado) c1 c2 c3 c4
def vX:List (Nat×PV)->Fr
 | []=>kJ []
 |e::L=>ae (vX L) e.1 e.2
def Uh:∀(L:List (Nat×PV))(s:Nat),vX L s= .undef\/∃e∈L,s=e.1/\vX L s=e.2
 | [],s=>.inl (by simp[vX,kJ])
 | e::L,s=>by
  by_cases hb:s=e.1
  .exact .inr ⟨e,Kcm,hb,by subst hb;exact if_pos rfl⟩
  .have hs:vX (e::L) s=vX L s:=if_neg hb;rw[hs];rcases Uh L s with k|⟨x,hx,k1,k2⟩
   .exact .inl k
   .exact .inr ⟨x,Kbx _ hx,k1,k2⟩
def dR.XJ(h:dR Z T B l fr hp){b0 b1 e0 e1 t0 t1:Nat}{x0 x1:PV}{z0 z1:Bool}(f0:fr b0= .mp b0 0 0)(f1:fr b1= .mp b1 0 0)(h0:hp b0=some ⟨e0,t0,[x0],z0⟩)(h1:hp b1=some ⟨e1,t1,[x1],z1⟩)(aS:b0≠b1)(y0:aP b0=false)(y1:aP b1=false)
  (hZ:∀e∈Z,eE e.2=true) (hZb:∀e∈Z,e.1≠b0/\e.1≠b1):Wk fr hp (vX ((b0,.pt x0.cells)::(b1,.pt x1.cells)::Z)) aB:=by
 have s0:Qr hp (fr b0)= .pt x0.cells:=by rw[f0];exact AP h0 y0
 have w0:=vm (fr:=fr) (hp:=hp) b0 (by rw[s0];rfl);rw[s0,f0,show(PV.mp b0 0 0).refs=[b0]from rfl]at w0;have f1':ae fr b0 (.pt x0.cells) b1= .mp b1 0 0:=by simp[ae,Ne.symm aS,f1]
 have jC:FW.Qu hp [b0] b1=some ⟨e1,t1,[x1],z1⟩:=by simp[FW.Qu,Ne.symm aS,h1]
 have s1:Qr (FW.Qu hp [b0]) (ae fr b0 (.pt x0.cells) b1)= .pt x1.cells:=by rw[f1'];exact AP jC y1
 have w1:=vm (fr:=ae fr b0 (.pt x0.cells)) (hp:=FW.Qu hp [b0]) b1 (by rw[s1];rfl);rw[s1]at w1;refine(w0.trans w1).trans (aof (λO=>.inr rfl) λs=>?_);rcases Uh ((b0,.pt x0.cells)::(b1,.pt x1.cells)::Z) s with k|⟨e,he,rfl,k⟩
 .exact .inl k
 .right;have hn:eE e.2=true:=by
   rcases KaA.1 he with rfl|he
   .rfl
   .rcases KaA.1 he with rfl|he
    .rfl
    .exact hZ e he
  have hv:ae (ae fr b0 (.pt x0.cells)) b1 (.pt x1.cells) e.1=e.2:=by
   rcases KaA.1 he with rfl|he
   .simp[ae,aS]
   .rcases KaA.1 he with rfl|he
    .simp[ae]
    .obtain⟨n0,n1⟩:=hZb e he;simp[ae,n0,n1,h.z e he]
  obtain⟨r1,r2,r3⟩:=AA hn;rw[hv,k,r3,r1,r2];exact⟨rfl,λO ao=>by cases ao⟩
end Go.FW
