/- Part 9 of the proof of DiscoverHolds: J1, FwNK. Own lemmas; no conditions. -/
import Derived.Test.YtmkijkjaeljieaaGreatDiscoverHoldsPart8
set_option maxHeartbeats 1000000
set_option linter.unusedSimpArgs false
set_option linter.unusedVariables false
set_option linter.unnecessarySimpa false
set_option maxRecDepth 100000
namespace Go.Proofs.YtmkijkjaeljieaaGreat
open Go Go.FW
structure HQ(p:List Tm):Prop where
 q:PQ 24576 1000000 24 p
 z:SZ 27136 27136 27136 p
theorem aa9{a:Rat}(h:rs a+1<=4):SZ 5 7 0 (dz a):=(SZ.of (PQ.const h).b (PQ.const h).l).mono Oz Oz Oz
theorem awR{v:Nat}:SZ 5 7 1 (cq v):=(SZ.of (PQ.var (v:=v)).b (PQ.var (v:=v)).l).mono Oz Oz Oz
theorem apz{a b E:Nat}{p:List Tm}(h:SZ a b E p)(hn:bN p):SZ (a+5) (b+7) E (wP p):=by have e:wP p=cB (dz (-1)) p:=(Vn hn (-1)).symm;rw[e];have:=(aa9 (a:= -1) (by have:=Iy;omega)).B2 h;exact this.mono Oz Oz Oz
theorem apA{a b E a' b' E':Nat}{p q:List Tm}(hp:SZ a b E p)(hq:SZ a' b' E' q)(hn:bN q):SZ (a+a'+5) (max b (b'+7)+1) (max E E') (bF p q):=by have:=(hp.mono (Kae _) (Kae _) (show E<=max E E' by omega)).zM ((apz hq hn).mono (Kae _) (Kae _) (show E'<=max E E' by omega));exact this.mono Oz (Kae _) (Kae _)
theorem apB{a b E a' b' E':Nat}{p q:List Tm}(hp:SZ a b E p)(hq:SZ a' b' E' q):SZ (a+a') (max b b'+1) (max E E') (Qu p q):=
 (hp.mono (Kae _) (Kae _) (show E<=max E E' by omega)).zM (hq.mono (Kae _) (Kae _) (show E'<=max E E' by omega))
structure QZ(T K E a b:Nat)(p:List Tm):Prop where
 q:PQ T K E p
 z:SZ a b E p
theorem QZ.mono{T K E a b T' K' E' a' b':Nat}{p:List Tm}(h:QZ T K E a b p)(h1:T<=T')(h2:K<=K')(h3:E<=E')(h4:a<=a')(h5:b<=b'):QZ T' K' E' a' b' p:=⟨h.q.mono h1 h2 h3,h.z.mono h4 h5 h3⟩
theorem QZ.sub{T K E a b S L F c d:Nat}{p q:List Tm}(hp:QZ T K E a b p)(hq:QZ S L F c d q):QZ (T+S) (K+(L+2)) (max E F) (a+c+5) (max b (d+7)+1) (bF p q):=
 ⟨(hp.q.mono (Kae _) (Kae _) (show E<=max E F by omega)).sub (hq.q.mono (Kae _) (Kae _) (show F<=max E F by omega)),apA hp.z hq.z hq.q.n⟩
theorem QZ.add{T K E a b S L F c d:Nat}{p q:List Tm}(hp:QZ T K E a b p)(hq:QZ S L F c d q):QZ (T+S) (K+L) (max E F) (a+c) (max b d+1) (Qu p q):=
 ⟨(hp.q.mono (Kae _) (Kae _) (show E<=max E F by omega)).add (hq.q.mono (Kae _) (Kae _) (show F<=max E F by omega)),apB hp.z hq.z⟩
theorem QZ.mul{T K E a b S L F c d:Nat}{p q:List Tm}(hp:QZ T K E a b p)(hq:QZ S L F c d q):QZ (T*S) (min T S*(K+L)) (E+F) (a+c) (b+d) (cB p q):=⟨hp.q.mul hq.q,hp.z.B2 hq.z⟩
theorem QZ.nil{T K E a b:Nat}:QZ T K E (a+1) (b+2) []:=⟨.nil,by have:=SZ.of (L:=0) (PB.nil 0 E) (Kae 0);exact this.mono Oz Oz Oz⟩
theorem QZ.var{v:Nat}:QZ 1 4 1 5 7 (cq v):=⟨.var,awR⟩
theorem QZ.one:QZ 1 4 0 5 7 (dz 1):=⟨.const (by have:=vh;omega),aa9 (by have:=vh;omega)⟩
structure CW(c:Cd):Prop where
 x:QZ 8 120 8 961 130 c.1
 y:QZ 8 120 8 961 130 c.2
theorem QZ.of{T K E:Nat}{p:List Tm}(h:PQ T K E p)(h1:T<=8)(h2:K<=120)(h3:E<=8):QZ 8 120 8 961 130 p:=by have h':=h.mono (T':=8) (K':=120) (E':=8) h1 h2 h3;exact⟨h',(SZ.of h'.b h'.l).mono Oz Oz Oz⟩
theorem apC{w:Nat}{c:Cd}(h:WQ w c)(hw:w<=8):CW c:=⟨.of h.x Oz Oz Oz,.of h.y Oz Oz Oz⟩
theorem CW.nil:CW ([],[]):=⟨QZ.nil.mono (Ka6 _) (Ka6 _) (Ka6 _) (show 0+1<=_ by omega) (show 0+2<=_ by omega),QZ.nil.mono (Ka6 _) (Ka6 _) (Ka6 _) (show 0+1<=_ by omega) (show 0+2<=_ by omega)⟩
theorem CW.cb{c:Cd}(h:CW c):CB c:=⟨h.x.q.mono Oz Oz Oz,h.y.q.mono Oz Oz Oz⟩
abbrev Q1(p:List Tm):Prop:=QZ 16 242 8 1927 138 p
abbrev Q2(p:List Tm):Prop:=QZ 512 15490 16 7713 284 p
theorem Q1.of{p q:List Tm}(hp:QZ 8 120 8 961 130 p)(hq:QZ 8 120 8 961 130 q):Q1 (bF p q):=(hp.sub hq).mono Oz Oz Oz Oz Oz
theorem te{a b c d:Cd}(ha:CW a)(hb:CW b)(hc:CW c)(hd:CW d):Q2 (lS a b c d):=
 (((Q1.of hb.x ha.x).mul (Q1.of hd.y hc.y)).sub ((Q1.of hb.y ha.y).mul (Q1.of hd.x hc.x))).mono Oz Oz Oz Oz Oz
theorem eP{a b c d:Cd}(ha:CW a)(hb:CW b)(hc:CW c)(hd:CW d):Q2 (eD a b c d):=
 (((Q1.of hb.x ha.x).mul (Q1.of hd.x hc.x)).add ((Q1.of hb.y ha.y).mul (Q1.of hd.y hc.y))).mono Oz Oz Oz Oz Oz
def Bc(p:List Tm):List Tm:=Qu p p
def yn(t:List Tm):List Tm:=Qu (dz 1) (cB t t)
def Gb(t:List Tm)(o a:Cd):List Tm:=Bc (Qu (bF o.1 a.1) (cB t (bF o.2 a.2)))
def Ga(t:List Tm)(o a p:Cd):List (List Tm):=[bF (cB (yn t) (bF p.1 a.1)) (Gb t o a),bF (cB (yn t) (bF p.2 a.2)) (cB t (Gb t o a))]
def Ch(p q o x:Cd):List (List Tm):=[bF (cB (eD p q p q) (bF x.1 p.1)) (cB (Bc (eD p o p q)) (bF q.1 p.1)),bF (cB (eD p q p q) (bF x.2 p.2)) (cB (Bc (eD p o p q)) (bF q.2 p.2))]
def r9(k:Int)(t:List Tm)(a b c d x:Cd):List (List Tm):=
 if k=6 then Ga t a b x else if k=7 then [lS b c b x,eD b c a x]else if k=8 then [eD b c a x,Qu (lS b c b a) (lS b c b x)]
 else if k=9 then [lS a b a x,lS c d c x]else if k=10 then Ch a b c x
 else if k=11 then [bF (eD a x a x) (eD b x b x),bF (eD a x a x) (eD c x c x)]
 else if k=12 then [lS a b a x,bF (eD c x c x) (eD c d c d)]
 else if k=13 then [bF (eD a x a x) (eD a b a b),bF (eD c x c x) (eD c d c d)]
 else if k=14 then [bF (eD a x a x) (eD a b a b),bF (eD b x b x) (eD a b a b)]else []
theorem HQ.of{T K E a b:Nat}{p:List Tm}(h:QZ T K E a b p)(h1:T<=24576)(h2:K<=1000000)(h3:E<=24)(h4:a<=27136)(h5:b<=27136):HQ p:=⟨h.q.mono h1 h2 h3,h.z.mono h4 h5 Oz⟩
theorem Q2.h{p:List Tm}(h:Q2 p):HQ p:=.of h Oz Oz Oz Oz Oz
theorem Q2.sub{p q:List Tm}(h:Q2 p)(g:Q2 q):HQ (bF p q):=.of (QZ.sub h g) Oz Oz Oz Oz Oz
theorem Q2.add{p q:List Tm}(h:Q2 p)(g:Q2 q):QZ 1024 30980 16 15426 285 (Qu p q):=(QZ.add h g).mono Oz Oz Oz Oz Oz
abbrev QS(t:List Tm):Prop:=QZ 1 4 1 5 7 t
theorem H5{t:List Tm}(h:QS t):QZ 2 12 2 15 15 (yn t):=(QZ.one.add (h.mul h)).mono Oz Oz Oz Oz Oz
theorem Ts{t:List Tm}{o a:Cd}(h:QS t)(ho:CW o)(ha:CW a):QZ 64 976 9 7722 149 (Gb t o a):=by have h1:=(Q1.of ho.x ha.x).add (h.mul (Q1.of ho.y ha.y));exact(h1.add h1).mono Oz Oz Oz Oz Oz
theorem two{P:List Tm->Prop}{x y:List Tm}(hx:P x)(hy:P y):∀q∈[x,y],P q:=fun q hm=>by
 rcases KaH.1 hm with rfl|hm
 ·exact hx
 ·rw[Kay.1 hm];exact hy
theorem apD{t:List Tm}{o a p:Cd}(h:QS t)(ho:CW o)(ha:CW a)(hp:CW p):∀q∈Ga t o a p,HQ q:=by have hs:=Ts h ho ha;exact two (.of (((H5 h).mul (Q1.of hp.x ha.x)).sub hs) Oz Oz Oz Oz Oz) (.of (((H5 h).mul (Q1.of hp.y ha.y)).sub (h.mul hs)) Oz Oz Oz Oz Oz)
theorem apE{p q o x:Cd}(hp:CW p)(hq:CW q)(ho:CW o)(hx:CW x):∀r∈Ch p q o x,HQ r:=by have n:=eP hp hq hp hq;have d:=eP hp ho hp hq;have s:QZ 1024 30980 16 15426 285 (Bc (eD p o p q)):=d.add d;exact two (.of ((n.mul (Q1.of hx.x hp.x)).sub (s.mul (Q1.of hq.x hp.x))) Oz Oz Oz Oz Oz) (.of ((n.mul (Q1.of hx.y hp.y)).sub (s.mul (Q1.of hq.y hp.y))) Oz Oz Oz Oz Oz)
theorem atV{k:Int}{t:List Tm}{a b c d x:Cd}(ht:QS t)(ha:CW a)(hb:CW b)(hc:CW c)(hd:CW d)(hx:CW x):∀q∈r9 k t a b c d x,HQ q:=by
 unfold r9
 repeat' split
 ·exact apD ht ha hb hx
 ·exact two (te hb hc hb hx).h (eP hb hc ha hx).h
 ·exact two (eP hb hc ha hx).h (.of ((te hb hc hb ha).add (te hb hc hb hx)) Oz Oz Oz Oz Oz)
 ·exact two (te ha hb ha hx).h (te hc hd hc hx).h
 ·exact apE ha hb hc hx
 ·exact two ((eP ha hx ha hx).sub (eP hb hx hb hx)) ((eP ha hx ha hx).sub (eP hc hx hc hx))
 ·exact two (te ha hb ha hx).h ((eP hc hx hc hx).sub (eP hc hd hc hd))
 ·exact two ((eP ha hx ha hx).sub (eP ha hb ha hb)) ((eP hc hx hc hx).sub (eP hc hd hc hd))
 ·exact two ((eP ha hx ha hx).sub (eP ha hb ha hb)) ((eP hb hx hb hx).sub (eP ha hb ha hb))
 ·exact fun q h=>(by cases h)
end Go.Proofs.YtmkijkjaeljieaaGreat
namespace Go.FW
open Go
section
variable {C : Ctx} {fr : Fr} {hp : HP} {w : World} {a : Act} {R : Qg}
def re:List Bool->Nat
 | []=>0
 |true::l=>re l
 |false::l=>re l+1
theorem RC:∀ {l:List Bool} {i:Nat},l[i]? =some false->re (l.set i true)+1=re l
 | [],i,h=>by simp at h
 |b::l,0,h=>by simp at h;subst h;simp[re]
 |b::l,i+1,h=>by simp at h;have:=RC h;cases b<;>simp[re]<;>omega
theorem RD:∀(n:Nat),re (List.replicate n false)=n
 |0=>rfl
 |n+1=>by simp[KbN,re,RD n]
theorem P8:∀ {l:List Bool} {i:Nat},re l=0->l[i]? ≠some false
 | [],i,_=>by simp
 |true::l,0,_=>by simp
 |true::l,i+1,h=>by simpa using P8 (l:=l) (i:=i) (by simpa[re]using h)
 |false::l,_,h=>by simp[re]at h
theorem UA{md:Region.Mode}{ops:Array Oper}{l:Array Bool}{i:Nat}(h:i∈Region.ready .any ops l):l.toList[i]? =some false:=by
 obtain⟨h1,_⟩:=mem_ready.1 h;rcases Kb1 i l.size with h'|h'
 ·simp[h']at h1 ⊢;exact h1
 ·simp[Kbl h']at h1
def mi(l:Array Bool):Nat->Bool:=fun i=>l.getD i false
theorem alg{l:Array Bool}{i:Nat}(h:l.getD i true=false):mi (l.setIfInBounds i true)=fun k=>k==i||mi l k:=by
 funext k;unfold mi;have hi:i<l.size:=by
  rcases Kb1 i l.size with h'|h'
  ·exact h'
  ·simp[Kbl h']at h
 by_cases hk:i=k
 ·subst hk;simp[hi]
 ·rw[getD_set_ne false hk];simp[Ne.symm hk]
theorem afg(n:Nat):mi (Array.replicate n false)=fun _=>false:=by funext k;unfold mi;simp[Array.getD]
theorem alh{sk:List It}{ops:Array Oper}{Q:Exit->Act->World->Prop}(I:(Nat->Bool)->Qg)
  (iM:∀l i,nu ops l->i∈Region.ready .any ops l->∃o g,ops[i]? =some o/\lQ C.P C.N true ops o=some g/\∀fr hp,I (mi l) fr hp->fl C g.g g.o fr hp (fun fr hp=>∃aO aA,Wk fr hp aO aA/\I (fun k=>k==i||mi l k) aO aA))
  (mO:∀l fr hp,Region.ready .any ops l=[]->l.size=ops.size->I (mi l) fr hp->∃aO aA,Wk fr hp aO aA/\vc C R sk aO aA)
  (hQ:∀aC hp' xN w',eE C aC hp' xN w'->vc C R sk aC hp'->Q .normal { tmps:=xN,defers:=[] } w'):
  ∀(n:Nat)(l:Array Bool)(fr:Fr)(hp:HP)(a:Act)(w:World),re l.toList=n->l.size=ops.size->nu ops l->a.defers=[]->eE C fr hp a.tmps w->I (mi l) fr hp->wpAny C.P .any ops (NoPanic Q) n l a w:=by
 intro n;have fin:∀(l:Array Bool)(fr:Fr)(hp:HP)(a:Act)(w:World),Region.ready .any ops l=[]->l.size=ops.size->a.defers=[]->eE C fr hp a.tmps w->I (mi l) fr hp->NoPanic Q .normal a w:=by intro l fr hp a w hr hz hd hs hI;obtain⟨tmps,defers⟩:=a;simp only at hd hs;subst hd;obtain⟨aO,aA,hw,hv⟩:=mO l fr hp hr hz hI;exact hQ aO aA tmps w (hw _ _ _ hs) hv
 induction n with
 | zero=>
  intro l fr hp a w hn hz Nv hd hs hI;have hr:Region.ready .any ops l=[]:=by
   cases h:Region.ready .any ops l with
   |nil=>rfl
   |cons i is=>exact absurd (UA (md:=.any) (by rw[h];exact Kbt)) (P8 hn)
  exact⟨hr,fin l fr hp a w hr hz hd hs hI⟩
 |succ n ih=>intro l fr hp a w hn hz Nv hd hs hI;refine⟨fun hr=>fin l fr hp a w hr hz hd hs hI,fun i hi=>?_⟩;obtain⟨o,g,ho,hg,hv⟩:=iM l i Nv hi;obtain⟨ρ,kU⟩:=hs;refine wpOp_mono (fun a' w' hA=>?_) (K4 ho hd kU hg (hv fr hp hI));obtain⟨nN,⟨aC,hp',fg,aO,aA,hw,vN⟩,_⟩:=hA;have:=RC (UA (md:=.any) hi);exact ih _ aO aA a' w' (by rw[Array.toList_setIfInBounds];omega) (by simpa using hz) (Nv.step hi) nN (hw _ _ _ fg) (by rw[alg (mem_ready.1 hi).1];exact vN)
theorem Kn{id:Nat}{sk:List It}{ops:Array Oper}(gs:List n5)(af:List (List Nat))(hm:C.P.follows .mixedOrders=true)
  (hg:ops.toList.map (lQ C.P C.N true ops)=gs.map some) (ha:ops.toList.map (fun o=>(o.after.toList.filter (Region.binds .any)).map (·.on))=af)
  (ao:∀i,i<af.length->∀k∈af.getD i [],k<i) (I:(Nat->Bool)->Qg) (h0:I (fun _=>false) fr hp)
  (iM:∀l i g,gs[i]? =some g->l i=false->(∀k∈af.getD i [],l k=true)->(∀j,l j=true->∀k∈af.getD j [],l k=true)->
   ∀fr hp,I l fr hp->fl C g.g g.o fr hp (fun fr hp=>∃aO aA,Wk fr hp aO aA/\I (fun k=>k==i||l k) aO aA))
  (mO:∀l fr hp,(∀i,i<gs.length->l i=true)->I l fr hp->∃aO aA,Wk fr hp aO aA/\vc C R sk aO aA):vc C R (.c (.raw id ops)::sk) fr hp:=by
 have ato:∀(i:Nat)(o:Oper),ops[i]? =some o->∃g,gs[i]? =some g/\lQ C.P C.N true ops o=some g:=by
  intro i o ho;have h1:(ops.toList.map (lQ C.P C.N true ops))[i]? =some (lQ C.P C.N true ops o):=by simp[ho]
  rw[hg,Kao]at h1;cases h2:gs[i]? with
  |none=>simp[h2]at h1
  |some g=>rw[h2]at h1;exact⟨g,rfl,(KcF h1).symm⟩
 have Mv:∀(i:Nat)(o:Oper),ops[i]? =some o->af.getD i []=(o.after.toList.filter (Region.binds .any)).map (·.on):=by intro i o ho;rw[<-ha];simp[ho]
 have opAt:∀i,i<gs.length->∃o,ops[i]? =some o:=by intro i hi;have h1:=congrArg List.length hg;simp only[KaJ,Kcm]at h1;exact⟨ops[i]'(by omega),by simp⟩
 have down:∀l,nu ops l->∀j,mi l j=true->∀k∈af.getD j [],mi l k=true:=by
  intro l hd j hj k hk;rcases Kb1 j ops.size with h'|h'
  ·have ho:ops[j]? =some ops[j]:=by simp[h']
   rw[Mv j _ ho]at hk;obtain⟨e,he,rfl⟩:=KaA.1 hk;obtain⟨he,hb⟩:=Kcu.1 he;exact hd j _ ho hj e (by simpa using he) hb
  ·have:af.getD j []=[]:=by rw[<-ha];simp[Kbl h']
   rw[this]at hk;cases hk
 rw[vc];intro tmps w Q hs hQ;refine wp_region_noPanic (wp_region_any hm (alh I ?_ ?_ hQ _ _ fr hp _ _ ?_ (by simp) (nu.start ops) rfl hs.drew (by rw[afg];exact h0)))
 ·intro l i hd hi;obtain⟨h1,o,ho,h2⟩:=mem_ready.1 hi;obtain⟨g,hgi,aa⟩:=ato i o ho;refine⟨o,g,ho,aa,iM (mi l) i g hgi ?_ ?_ (down l hd)⟩
  ·cases h:mi l i with
   |false=>rfl
   |true=>exact absurd h (VS h1)
  ·intro k hk;rw[Mv i o ho]at hk;obtain⟨e,he,rfl⟩:=KaA.1 hk;obtain⟨he,hb⟩:=Kcu.1 he;exact h2 e (by simpa using he) hb
 ·intro l fr hp hr hz hI;refine mO (mi l) fr hp ?_ hI;intro i;induction i using Nat.strongRecOn with
  | ind i ih=>
   intro hi;cases h:mi l i with
   |true=>rfl
   | false=>
    exfalso;obtain⟨o,ho⟩:=opAt i hi;have fh:i<ops.size:=(Kan.1 ho).1;have:i∈Region.ready .any ops l:=by
     refine mem_ready.2 ⟨?_,o,ho,?_⟩
     ·unfold mi at h;have fp:i<l.size:=by omega
      simp[fp]at h⊢;exact h
     ·intro e he hb;have hk:e.on∈af.getD i []:=by rw[Mv i o ho];exact KaA.2 ⟨e,Kcu.2 ⟨by simpa using he,hb⟩,rfl⟩
      have fp:i<af.length:=by rw[<-ha];simpa using fh
      have vF:=ao i fp _ hk;exact ih e.on vF (by omega)
    rw[hr]at this;cases this
 ·rw[Array.toList_replicate,RD]
end
theorem OX{C:Ctx}{R:Qg}{sk:List It}{fr nF:Fr}{hp cK:HP}(h:Wk fr hp nF cK)(k:∃aO aA,Wk nF cK aO aA/\vc C R sk aO aA):∃aO aA,Wk fr hp aO aA/\vc C R sk aO aA:=
 k.elim fun a k=>k.elim fun b k=>⟨a,b,h.trans k.1,k.2⟩
theorem Mq{C:Ctx}{R:Qg}{sk:List It}{fr:Fr}{hp:HP}(h:vc C R sk fr hp):∃aO aA,Wk fr hp aO aA/\vc C R sk aO aA:=⟨_,_,Wk.refl _ _,h⟩
theorem RE{fr aC:Fr}{hp hp':HP}(hh:∀O,hp' O=hp O∨hp' O=none)(hf:∀s,aC s= .undef∨(aC s=dh id (fr s)/\∀O∈(fr s).refs++(fr s).aV,hp' O=hp O)):Wk fr hp aC hp':=by
 rintro C tmps w ⟨ρ,hs⟩;have hk:∀O hb,hp' O=some hb->hp O=some hb:=fun O hb h=>by
  rcases hh O with e|e
  ·rw[<-e];exact h
  ·rw[e]at h;cases h
 have hX:∀b,aI C ρ hp' b->aI C ρ hp b:=by
  rintro b (hx|⟨γ,hg,g1,g2,g3⟩)
  ·exact .inl hx
  ·exact .inr ⟨γ,hg,hk _ _ g1,g2,g3⟩
 refine⟨ρ,hs.sz,hs.ext,hs.fI,fun γ hb ah=>?_,fun γ δ b g1 g2 g3 g4=>?_,fun i=>?_⟩
 ·obtain⟨q1,q2,q3,q4,q5⟩:=hs.own γ hb (hk _ _ ah);refine⟨q1,q2,?_,q4,q5⟩;cases hq:ρ γ with
  |none=>rw[hq]at q3;exact q3
  |some b=>rw[hq]at q3;exact⟨q3.1,q3.2.1,q3.2.2.move rfl rfl rfl rfl fun q u hq=>Qn.sub hq hX⟩
 ·obtain⟨x1,k1⟩:=Kbx.1 g1;obtain⟨x2,k2⟩:=Kbx.1 g2;exact hs.inj γ δ b (by rw[hk _ _ k1];simp) (by rw[hk _ _ k2];simp) g3 g4
 ·rcases hf i with e|⟨e,hr⟩
  ·rw[e];trivial
  ·rw[e];exact(hs.dm i).gO hX fun O aj=>⟨rfl,(fun hb hq=>⟨hb,by show hp' O=_;rw[hr O aj];exact hq,rfl,rfl,rfl⟩),id⟩
def yg(id:Nat):Code->Option (Array Oper)
 |.region i ops _=>if i=id then some ops else none
 |.seq a b=>(yg id a).or (yg id b)
 |.cond _ a b=>(yg id a).or (yg id b)
 |.block _ a=>yg id a
 |.loop a=>yg id a
 |_=>none
def KC(f:Func)(id:Nat):Array Oper:=((f.body.bind (yg id)).getD #[])
end Go.FW
