/- Part 12 of the proof of CertcheckChecks: J1, FwNK. Own lemmas; no conditions. -/
import Derived.Test.YtccppnepkfbpkaaGreatCertcheckChecksPart11
set_option maxHeartbeats 1000000
set_option linter.unusedSimpArgs false
set_option linter.unusedVariables false
set_option linter.unnecessarySimpa false
set_option maxRecDepth 100000
namespace Go.Proofs.YtccppnepkfbpkaaGreat
open Go Go.FW
structure HQ(p:List Tm):Prop where
 q:PQ 24576 1000000 24 p
 z:SZ 27136 27136 27136 p
theorem TO{a:Rat}(h:rs a+1<=4):SZ 5 7 0 (cD a):=(SZ.of (PQ.const h).b (PQ.const h).l).mono (by omega) (by omega) (by omega)
theorem apz{v:Nat}:SZ 5 7 1 (Qx v):=(SZ.of (PQ.var (v:=v)).b (PQ.var (v:=v)).l).mono (by omega) (by omega) (by omega)
theorem aiT{a b E:Nat}{p:List Tm}(h:SZ a b E p)(hn:bf p):SZ (a+5) (b+7) E (tS p):=by have e:tS p=Q8 (cD (-1)) p:=(CT hn (-1)).symm;rw[e];have:=(TO (a:= -1) (by have:=BU;omega)).tp h;exact this.mono (by omega) (by omega) (by omega)
theorem Nm{a b E a' b' E':Nat}{p q:List Tm}(hp:SZ a b E p)(hq:SZ a' b' E' q)(hn:bf q):SZ (a+a'+5) (max b (b'+7)+1) (max E E') (bK p q):=by have:=(hp.mono (Kae _) (Kae _) (show E<=max E E' by omega)).uR ((aiT hq hn).mono (Kae _) (Kae _) (show E'<=max E E' by omega));exact this.mono (by omega) (Kae _) (Kae _)
theorem aiU{a b E a' b' E':Nat}{p q:List Tm}(hp:SZ a b E p)(hq:SZ a' b' E' q):SZ (a+a') (max b b'+1) (max E E') (Qq p q):=
 (hp.mono (Kae _) (Kae _) (show E<=max E E' by omega)).uR (hq.mono (Kae _) (Kae _) (show E'<=max E E' by omega))
structure QZ(T K E a b:Nat)(p:List Tm):Prop where
 q:PQ T K E p
 z:SZ a b E p
theorem QZ.mono{T K E a b T' K' E' a' b':Nat}{p:List Tm}(h:QZ T K E a b p)(h1:T<=T')(h2:K<=K')(h3:E<=E')(h4:a<=a')(h5:b<=b'):QZ T' K' E' a' b' p:=⟨h.q.mono h1 h2 h3,h.z.mono h4 h5 h3⟩
theorem QZ.sub{T K E a b S L F c d:Nat}{p q:List Tm}(hp:QZ T K E a b p)(hq:QZ S L F c d q):QZ (T+S) (K+(L+2)) (max E F) (a+c+5) (max b (d+7)+1) (bK p q):=
 ⟨(hp.q.mono (Kae _) (Kae _) (show E<=max E F by omega)).sub (hq.q.mono (Kae _) (Kae _) (show F<=max E F by omega)),Nm hp.z hq.z hq.q.n⟩
theorem QZ.add{T K E a b S L F c d:Nat}{p q:List Tm}(hp:QZ T K E a b p)(hq:QZ S L F c d q):QZ (T+S) (K+L) (max E F) (a+c) (max b d+1) (Qq p q):=
 ⟨(hp.q.mono (Kae _) (Kae _) (show E<=max E F by omega)).add (hq.q.mono (Kae _) (Kae _) (show F<=max E F by omega)),aiU hp.z hq.z⟩
theorem QZ.mul{T K E a b S L F c d:Nat}{p q:List Tm}(hp:QZ T K E a b p)(hq:QZ S L F c d q):QZ (T*S) (min T S*(K+L)) (E+F) (a+c) (b+d) (Q8 p q):=⟨hp.q.mul hq.q,hp.z.tp hq.z⟩
theorem QZ.nil{T K E a b:Nat}:QZ T K E (a+1) (b+2) []:=⟨.nil,by have:=SZ.of (L:=0) (PB.nil 0 E) (Kae 0);exact this.mono (by omega) (by omega) (by omega)⟩
theorem QZ.var{v:Nat}:QZ 1 4 1 5 7 (Qx v):=⟨.var,apz⟩
theorem QZ.one:QZ 1 4 0 5 7 (cD 1):=⟨.const (by have:=pV;omega),TO (by have:=pV;omega)⟩
structure CW(c:Cd):Prop where
 x:QZ 8 120 8 961 130 c.1
 y:QZ 8 120 8 961 130 c.2
theorem QZ.of{T K E:Nat}{p:List Tm}(h:PQ T K E p)(h1:T<=8)(h2:K<=120)(h3:E<=8):QZ 8 120 8 961 130 p:=by have h':=h.mono (T':=8) (K':=120) (E':=8) h1 h2 h3;exact⟨h',(SZ.of h'.b h'.l).mono (by omega) (by omega) (by omega)⟩
theorem aiV{w:Nat}{c:Cd}(h:WQ w c)(hw:w<=8):CW c:=⟨.of h.x (by omega) (by omega) (by omega),.of h.y (by omega) (by omega) (by omega)⟩
theorem CW.nil:CW ([],[]):=⟨QZ.nil.mono (KbL _) (KbL _) (KbL _) (show 0+1<=_ by omega) (show 0+2<=_ by omega),QZ.nil.mono (KbL _) (KbL _) (KbL _) (show 0+1<=_ by omega) (show 0+2<=_ by omega)⟩
theorem CW.cb{c:Cd}(h:CW c):CB c:=⟨h.x.q.mono (by omega) (by omega) (by omega),h.y.q.mono (by omega) (by omega) (by omega)⟩
abbrev Q1(p:List Tm):Prop:=QZ 16 242 8 1927 138 p
abbrev Q2(p:List Tm):Prop:=QZ 512 15490 16 7713 284 p
theorem Q1.of{p q:List Tm}(hp:QZ 8 120 8 961 130 p)(hq:QZ 8 120 8 961 130 q):Q1 (bK p q):=(hp.sub hq).mono (by omega) (by omega) (by omega) (by omega) (by omega)
theorem oN{a b c d:Cd}(ha:CW a)(hb:CW b)(hc:CW c)(hd:CW d):Q2 (ks a b c d):=
 (((Q1.of hb.x ha.x).mul (Q1.of hd.y hc.y)).sub ((Q1.of hb.y ha.y).mul (Q1.of hd.x hc.x))).mono (by omega) (by omega) (by omega) (by omega) (by omega)
theorem cZ{a b c d:Cd}(ha:CW a)(hb:CW b)(hc:CW c)(hd:CW d):Q2 (dC a b c d):=
 (((Q1.of hb.x ha.x).mul (Q1.of hd.x hc.x)).add ((Q1.of hb.y ha.y).mul (Q1.of hd.y hc.y))).mono (by omega) (by omega) (by omega) (by omega) (by omega)
def xR(p:List Tm):List Tm:=Qq p p
def vm(t:List Tm):List Tm:=Qq (cD 1) (Q8 t t)
def BI(t:List Tm)(o a:Cd):List Tm:=xR (Qq (bK o.1 a.1) (Q8 t (bK o.2 a.2)))
def BH(t:List Tm)(o a p:Cd):List (List Tm):=[bK (Q8 (vm t) (bK p.1 a.1)) (BI t o a),bK (Q8 (vm t) (bK p.2 a.2)) (Q8 t (BI t o a))]
def yU(p q o x:Cd):List (List Tm):=[bK (Q8 (dC p q p q) (bK x.1 p.1)) (Q8 (xR (dC p o p q)) (bK q.1 p.1)),bK (Q8 (dC p q p q) (bK x.2 p.2)) (Q8 (xR (dC p o p q)) (bK q.2 p.2))]
def qc(k:Int)(t:List Tm)(a b c d x:Cd):List (List Tm):=
 if k=6 then BH t a b x else if k=7 then [ks b c b x,dC b c a x]else if k=8 then [dC b c a x,Qq (ks b c b a) (ks b c b x)]
 else if k=9 then [ks a b a x,ks c d c x]else if k=10 then yU a b c x
 else if k=11 then [bK (dC a x a x) (dC b x b x),bK (dC a x a x) (dC c x c x)]
 else if k=12 then [ks a b a x,bK (dC c x c x) (dC c d c d)]
 else if k=13 then [bK (dC a x a x) (dC a b a b),bK (dC c x c x) (dC c d c d)]
 else if k=14 then [bK (dC a x a x) (dC a b a b),bK (dC b x b x) (dC a b a b)]else []
theorem HQ.of{T K E a b:Nat}{p:List Tm}(h:QZ T K E a b p)(h1:T<=24576)(h2:K<=1000000)(h3:E<=24)(h4:a<=27136)(h5:b<=27136):HQ p:=⟨h.q.mono h1 h2 h3,h.z.mono h4 h5 (by omega)⟩
theorem Q2.h{p:List Tm}(h:Q2 p):HQ p:=.of h (by omega) (by omega) (by omega) (by omega) (by omega)
theorem Q2.sub{p q:List Tm}(h:Q2 p)(g:Q2 q):HQ (bK p q):=.of (QZ.sub h g) (by omega) (by omega) (by omega) (by omega) (by omega)
theorem Q2.add{p q:List Tm}(h:Q2 p)(g:Q2 q):QZ 1024 30980 16 15426 285 (Qq p q):=(QZ.add h g).mono (by omega) (by omega) (by omega) (by omega) (by omega)
abbrev QS(t:List Tm):Prop:=QZ 1 4 1 5 7 t
theorem Iu{t:List Tm}(h:QS t):QZ 2 12 2 15 15 (vm t):=(QZ.one.add (h.mul h)).mono (by omega) (by omega) (by omega) (by omega) (by omega)
theorem Nn{t:List Tm}{o a:Cd}(h:QS t)(ho:CW o)(ha:CW a):QZ 64 976 9 7722 149 (BI t o a):=by have h1:=(Q1.of ho.x ha.x).add (h.mul (Q1.of ho.y ha.y));exact(h1.add h1).mono (by omega) (by omega) (by omega) (by omega) (by omega)
theorem two{P:List Tm->Prop}{x y:List Tm}(hx:P x)(hy:P y):∀q∈[x,y],P q:=fun q hm=>by
 rcases KaC.1 hm with rfl|hm
 ·exact hx
 ·rw[Kaw.1 hm];exact hy
theorem aiW{t:List Tm}{o a p:Cd}(h:QS t)(ho:CW o)(ha:CW a)(hp:CW p):∀q∈BH t o a p,HQ q:=by have hs:=Nn h ho ha;exact two (.of (((Iu h).mul (Q1.of hp.x ha.x)).sub hs) (by omega) (by omega) (by omega) (by omega) (by omega)) (.of (((Iu h).mul (Q1.of hp.y ha.y)).sub (h.mul hs)) (by omega) (by omega) (by omega) (by omega) (by omega))
theorem aiX{p q o x:Cd}(hp:CW p)(hq:CW q)(ho:CW o)(hx:CW x):∀r∈yU p q o x,HQ r:=by have n:=cZ hp hq hp hq;have d:=cZ hp ho hp hq;have s:QZ 1024 30980 16 15426 285 (xR (dC p o p q)):=d.add d;exact two (.of ((n.mul (Q1.of hx.x hp.x)).sub (s.mul (Q1.of hq.x hp.x))) (by omega) (by omega) (by omega) (by omega) (by omega)) (.of ((n.mul (Q1.of hx.y hp.y)).sub (s.mul (Q1.of hq.y hp.y))) (by omega) (by omega) (by omega) (by omega) (by omega))
theorem anh{k:Int}{t:List Tm}{a b c d x:Cd}(ht:QS t)(ha:CW a)(hb:CW b)(hc:CW c)(hd:CW d)(hx:CW x):∀q∈qc k t a b c d x,HQ q:=by
 unfold qc
 repeat' split
 ·exact aiW ht ha hb hx
 ·exact two (oN hb hc hb hx).h (cZ hb hc ha hx).h
 ·exact two (cZ hb hc ha hx).h (.of ((oN hb hc hb ha).add (oN hb hc hb hx)) (by omega) (by omega) (by omega) (by omega) (by omega))
 ·exact two (oN ha hb ha hx).h (oN hc hd hc hx).h
 ·exact aiX ha hb hc hx
 ·exact two ((cZ ha hx ha hx).sub (cZ hb hx hb hx)) ((cZ ha hx ha hx).sub (cZ hc hx hc hx))
 ·exact two (oN ha hb ha hx).h ((cZ hc hx hc hx).sub (cZ hc hd hc hd))
 ·exact two ((cZ ha hx ha hx).sub (cZ ha hb ha hb)) ((cZ hc hx hc hx).sub (cZ hc hd hc hd))
 ·exact two ((cZ ha hx ha hx).sub (cZ ha hb ha hb)) ((cZ hb hx hb hx).sub (cZ ha hb ha hb))
 ·exact fun q h=>(by cases h)
end Go.Proofs.YtccppnepkfbpkaaGreat
namespace Go.FW
open Go
section
variable {C : Ctx} {fr : Fr} {hp : HP} {w : World} {a : Act} {R : Qi}
def pC:List Bool->Nat
 | []=>0
 |true::l=>pC l
 |false::l=>pC l+1
theorem Mp:∀ {l:List Bool} {i:Nat},l[i]? =some false->pC (l.set i true)+1=pC l
 | [],i,h=>by simp at h
 |b::l,0,h=>by simp at h;subst h;simp[pC]
 |b::l,i+1,h=>by simp at h;have:=Mp h;cases b<;>simp[pC]<;>omega
theorem Mq:∀(n:Nat),pC (List.replicate n false)=n
 |0=>rfl
 |n+1=>by simp[KbB,pC,Mq n]
theorem Lz:∀ {l:List Bool} {i:Nat},pC l=0->l[i]? ≠some false
 | [],i,_=>by simp
 |true::l,0,_=>by simp
 |true::l,i+1,h=>by simpa using Lz (l:=l) (i:=i) (by simpa[pC]using h)
 |false::l,_,h=>by simp[pC]at h
theorem Ov{md:Region.Mode}{ops:Array Oper}{l:Array Bool}{i:Nat}(h:i∈Region.ready .any ops l):l.toList[i]? =some false:=by
 obtain⟨h1,_⟩:=mem_ready.1 h;rcases KcF i l.size with h'|h'
 ·simp[h']at h1 ⊢;exact h1
 ·simp[Kcq h']at h1
def kP(l:Array Bool):Nat->Bool:=fun i=>l.getD i false
theorem afm{l:Array Bool}{i:Nat}(h:l.getD i true=false):kP (l.setIfInBounds i true)=fun k=>k==i||kP l k:=by
 funext k;unfold kP;have hi:i<l.size:=by
  rcases KcF i l.size with h'|h'
  ·exact h'
  ·simp[Kcq h']at h
 by_cases hk:i=k
 ·subst hk;simp[hi]
 ·rw[getD_set_ne false hk];simp[Ne.symm hk]
theorem ZU(n:Nat):kP (Array.replicate n false)=fun _=>false:=by funext k;unfold kP;simp[Array.getD]
theorem afn{sk:List It}{ops:Array Oper}{Q:Exit->Act->World->Prop}(I:(Nat->Bool)->Qi)
  (mA:∀l i,l0 ops l->i∈Region.ready .any ops l->∃o g,ops[i]? =some o/\kp C.P C.N true ops o=some g/\∀fr hp,I (kP l) fr hp->im C g.g g.o fr hp (fun fr hp=>∃aK ax,Wk fr hp aK ax/\I (fun k=>k==i||kP l k) aK ax))
  (Jm:∀l fr hp,Region.ready .any ops l=[]->l.size=ops.size->I (kP l) fr hp->∃aK ax,Wk fr hp aK ax/\vc C R sk aK ax)
  (hQ:∀aA hp' uT w',dD C aA hp' uT w'->vc C R sk aA hp'->Q .normal { tmps:=uT,defers:=[] } w'):
  ∀(n:Nat)(l:Array Bool)(fr:Fr)(hp:HP)(a:Act)(w:World),pC l.toList=n->l.size=ops.size->l0 ops l->a.defers=[]->dD C fr hp a.tmps w->I (kP l) fr hp->wpAny C.P .any ops (NoPanic Q) n l a w:=by
 intro n;have fin:∀(l:Array Bool)(fr:Fr)(hp:HP)(a:Act)(w:World),Region.ready .any ops l=[]->l.size=ops.size->a.defers=[]->dD C fr hp a.tmps w->I (kP l) fr hp->NoPanic Q .normal a w:=by intro l fr hp a w hr hz hd hs hI;obtain⟨tmps,defers⟩:=a;simp only at hd hs;subst hd;obtain⟨aK,ax,hw,hv⟩:=Jm l fr hp hr hz hI;exact hQ aK ax tmps w (hw _ _ _ hs) hv
 induction n with
 | zero=>
  intro l fr hp a w hn hz Jk hd hs hI;have hr:Region.ready .any ops l=[]:=by
   cases h:Region.ready .any ops l with
   |nil=>rfl
   |cons i is=>exact absurd (Ov (md:=.any) (by rw[h];exact Kbp)) (Lz hn)
  exact⟨hr,fin l fr hp a w hr hz hd hs hI⟩
 |succ n ih=>intro l fr hp a w hn hz Jk hd hs hI;refine⟨fun hr=>fin l fr hp a w hr hz hd hs hI,fun i hi=>?_⟩;obtain⟨o,g,ho,hg,hv⟩:=mA l i Jk hi;obtain⟨ρ,ow⟩:=hs;refine wpOp_mono (fun a' w' hA=>?_) (G5 ho hd ow hg (hv fr hp hI));obtain⟨sW,⟨aA,hp',ek,aK,ax,hw,th⟩,_⟩:=hA;have:=Mp (Ov (md:=.any) hi);exact ih _ aK ax a' w' (by rw[Array.toList_setIfInBounds];omega) (by simpa using hz) (Jk.step hi) sW (hw _ _ _ ek) (by rw[afm (mem_ready.1 hi).1];exact th)
theorem F8{id:Nat}{sk:List It}{ops:Array Oper}(gs:List mJ)(af:List (List Nat))(hm:C.P.follows .mixedOrders=true)
  (hg:ops.toList.map (kp C.P C.N true ops)=gs.map some) (ha:ops.toList.map (fun o=>(o.after.toList.filter (Region.binds .any)).map (·.on))=af)
  (aq:∀i,i<af.length->∀k∈af.getD i [],k<i) (I:(Nat->Bool)->Qi) (h0:I (fun _=>false) fr hp)
  (mA:∀l i g,gs[i]? =some g->l i=false->(∀k∈af.getD i [],l k=true)->(∀j,l j=true->∀k∈af.getD j [],l k=true)->
   ∀fr hp,I l fr hp->im C g.g g.o fr hp (fun fr hp=>∃aK ax,Wk fr hp aK ax/\I (fun k=>k==i||l k) aK ax))
  (Jm:∀l fr hp,(∀i,i<gs.length->l i=true)->I l fr hp->∃aK ax,Wk fr hp aK ax/\vc C R sk aK ax):vc C R (.c (.raw id ops)::sk) fr hp:=by
 have amO:∀(i:Nat)(o:Oper),ops[i]? =some o->∃g,gs[i]? =some g/\kp C.P C.N true ops o=some g:=by
  intro i o ho;have h1:(ops.toList.map (kp C.P C.N true ops))[i]? =some (kp C.P C.N true ops o):=by simp[ho]
  rw[hg,Kas]at h1;cases h2:gs[i]? with
  |none=>simp[h2]at h1
  |some g=>rw[h2]at h1;exact⟨g,rfl,(Kac h1).symm⟩
 have Ix:∀(i:Nat)(o:Oper),ops[i]? =some o->af.getD i []=(o.after.toList.filter (Region.binds .any)).map (·.on):=by intro i o ho;rw[<-ha];simp[ho]
 have opAt:∀i,i<gs.length->∃o,ops[i]? =some o:=by intro i hi;have h1:=congrArg List.length hg;simp only[KaV,Kb8]at h1;exact⟨ops[i]'(by omega),by simp⟩
 have down:∀l,l0 ops l->∀j,kP l j=true->∀k∈af.getD j [],kP l k=true:=by
  intro l hd j hj k hk;rcases KcF j ops.size with h'|h'
  ·have ho:ops[j]? =some ops[j]:=by simp[h']
   rw[Ix j _ ho]at hk;obtain⟨e,he,rfl⟩:=KaE.1 hk;obtain⟨he,hb⟩:=KcL.1 he;exact hd j _ ho hj e (by simpa using he) hb
  ·have:af.getD j []=[]:=by rw[<-ha];simp[Kcq h']
   rw[this]at hk;cases hk
 rw[vc];intro tmps w Q hs hQ;refine wp_region_noPanic (wp_region_any hm (afn I ?_ ?_ hQ _ _ fr hp _ _ ?_ (by simp) (l0.start ops) rfl hs.drew (by rw[ZU];exact h0)))
 ·intro l i hd hi;obtain⟨h1,o,ho,h2⟩:=mem_ready.1 hi;obtain⟨g,hgi,ae⟩:=amO i o ho;refine⟨o,g,ho,ae,mA (kP l) i g hgi ?_ ?_ (down l hd)⟩
  ·cases h:kP l i with
   |false=>rfl
   |true=>exact absurd h (PK h1)
  ·intro k hk;rw[Ix i o ho]at hk;obtain⟨e,he,rfl⟩:=KaE.1 hk;obtain⟨he,hb⟩:=KcL.1 he;exact h2 e (by simpa using he) hb
 ·intro l fr hp hr hz hI;refine Jm (kP l) fr hp ?_ hI;intro i;induction i using Nat.strongRecOn with
  | ind i ih=>
   intro hi;cases h:kP l i with
   |true=>rfl
   | false=>
    exfalso;obtain⟨o,ho⟩:=opAt i hi;have eH:i<ops.size:=(Kbl.1 ho).1;have:i∈Region.ready .any ops l:=by
     refine mem_ready.2 ⟨?_,o,ho,?_⟩
     ·unfold kP at h;have fO:i<l.size:=by omega
      simp[fO]at h⊢;exact h
     ·intro e he hb;have hk:e.on∈af.getD i []:=by rw[Ix i o ho];exact KaE.2 ⟨e,KcL.2 ⟨by simpa using he,hb⟩,rfl⟩
      have fO:i<af.length:=by rw[<-ha];simpa using eH
      have v7:=aq i fO _ hk;exact ih e.on v7 (by omega)
    rw[hr]at this;cases this
 ·rw[Array.toList_replicate,Mq]
end
theorem Kw{C:Ctx}{R:Qi}{sk:List It}{fr mc:Fr}{hp fy:HP}(h:Wk fr hp mc fy)(k:∃aK ax,Wk mc fy aK ax/\vc C R sk aK ax):∃aK ax,Wk fr hp aK ax/\vc C R sk aK ax:=
 k.elim fun a k=>k.elim fun b k=>⟨a,b,h.trans k.1,k.2⟩
theorem Iv{C:Ctx}{R:Qi}{sk:List It}{fr:Fr}{hp:HP}(h:vc C R sk fr hp):∃aK ax,Wk fr hp aK ax/\vc C R sk aK ax:=⟨_,_,Wk.refl _ _,h⟩
theorem Mr{fr aA:Fr}{hp hp':HP}(hh:∀β,hp' β=hp β∨hp' β=none)(hf:∀s,aA s= .undef∨(aA s=cC id (fr s)/\∀β∈(fr s).refs++(fr s).aR,hp' β=hp β)):Wk fr hp aA hp':=by
 rintro C tmps w ⟨ρ,hs⟩;have hk:∀β hb,hp' β=some hb->hp β=some hb:=fun β hb h=>by
  rcases hh β with e|e
  ·rw[<-e];exact h
  ·rw[e]at h;cases h
 have hX:∀b,aE C ρ hp' b->aE C ρ hp b:=by
  rintro b (hx|⟨γ,hg,g1,g2,g3⟩)
  ·exact .inl hx
  ·exact .inr ⟨γ,hg,hk _ _ g1,g2,g3⟩
 refine⟨ρ,hs.sz,hs.ext,hs.eJ,fun γ hb ah=>?_,fun γ δ b g1 g2 g3 g4=>?_,fun i=>?_⟩
 ·obtain⟨q1,q2,q3,q4,q5⟩:=hs.own γ hb (hk _ _ ah);refine⟨q1,q2,?_,q4,q5⟩;cases hq:ρ γ with
  |none=>rw[hq]at q3;exact q3
  |some b=>rw[hq]at q3;exact⟨q3.1,q3.2.1,q3.2.2.move rfl rfl rfl rfl fun q u hq=>Qp.sub hq hX⟩
 ·obtain⟨x1,k1⟩:=Kbm.1 g1;obtain⟨x2,k2⟩:=Kbm.1 g2;exact hs.inj γ δ b (by rw[hk _ _ k1];simp) (by rw[hk _ _ k2];simp) g3 g4
 ·rcases hf i with e|⟨e,hr⟩
  ·rw[e];trivial
  ·rw[e];exact(hs.cE i).fR hX fun β aj=>⟨rfl,(fun hb hq=>⟨hb,by show hp' β=_;rw[hr β aj];exact hq,rfl,rfl,rfl⟩),id⟩
def vn(id:Nat):Code->Option (Array Oper)
 |.region i ops _=>if i=id then some ops else none
 |.seq a b=>(vn id a).or (vn id b)
 |.cond _ a b=>(vn id a).or (vn id b)
 |.block _ a=>vn id a
 |.loop a=>vn id a
 |_=>none
def Gr(f:Func)(id:Nat):Array Oper:=((f.body.bind (vn id)).getD #[])
end Go.FW
