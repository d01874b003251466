/- Part 12 of the proof of CertcheckNames: J1, FwNK. Own lemmas; no conditions. -/
import Derived.Test.YtccppnepkfbpkaaGreatCertcheckNamesPart11
set_option maxHeartbeats 1000000
set_option linter.unusedSimpArgs false
set_option linter.unusedVariables false
set_option linter.unnecessarySimpa false
set_option maxRecDepth 100000
namespace Go.Proofs.YtccppnepkfbpkaaGreat
open Go Go.FW
structure HQ(p:List Tm):Prop where
 q:PQ 24576 1000000 24 p
 z:SZ 27136 27136 27136 p
theorem Ud{a:Rat}(h:rs a+1<=4):SZ 5 7 0 (cM a):=(SZ.of (PQ.const h).b (PQ.const h).l).mono (by omega) (by omega) (by omega)
theorem ap5{v:Nat}:SZ 5 7 1 (Q3 v):=(SZ.of (PQ.var (v:=v)).b (PQ.var (v:=v)).l).mono (by omega) (by omega) (by omega)
theorem ajJ{a b E:Nat}{p:List Tm}(h:SZ a b E p)(hn:aR p):SZ (a+5) (b+7) E (tW p):=by have e:tW p=aV (cM (-1)) p:=(Hu hn (-1)).symm;rw[e];have:=(Ud (a:= -1) (by have:=B5;omega)).uX h;exact this.mono (by omega) (by omega) (by omega)
theorem ajK{a b E a' b' E':Nat}{p q:List Tm}(hp:SZ a b E p)(hq:SZ a' b' E' q)(hn:aR q):SZ (a+a'+5) (max b (b'+7)+1) (max E E') (bQ p q):=by have:=(hp.mono (Kad _) (Kad _) (show E<=max E E' by omega)).uW ((ajJ hq hn).mono (Kad _) (Kad _) (show E'<=max E E' by omega));exact this.mono (by omega) (Kad _) (Kad _)
theorem ajL{a b E a' b' E':Nat}{p q:List Tm}(hp:SZ a b E p)(hq:SZ a' b' E' q):SZ (a+a') (max b b'+1) (max E E') (Qq p q):=
 (hp.mono (Kad _) (Kad _) (show E<=max E E' by omega)).uW (hq.mono (Kad _) (Kad _) (show E'<=max E E' by omega))
structure QZ(T K E a b:Nat)(p:List Tm):Prop where
 q:PQ T K E p
 z:SZ a b E p
theorem QZ.mono{T K E a b T' K' E' a' b':Nat}{p:List Tm}(h:QZ T K E a b p)(h1:T<=T')(h2:K<=K')(h3:E<=E')(h4:a<=a')(h5:b<=b'):QZ T' K' E' a' b' p:=⟨h.q.mono h1 h2 h3,h.z.mono h4 h5 h3⟩
theorem QZ.sub{T K E a b S L F c d:Nat}{p q:List Tm}(hp:QZ T K E a b p)(hq:QZ S L F c d q):QZ (T+S) (K+(L+2)) (max E F) (a+c+5) (max b (d+7)+1) (bQ p q):=
 ⟨(hp.q.mono (Kad _) (Kad _) (show E<=max E F by omega)).sub (hq.q.mono (Kad _) (Kad _) (show F<=max E F by omega)),ajK hp.z hq.z hq.q.n⟩
theorem QZ.add{T K E a b S L F c d:Nat}{p q:List Tm}(hp:QZ T K E a b p)(hq:QZ S L F c d q):QZ (T+S) (K+L) (max E F) (a+c) (max b d+1) (Qq p q):=
 ⟨(hp.q.mono (Kad _) (Kad _) (show E<=max E F by omega)).add (hq.q.mono (Kad _) (Kad _) (show F<=max E F by omega)),ajL hp.z hq.z⟩
theorem QZ.mul{T K E a b S L F c d:Nat}{p q:List Tm}(hp:QZ T K E a b p)(hq:QZ S L F c d q):QZ (T*S) (min T S*(K+L)) (E+F) (a+c) (b+d) (aV p q):=⟨hp.q.mul hq.q,hp.z.uX hq.z⟩
theorem QZ.nil{T K E a b:Nat}:QZ T K E (a+1) (b+2) []:=⟨.nil,by have:=SZ.of (L:=0) (PB.nil 0 E) (Kad 0);exact this.mono (by omega) (by omega) (by omega)⟩
theorem QZ.var{v:Nat}:QZ 1 4 1 5 7 (Q3 v):=⟨.var,ap5⟩
theorem QZ.one:QZ 1 4 0 5 7 (cM 1):=⟨.const (by have:=sM;omega),Ud (by have:=sM;omega)⟩
structure CW(c:Cd):Prop where
 x:QZ 8 120 8 961 130 c.1
 y:QZ 8 120 8 961 130 c.2
theorem QZ.of{T K E:Nat}{p:List Tm}(h:PQ T K E p)(h1:T<=8)(h2:K<=120)(h3:E<=8):QZ 8 120 8 961 130 p:=by have h':=h.mono (T':=8) (K':=120) (E':=8) h1 h2 h3;exact⟨h',(SZ.of h'.b h'.l).mono (by omega) (by omega) (by omega)⟩
theorem ajM{w:Nat}{c:Cd}(h:WQ w c)(hw:w<=8):CW c:=⟨.of h.x (by omega) (by omega) (by omega),.of h.y (by omega) (by omega) (by omega)⟩
theorem CW.nil:CW ([],[]):=⟨QZ.nil.mono (KbR _) (KbR _) (KbR _) (show 0+1<=_ by omega) (show 0+2<=_ by omega),QZ.nil.mono (KbR _) (KbR _) (KbR _) (show 0+1<=_ by omega) (show 0+2<=_ by omega)⟩
theorem CW.cb{c:Cd}(h:CW c):CB c:=⟨h.x.q.mono (by omega) (by omega) (by omega),h.y.q.mono (by omega) (by omega) (by omega)⟩
abbrev Q1(p:List Tm):Prop:=QZ 16 242 8 1927 138 p
abbrev Q2(p:List Tm):Prop:=QZ 512 15490 16 7713 284 p
theorem Q1.of{p q:List Tm}(hp:QZ 8 120 8 961 130 p)(hq:QZ 8 120 8 961 130 q):Q1 (bQ p q):=(hp.sub hq).mono (by omega) (by omega) (by omega) (by omega) (by omega)
theorem Ef{a b c d:Cd}(ha:CW a)(hb:CW b)(hc:CW c)(hd:CW d):Q2 (ks a b c d):=
 (((Q1.of hb.x ha.x).mul (Q1.of hd.y hc.y)).sub ((Q1.of hb.y ha.y).mul (Q1.of hd.x hc.x))).mono (by omega) (by omega) (by omega) (by omega) (by omega)
theorem kv{a b c d:Cd}(ha:CW a)(hb:CW b)(hc:CW c)(hd:CW d):Q2 (dJ a b c d):=
 (((Q1.of hb.x ha.x).mul (Q1.of hd.x hc.x)).add ((Q1.of hb.y ha.y).mul (Q1.of hd.y hc.y))).mono (by omega) (by omega) (by omega) (by omega) (by omega)
def y7(p:List Tm):List Tm:=Qq p p
def vo(t:List Tm):List Tm:=Qq (cM 1) (aV t t)
def BS(t:List Tm)(o a:Cd):List Tm:=y7 (Qq (bQ o.1 a.1) (aV t (bQ o.2 a.2)))
def F3(t:List Tm)(o a p:Cd):List (List Tm):=[bQ (aV (vo t) (bQ p.1 a.1)) (BS t o a),bQ (aV (vo t) (bQ p.2 a.2)) (aV t (BS t o a))]
def Cq(p q o x:Cd):List (List Tm):=[bQ (aV (dJ p q p q) (bQ x.1 p.1)) (aV (y7 (dJ p o p q)) (bQ q.1 p.1)),bQ (aV (dJ p q p q) (bQ x.2 p.2)) (aV (y7 (dJ p o p q)) (bQ q.2 p.2))]
def sU(k:Int)(t:List Tm)(a b c d x:Cd):List (List Tm):=
 if k=6 then F3 t a b x else if k=7 then [ks b c b x,dJ b c a x]else if k=8 then [dJ b c a x,Qq (ks b c b a) (ks b c b x)]
 else if k=9 then [ks a b a x,ks c d c x]else if k=10 then Cq a b c x
 else if k=11 then [bQ (dJ a x a x) (dJ b x b x),bQ (dJ a x a x) (dJ c x c x)]
 else if k=12 then [ks a b a x,bQ (dJ c x c x) (dJ c d c d)]
 else if k=13 then [bQ (dJ a x a x) (dJ a b a b),bQ (dJ c x c x) (dJ c d c d)]
 else if k=14 then [bQ (dJ a x a x) (dJ a b a b),bQ (dJ b x b x) (dJ a b a b)]else []
theorem HQ.of{T K E a b:Nat}{p:List Tm}(h:QZ T K E a b p)(h1:T<=24576)(h2:K<=1000000)(h3:E<=24)(h4:a<=27136)(h5:b<=27136):HQ p:=⟨h.q.mono h1 h2 h3,h.z.mono h4 h5 (by omega)⟩
theorem Q2.h{p:List Tm}(h:Q2 p):HQ p:=.of h (by omega) (by omega) (by omega) (by omega) (by omega)
theorem Q2.add{p q:List Tm}(h:Q2 p)(g:Q2 q):QZ 1024 30980 16 15426 285 (Qq p q):=(QZ.add h g).mono (by omega) (by omega) (by omega) (by omega) (by omega)
abbrev QS(t:List Tm):Prop:=QZ 1 4 1 5 7 t
theorem MO{t:List Tm}(h:QS t):QZ 2 12 2 15 15 (vo t):=(QZ.one.add (h.mul h)).mono (by omega) (by omega) (by omega) (by omega) (by omega)
theorem ajN{t:List Tm}{o a:Cd}(h:QS t)(ho:CW o)(ha:CW a):QZ 64 976 9 7722 149 (BS t o a):=by have h1:=(Q1.of ho.x ha.x).add (h.mul (Q1.of ho.y ha.y));exact(h1.add h1).mono (by omega) (by omega) (by omega) (by omega) (by omega)
theorem two{P:List Tm->Prop}{x y:List Tm}(hx:P x)(hy:P y):∀q∈[x,y],P q:=fun q hm=>by
 rcases KaC.1 hm with rfl|hm
 ·exact hx
 ·rw[Kay.1 hm];exact hy
end Go.Proofs.YtccppnepkfbpkaaGreat
namespace Go.FW
open Go
section
variable {C : Ctx} {fr : Fr} {hp : HP} {w : World} {a : Act} {R : Qh}
def pz:List Bool->Nat
 | []=>0
 |true::l=>pz l
 |false::l=>pz l+1
theorem MP:∀ {l:List Bool} {i:Nat},l[i]? =some false->pz (l.set i true)+1=pz l
 | [],i,h=>by simp at h
 |b::l,0,h=>by simp at h;subst h;simp[pz]
 |b::l,i+1,h=>by simp at h;have:=MP h;cases b<;>simp[pz]<;>omega
theorem MQ:∀(n:Nat),pz (List.replicate n false)=n
 |0=>rfl
 |n+1=>by simp[KbJ,pz,MQ n]
theorem LU:∀ {l:List Bool} {i:Nat},pz l=0->l[i]? ≠some false
 | [],i,_=>by simp
 |true::l,0,_=>by simp
 |true::l,i+1,h=>by simpa using LU (l:=l) (i:=i) (by simpa[pz]using h)
 |false::l,_,h=>by simp[pz]at h
theorem ON{md:Region.Mode}{ops:Array Oper}{l:Array Bool}{i:Nat}(h:i∈Region.ready .any ops l):l.toList[i]? =some false:=by
 obtain⟨h1,_⟩:=mem_ready.1 h;rcases KcR i l.size with h'|h'
 ·simp[h']at h1 ⊢;exact h1
 ·simp[Kcz h']at h1
def kN(l:Array Bool):Nat->Bool:=fun i=>l.getD i false
theorem afO{l:Array Bool}{i:Nat}(h:l.getD i true=false):kN (l.setIfInBounds i true)=fun k=>k==i||kN l k:=by
 funext k;unfold kN;have hi:i<l.size:=by
  rcases KcR i l.size with h'|h'
  ·exact h'
  ·simp[Kcz h']at h
 by_cases hk:i=k
 ·subst hk;simp[hi]
 ·rw[getD_set_ne false hk];simp[Ne.symm hk]
theorem aap(n:Nat):kN (Array.replicate n false)=fun _=>false:=by funext k;unfold kN;simp[Array.getD]
theorem afP{sk:List It}{ops:Array Oper}{Q:Exit->Act->World->Prop}(I:(Nat->Bool)->Qh)
  (mz:∀l i,lY ops l->i∈Region.ready .any ops l->∃o g,ops[i]? =some o/\kq C.P C.N true ops o=some g/\∀fr hp,I (kN l) fr hp->hZ C g.g g.o fr hp (fun fr hp=>∃aJ aw,Wk fr hp aJ aw/\I (fun k=>k==i||kN l k) aJ aw))
  (JD:∀l fr hp,Region.ready .any ops l=[]->l.size=ops.size->I (kN l) fr hp->∃aJ aw,Wk fr hp aJ aw/\vc C R sk aJ aw)
  (hQ:∀aA hp' uY w',dB C aA hp' uY w'->vc C R sk aA hp'->Q .normal { tmps:=uY,defers:=[] } w'):
  ∀(n:Nat)(l:Array Bool)(fr:Fr)(hp:HP)(a:Act)(w:World),pz l.toList=n->l.size=ops.size->lY ops l->a.defers=[]->dB C fr hp a.tmps w->I (kN l) fr hp->wpAny C.P .any ops (NoPanic Q) n l a w:=by
 intro n;have fin:∀(l:Array Bool)(fr:Fr)(hp:HP)(a:Act)(w:World),Region.ready .any ops l=[]->l.size=ops.size->a.defers=[]->dB C fr hp a.tmps w->I (kN l) fr hp->NoPanic Q .normal a w:=by intro l fr hp a w hr hz hd hs hI;obtain⟨tmps,defers⟩:=a;simp only at hd hs;subst hd;obtain⟨aJ,aw,hw,hv⟩:=JD l fr hp hr hz hI;exact hQ aJ aw tmps w (hw _ _ _ hs) hv
 induction n with
 | zero=>
  intro l fr hp a w hn hz JB hd hs hI;have hr:Region.ready .any ops l=[]:=by
   cases h:Region.ready .any ops l with
   |nil=>rfl
   |cons i is=>exact absurd (ON (md:=.any) (by rw[h];exact Kbk)) (LU hn)
  exact⟨hr,fin l fr hp a w hr hz hd hs hI⟩
 |succ n ih=>intro l fr hp a w hn hz JB hd hs hI;refine⟨fun hr=>fin l fr hp a w hr hz hd hs hI,fun i hi=>?_⟩;obtain⟨o,g,ho,hg,hv⟩:=mz l i JB hi;obtain⟨ρ,ow⟩:=hs;refine wpOp_mono (fun a' w' hA=>?_) (Hf ho hd ow hg (hv fr hp hI));obtain⟨sY,⟨aA,hp',dZ,aJ,aw,hw,tg⟩,_⟩:=hA;have:=MP (ON (md:=.any) hi);exact ih _ aJ aw a' w' (by rw[Array.toList_setIfInBounds];omega) (by simpa using hz) (JB.step hi) sY (hw _ _ _ dZ) (by rw[afO (mem_ready.1 hi).1];exact tg)
theorem Gs{id:Nat}{sk:List It}{ops:Array Oper}(gs:List mJ)(af:List (List Nat))(hm:C.P.follows .mixedOrders=true)
  (hg:ops.toList.map (kq C.P C.N true ops)=gs.map some) (ha:ops.toList.map (fun o=>(o.after.toList.filter (Region.binds .any)).map (·.on))=af)
  (aq:∀i,i<af.length->∀k∈af.getD i [],k<i) (I:(Nat->Bool)->Qh) (h0:I (fun _=>false) fr hp)
  (mz:∀l i g,gs[i]? =some g->l i=false->(∀k∈af.getD i [],l k=true)->(∀j,l j=true->∀k∈af.getD j [],l k=true)->
   ∀fr hp,I l fr hp->hZ C g.g g.o fr hp (fun fr hp=>∃aJ aw,Wk fr hp aJ aw/\I (fun k=>k==i||l k) aJ aw))
  (JD:∀l fr hp,(∀i,i<gs.length->l i=true)->I l fr hp->∃aJ aw,Wk fr hp aJ aw/\vc C R sk aJ aw):vc C R (.c (.raw id ops)::sk) fr hp:=by
 have am5:∀(i:Nat)(o:Oper),ops[i]? =some o->∃g,gs[i]? =some g/\kq C.P C.N true ops o=some g:=by
  intro i o ho;have h1:(ops.toList.map (kq C.P C.N true ops))[i]? =some (kq C.P C.N true ops o):=by simp[ho]
  rw[hg,Kat]at h1;cases h2:gs[i]? with
  |none=>simp[h2]at h1
  |some g=>rw[h2]at h1;exact⟨g,rfl,(Kac h1).symm⟩
 have IJ:∀(i:Nat)(o:Oper),ops[i]? =some o->af.getD i []=(o.after.toList.filter (Region.binds .any)).map (·.on):=by intro i o ho;rw[<-ha];simp[ho]
 have opAt:∀i,i<gs.length->∃o,ops[i]? =some o:=by intro i hi;have h1:=congrArg List.length hg;simp only[Ka0,Kcg]at h1;exact⟨ops[i]'(by omega),by simp⟩
 have down:∀l,lY ops l->∀j,kN l j=true->∀k∈af.getD j [],kN l k=true:=by
  intro l hd j hj k hk;rcases KcR j ops.size with h'|h'
  ·have ho:ops[j]? =some ops[j]:=by simp[h']
   rw[IJ j _ ho]at hk;obtain⟨e,he,rfl⟩:=KaF.1 hk;obtain⟨he,hb⟩:=KcV.1 he;exact hd j _ ho hj e (by simpa using he) hb
  ·have:af.getD j []=[]:=by rw[<-ha];simp[Kcz h']
   rw[this]at hk;cases hk
 rw[vc];intro tmps w Q hs hQ;refine wp_region_noPanic (wp_region_any hm (afP I ?_ ?_ hQ _ _ fr hp _ _ ?_ (by simp) (lY.start ops) rfl hs.drew (by rw[aap];exact h0)))
 ·intro l i hd hi;obtain⟨h1,o,ho,h2⟩:=mem_ready.1 hi;obtain⟨g,hgi,ab⟩:=am5 i o ho;refine⟨o,g,ho,ab,mz (kN l) i g hgi ?_ ?_ (down l hd)⟩
  ·cases h:kN l i with
   |false=>rfl
   |true=>exact absurd h (P3 h1)
  ·intro k hk;rw[IJ i o ho]at hk;obtain⟨e,he,rfl⟩:=KaF.1 hk;obtain⟨he,hb⟩:=KcV.1 he;exact h2 e (by simpa using he) hb
 ·intro l fr hp hr hz hI;refine JD (kN l) fr hp ?_ hI;intro i;induction i using Nat.strongRecOn with
  | ind i ih=>
   intro hi;cases h:kN l i with
   |true=>rfl
   | false=>
    exfalso;obtain⟨o,ho⟩:=opAt i hi;have eE:i<ops.size:=(Kbm.1 ho).1;have:i∈Region.ready .any ops l:=by
     refine mem_ready.2 ⟨?_,o,ho,?_⟩
     ·unfold kN at h;have fI:i<l.size:=by omega
      simp[fI]at h⊢;exact h
     ·intro e he hb;have hk:e.on∈af.getD i []:=by rw[IJ i o ho];exact KaF.2 ⟨e,KcV.2 ⟨by simpa using he,hb⟩,rfl⟩
      have fI:i<af.length:=by rw[<-ha];simpa using eE
      have v7:=aq i fI _ hk;exact ih e.on v7 (by omega)
    rw[hr]at this;cases this
 ·rw[Array.toList_replicate,MQ]
end
theorem KP{C:Ctx}{R:Qh}{sk:List It}{fr ma:Fr}{hp ft:HP}(h:Wk fr hp ma ft)(k:∃aJ aw,Wk ma ft aJ aw/\vc C R sk aJ aw):∃aJ aw,Wk fr hp aJ aw/\vc C R sk aJ aw:=
 k.elim fun a k=>k.elim fun b k=>⟨a,b,h.trans k.1,k.2⟩
theorem Il{C:Ctx}{R:Qh}{sk:List It}{fr:Fr}{hp:HP}(h:vc C R sk fr hp):∃aJ aw,Wk fr hp aJ aw/\vc C R sk aJ aw:=⟨_,_,Wk.refl _ _,h⟩
theorem MR{fr aA:Fr}{hp hp':HP}(hh:∀β,hp' β=hp β∨hp' β=none)(hf:∀s,aA s= .undef∨(aA s=cE id (fr s)/\∀β∈(fr s).refs++(fr s).aN,hp' β=hp β)):Wk fr hp aA hp':=by
 rintro C tmps w ⟨ρ,hs⟩;have hk:∀β hb,hp' β=some hb->hp β=some hb:=fun β hb h=>by
  rcases hh β with e|e
  ·rw[<-e];exact h
  ·rw[e]at h;cases h
 have hX:∀b,aE C ρ hp' b->aE C ρ hp b:=by
  rintro b (hx|⟨γ,hg,g1,g2,g3⟩)
  ·exact .inl hx
  ·exact .inr ⟨γ,hg,hk _ _ g1,g2,g3⟩
 refine⟨ρ,hs.sz,hs.ext,hs.eG,fun γ hb ah=>?_,fun γ δ b g1 g2 g3 g4=>?_,fun i=>?_⟩
 ·obtain⟨q1,q2,q3,q4,q5⟩:=hs.own γ hb (hk _ _ ah);refine⟨q1,q2,?_,q4,q5⟩;cases hq:ρ γ with
  |none=>rw[hq]at q3;exact q3
  |some b=>rw[hq]at q3;exact⟨q3.1,q3.2.1,q3.2.2.move rfl rfl rfl rfl fun q u hq=>Qp.sub hq hX⟩
 ·obtain⟨x1,k1⟩:=Kbn.1 g1;obtain⟨x2,k2⟩:=Kbn.1 g2;exact hs.inj γ δ b (by rw[hk _ _ k1];simp) (by rw[hk _ _ k2];simp) g3 g4
 ·rcases hf i with e|⟨e,hr⟩
  ·rw[e];trivial
  ·rw[e];exact(hs.cH i).fK hX fun β aj=>⟨rfl,(fun hb hq=>⟨hb,by show hp' β=_;rw[hr β aj];exact hq,rfl,rfl,rfl⟩),id⟩
def vp(id:Nat):Code->Option (Array Oper)
 |.region i ops _=>if i=id then some ops else none
 |.seq a b=>(vp id a).or (vp id b)
 |.cond _ a b=>(vp id a).or (vp id b)
 |.block _ a=>vp id a
 |.loop a=>vp id a
 |_=>none
def GH(f:Func)(id:Nat):Array Oper:=((f.body.bind (vp id)).getD #[])
end Go.FW
