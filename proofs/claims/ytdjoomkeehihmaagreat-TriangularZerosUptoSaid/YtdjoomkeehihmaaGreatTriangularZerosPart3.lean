/- Part 3 of the proof of TriangularZeros: TPn, TM, FwPC, FwSA, FwSB, FwSC, FwTA, FwSet, FwSt, FwUB, FwNA, FwNB, FwND, FwNE, FwNF, FwSu. Own lemmas; no conditions. -/
import Derived.Test.YtdjoomkeehihmaaGreatTriangularZerosPart2
import Derived.WalkKit
import Derived.Shelf.Abstract
import Derived.OwnWalk
import Derived.OwnWalkIn
import Derived.TacticsInMore
import Derived.LoopNIn
import Derived.LoopIn
import Derived.Laws.EntriesVeiled
import Derived.Laws.Rows
import Derived.Deep.Onto
import Derived.Test.YtdjoomkeehihmaaGreatProg
import Derived.WalkMore
import Derived.Deep.LoopGhost
import Derived.Deep.MidRow
import Derived.Maps.Own
import Derived.Maps.OwnOps
import Derived.Maps.AppendAt
import Derived.Maps.Views
import Derived.ChangeSame
import Derived.ChangeStays
import Derived.Deep.Slices
import Derived.OpenShut
import Derived.RowKit
import Derived.ProofKit
import Derived.JoinedCond
set_option maxHeartbeats 1000000
set_option linter.unusedSimpArgs false
set_option linter.unusedVariables false
set_option linter.unnecessarySimpa false
set_option maxRecDepth 100000
namespace Go.Proofs.YtdjoomkeehihmaaGreat
open Go Go.FW Go.RowKit Go.Shelf
attribute [local go_sem] Oper.semAt_some
theorem ap6:Tryz.prog.follows .mixedOrders=true:=by kernel_rfl
theorem qX(k:Nat):Fence.wide.depth.isSome=true->1<=k:=fun h=>by cases h
theorem z7{f:FuncId}{args:List PV}{R:PV->Prop}(h:Qc Tryz.prog f args R){bo:Array Value}{w:World}(hs:bo.size=args.length)(X:Nat->Prop)(hX:∀b,X b->b<w.heap.size)(hr:∀(i:Nat)(x:PV),args[i]? =some x->ba w X x (bo.getD i undef))(n:Nat):
  CallsIn Fence.wide n Tryz.prog f bo w fun e w'=>∃v r,e= .returned v/\Ext bT w w'/\dH w' X r v/\R r:=callsIn_wide.2 (h.2 w X bo hX hs hr)
theorem akP:(Tryz.prog.info? 32).map (fun i=>(i.zero,i.size,i.bytes))=some (some (.slice none 0 0),1,24):=by kernel_rfl
theorem xx{w:World}{X:Nat->Prop}{e:Nat}{xs:List PV}{v:Value}(h:Qu w X (.sl e xs) v):∃a c,v= .slice a xs.length c:=by
 generalize hY:PV.sl e xs=Y at h;cases h with
 |gT _ a cap=>cases hY;exact⟨_,_,rfl⟩
 |sl _ _ b off cap=>cases hY;exact⟨_,_,rfl⟩
 |_=>cases hY
structure Gg(X:Nat->Prop)(O Ab R:Nat)(base:Nat)(vq:Value)(ca:List Value)(es:List (List Tm))(W0 W:World):Prop where
 ex:Ext bT W0 W
 rb:W.heap[R]? =some (.cells #[.slice none 0 0,.slice none 0 0] 34 (0,0))
 ab:W.heap[Ab]? =some (.cells ca.toArray 43 (0,0))
 bx:∃(vo:Value)(vs:List Value),W.heap[O]? =some (.cells #[vq,vo] 34 (0,0))/\W.ownsRow base 32 1 vo es.length vs/\
  ∀j (h:j<es.length),Qu W (fun b=>X b∨b=O∨vo.ownBlock=some b∨b=R∨b=Ab) (PV.aj es[j]) (vs.getD j undef)
theorem HU{w:World}{R:Nat}{ty:TypeId}(h:w.heap[R]? =some (.cells #[.slice none 0 0,.slice none 0 0] ty (0,0))):
  w.cell? ⟨R,0,none⟩=some (.slice none 0 0)/\w.cell? ⟨R,1,none⟩=some (.slice none 0 0)/\(w.setCell ⟨R,0,none⟩ (.slice none 0 0)).cell? ⟨R,1,none⟩=some (.slice none 0 0)/\w.frozen? ⟨R,0,none⟩=false/\
   (w.setCell ⟨R,0,none⟩ (.slice none 0 0)).frozen? ⟨R,1,none⟩=false/\((w.setCell ⟨R,0,none⟩ (.slice none 0 0)).setCell ⟨R,1,none⟩ (.slice none 0 0)).heap[R]? =some (.cells #[.slice none 0 0,.slice none 0 0] ty (0,0)):=by
 have h2:=heap_setCell_same w R 0 _ _ (.slice none 0 0) h;have h3:=heap_setCell_same (w.setCell ⟨R,0,none⟩ (.slice none 0 0)) R 1 _ _ (.slice none 0 0) h2;refine⟨?_,?_,?_,?_,?_,h3⟩
 ·simp only[World.cell?,h];rfl
 ·simp only[World.cell?,h];rfl
 ·simp only[World.cell?,h2];rfl
 ·simp only[World.frozen?,h];rfl
 ·simp only[World.frozen?,h2];rfl
theorem IP{W w:World}(hE:Ext bT W w){R:Nat}(hR:W.heap.size<=R)(a b:Value):Ext bT W ((w.setCell ⟨R,0,none⟩ a).setCell ⟨R,1,none⟩ b):=by have e1:=Ext.setCell (Y:=fun b=>b=R) w ⟨R,0,none⟩ a rfl;have e2:=Ext.setCell (Y:=fun b=>b=R) (w.setCell ⟨R,0,none⟩ a) ⟨R,1,none⟩ b rfl;exact(hE.trans' e1 (fun i hi h=>by omega)).trans' e2 (fun i hi h=>by omega)
theorem IQ{w:World}{X:Nat->Prop}{e:Int}:dH w X (.au [.agg [PV.aj [],PV.ch []],.int .i64 e]) (.tuple #[.agg #[.slice none 0 0,.slice none 0 0],.int .i64 e]):=by
 refine⟨_,rfl,rfl,fun k x hk=>?_⟩
 match k,hk with
 |0,hk=>
  cases hk;refine⟨_,rfl,rfl,fun k x hk=>?_⟩
  match k,hk with
  |0,hk=>cases hk;exact Qu.gT _ none 0 (Kby _)
  |1,hk=>cases hk;exact Qu.gT _ none 0 (Kby _)
  |k+2,hk=>simp at hk
 |1,hk=>cases hk;exact .int _ _
 |k+2,hk=>simp at hk
def oJ(b1 b2 b3:Bool)(q:List Tm)(ds:List (List Tm)):PV:=
 if b1||b2 then .au [.agg [PV.aj [],PV.ch []],.int .i64 4]else if decide (0<q.length)&&b3 then .au [.agg [PV.aj [],PV.ch []],.int .i64 13]else .au [.agg [PV.aj q,PV.ch ds],.int .i64 0]
set_option maxHeartbeats 4000000 in
theorem Q8g {p q:List Tm} {cs ds:List (List Tm)} {a:Rat} {b1 b2 b3:Bool} (hlen:ds.length=cs.length) (hl:cs.length<=100) {vp vc:Value} {W:World} (X:Nat->Prop) (hX:∀b,X b->b<W.heap.size) (hp:Qu W X (PV.aj p) vp) (hc:Qu W X (PV.ch cs) vc)
  (vY:Qc Tryz.prog 120 [PV.aj p] (· = .au [PV.aj q,PV.rat a])) (vZ:∀i (h:i<cs.length),Qc Tryz.prog 121 [PV.aj cs[i],PV.rat a] (· =PV.aj (ds.getD i [])))
  (sC:Qc Tryz.prog 61 [PV.aj q] (· = .bool b1))
  (A':Qc Tryz.prog 122 [PV.ch ds,.fn 61 [] []] (· = .bool b2)) (Ba:Qc Tryz.prog 123 [PV.aj q] (· = .bool b3)) (m:Nat):
  CallsIn Fence.wide m Tryz.prog 66 #[vp,vc] W fun e w'=>∃v,e= .returned v/\Ext bT W w'/\dH w' X (oJ b1 b2 b3 q ds) v:=by
 refine callsIn_of_wp Tryz.func66 rfl trivial ?_ rfl;simp only[Tryz.ntmps66,KbM,KaW,Kbj,Nat.reduceAdd,Nat.reduceSub,Array.replicate_succ,Array.replicate_zero,List.push_toArray,List.append_toArray,KaN,KaQ]
 gi_wp2
 refine⟨trivial,qX _,?_⟩;have Mi:Ext bT W (W.alloc (.cells #[.slice none 0 0,.slice none 0 0] 34)):=Ext.ua _ _ _;have hXR:∀b,(X b∨b=W.heap.size)->b<(W.alloc (.cells #[.slice none 0 0,.slice none 0 0] 34)).heap.size:=by
  rintro b (hb|rfl)
  ·have:=hX b hb;simp;omega
  ·simp
 refine(z7 vY rfl (fun b=>X b∨b=W.heap.size) hXR (fun i x hx=>?_) _).mono ?_
 ·match i,hx with
  |0,hx=>simp at hx;subst hx;exact ba.mono (p:=PV.aj p) hp (fun b hb _=>Mi.block b hb id) (fun b hb h h'=>h'.elim h (fun h=>by omega)) Mi.size
  |i+1,hx=>simp at hx
 rintro e w1 ⟨v,r,rfl,fD,cN,rfl⟩;obtain⟨vs,rfl,gu,hr⟩:=cN;obtain⟨vq,va,rfl⟩:∃vq va,vs= #[vq,va]:=by
  obtain⟨l⟩:=vs
  match l,gu with
  | [x,y],_=>exact⟨x,y,rfl⟩
 have hq:Qu w1 (fun b=>X b∨b=W.heap.size) (PV.aj q) vq:=hr 0 _ rfl;obtain⟨us,Xl,hus,hu⟩:ba w1 (fun b=>X b∨b=W.heap.size) (PV.rat a) va:=hr 1 _ rfl;obtain rfl:va= .agg us:=Xl;obtain⟨u0,u1,u2,rfl⟩:∃u0 u1 u2,us= #[u0,u1,u2]:=by
  obtain⟨l⟩:=us
  match l,hus with
  | [x,y,z],_=>exact⟨x,y,z,rfl⟩
 have BP:=hu 0 _ rfl;have BQ:Qu w1 (fun b=>X b∨b=W.heap.size) (PV.num a.num.natAbs) u1:=hu 1 _ rfl;have wJ:Qu w1 (fun b=>X b∨b=W.heap.size) (PV.num a.den) u2:=hu 2 _ rfl;have BP:Qu w1 (fun b=>X b∨b=W.heap.size) (.bool (decide (a.num<0))) u0:=BP;obtain⟨aq,cq,rfl⟩:=xx hq;obtain⟨a1,c1,rfl⟩:=xx BQ;obtain⟨a2,c2,rfl⟩:=xx wJ;obtain⟨ac,cc,rfl⟩:=xx hc;cases BP;dsimp only
 gi_wp2
 obtain⟨W2,uk⟩:∃W2,W2=(w1.alloc (.cells #[.bool (decide (a.num<0)),.slice a1 (ah a.num.natAbs).length c1,.slice a2 (ah a.den).length c2] 43)).alloc (.cells #[.slice aq q.length cq,.slice none 0 0] 34):=⟨_,rfl⟩
 have gC:=fD.size;simp only[World.size_alloc]at gC;have oh:Ext bT w1 W2:=by rw[uk];exact(Ext.ua _ _ _).trans (Ext.ua _ _ _)
 have fw:W2.heap.size=w1.heap.size+2:=by rw[uk];simp
 have hI0:Gg X (w1.heap.size+1) w1.heap.size W.heap.size (w1.heap.size+2) (.slice aq q.length cq) [.bool (decide (a.num<0)),.slice a1 (ah a.num.natAbs).length c1,.slice a2 (ah a.den).length c2] (ds.take 0) w1 W2:=by
  refine⟨oh,?_,?_,.slice none 0 0,[],?_,World.ownsRow_nil _ _ _ _,fun j h=>by simp at h⟩
  ·exact(oh.block _ (by omega) id).trans ((fD.block _ (by simp) id).trans (World.alloc_heap_new W _))
  ·rw[uk];exact(Below.heap_alloc _ _ _ (by simp)).trans (World.alloc_heap_new w1 _)
  ·rw[uk];have:=World.alloc_heap_new (w1.alloc (.cells #[.bool (decide (a.num<0)),.slice a1 (ah a.num.natAbs).length c1,.slice a2 (ah a.den).length c2] 43)) (.cells #[.slice aq q.length cq,.slice none 0 0] 34);simp only[World.size_alloc]at this;exact this
 rw[<-uk];clear uk;have kM:(cs.map PV.aj).length=cs.length:=by simp
 gi_loopw [20] (fun v wr=>∃i:Nat,v= .int .i64 (i:Nat)/\i<=cs.length/\Gg X (w1.heap.size+1) w1.heap.size W.heap.size (w1.heap.size+2) (.slice aq q.length cq) [.bool (decide (a.num<0)),.slice a1 (ah a.num.natAbs).length c1,.slice a2 (ah a.den).length c2] (ds.take i) w1 wr) (fun v _=>cs.length-(intOf v).toNat)
 case atStart=>exact⟨0,rfl,by omega,hI0⟩
 case round=>
  obtain⟨i,rfl,hi,hI⟩:=hrel;obtain⟨wo,hwo⟩:∃wo,wo=wr:=⟨_,rfl⟩
  subst hwo;obtain⟨vo,vs,hO,fX,Nm⟩:=hI.bx;have qV:=(Mi.trans fD).trans hI.ex;by_cases nv:i<cs.length
  ·have gL:Qu W X (.sl 1 (cs.map PV.aj)) (.slice ac (cs.map PV.aj).length cc):=hc;generalize hY:cs.map PV.aj=Y at gL;cases gL with
   |gT=>rw[List.map_eq_nil_iff]at hY;subst hY;simp at nv
   | sl _ _ b off cap eC yI hb hlc gA he hv oz=>
    subst hY;have cl:=hv i (by rw[kM];exact nv) 0 (by omega);have rl:=oz i (PV.aj cs[i]) (by rw[Kay,Kam nv];rfl) 0 _ rfl;generalize eC i 0=ui at cl rl;simp only[KbF,KaS]at cl;have cl2:wo.cell? ⟨b,off+i,none⟩=some ui:=(World.cell?_of_block (w:=W) (a:=⟨b,off+i,none⟩) (qV.block b hb id)).trans cl;have d1:(i:Int)<((cs.map PV.aj).length:Int):=by rw[kM];omega
    have d2:(0:Int)<=(i:Int):=by omega
    gi_wp2
    rename_i K0 hK0;have Wl:(ds.take i).length=i:=by rw[KaH];omega
    have hXw:∀x,X x->x<W.heap.size:=hX;obtain⟨i0,qb,z0,z1,z2⟩:=info_parts akP;have Bd:=(KaI.1 hO).1;have Mh:=(KaI.1 hI.ab).1;have uj:=(KaI.1 hI.rb).1;obtain⟨F4,uh⟩:∃F4:Value×World×Value×World->Prop,∀g,F4 g↔(∃a4 n4 c4,g.1= .slice a4 n4 c4)/\Ext bT wo g.2.1/\Qu g.2.1 (fun x=>X x∨x=w1.heap.size+1∨vo.ownBlock=some x∨x=W.heap.size∨x=w1.heap.size) (PV.aj (ds.getD i [])) g.1:=⟨_,fun _=>Iff.rfl⟩
    obtain⟨F6,jx⟩:∃F6:Value×World×Value×World->Prop,∀g,F6 g↔g.2.2.2.ownsRow (w1.heap.size+2) 32 1 g.2.2.1 (i+1) (vs++[g.1])/\(g.2.1.alloc (.cells #[g.1] 32)).grownBy g.2.2.2 vo.ownBlock/\(g.2.2.1.ownBlock=vo.ownBlock∨g.2.2.1.ownBlock=some (g.2.1.heap.size+1)):=⟨_,fun _=>Iff.rfl⟩
    refine Q9y (G:=Value×World×Value×World) ap6 52 (fun g j=>match j with|0=>.pointer (some ⟨w1.heap.size+1,1,none⟩)|1=>vo|2=>ui|3=>.agg #[.bool (decide (a.num<0)),.slice a1 (ah a.num.natAbs).length c1,.slice a2 (ah a.den).length c2]|4=>g.1|5=>.slice (some ⟨g.2.1.heap.size,0,none⟩) 1 1|6=>g.2.2.1|7=>.pointer (some ⟨w1.heap.size+1,1,none⟩)|_=>undef)
     [(0,vp),(1,.slice (some ⟨b,off,none⟩) cs.length cc),(2,undef),(3,undef),(4,.pointer (some ⟨W.heap.size,0,none⟩)),(5,.int .i64 0),(6,.slice aq q.length cq),(7,.pointer (some ⟨w1.heap.size,0,none⟩)),(8,.pointer (some ⟨w1.heap.size+1,0,none⟩)),(9,undef),(10,ui),(11,.tuple #[.slice aq q.length cq,.agg #[.bool (decide (a.num<0)),.slice a1 (ah a.num.natAbs).length c1,.slice a2 (ah a.den).length c2]]),(12,vp),(13,.tuple #[.slice aq q.length cq,.agg #[.bool (decide (a.num<0)),.slice a1 (ah a.num.natAbs).length c1,.slice a2 (ah a.den).length c2]]),(14,.slice aq q.length cq),(15,.agg #[.bool (decide (a.num<0)),.slice a1 (ah a.num.natAbs).length c1,.slice a2 (ah a.den).length c2]),(16,.slice aq q.length cq),(17,.agg #[.slice aq q.length cq,.slice none 0 0]),(18,.slice (some ⟨b,off,none⟩) cs.length cc),(19,.int .i64 (cs.length:Nat)),(20,.int .i64 i),(33,undef),(34,undef),(35,undef),(36,undef),(37,undef),(38,undef),(39,undef),(40,undef),(41,undef),(42,undef),(43,undef),(44,undef),(45,undef),(46,undef),(47,undef),(48,undef),(49,undef),(50,undef),(51,undef)]
     (fun g q w=>(q 8=true/\w=g.2.2.2.setCell ⟨w1.heap.size+1,1,none⟩ g.2.2.1/\F4 g/\F6 g)∨(q 8=false/\q 6=true/\w=g.2.2.2/\F4 g/\F6 g)∨(q 6=false/\q 5=true/\w=g.2.1.alloc (.cells #[g.1] 32)/\F4 g)∨(q 5=false/\q 4=true/\w=g.2.1/\F4 g)∨(q 4=false/\w=wo.drew)) (by decide) ?_ ?_ ?_
    ·exact⟨(undef,wo,undef,wo),rfl,rfl,by simp,fun _ _ _ h=>(by cases h),fun _ h=>(by cases h),.inr (.inr (.inr (.inr ⟨rfl,rfl⟩)))⟩
    ·rintro qs j hj hq dt a3 w3 ⟨g,hT⟩;have f7:=hT.fixed (7,.pointer (some ⟨w1.heap.size,0,none⟩)) (by simp);have f8:=hT.fixed (8,.pointer (some ⟨w1.heap.size+1,0,none⟩)) (by simp);have f10:=hT.fixed (10,ui) (by simp);simp only at f7 f8 f10;have vW:qs 6=false->Ext bT wo w3:=by
      intro h6;have h8:qs 8=false:=by
       cases h:qs 8 with
       |false=>rfl
       |true=>exact absurd (hT.cl 8 h 6 (by decide)) (by rw[h6];decide)
      rcases hT.wd with⟨h,_⟩|⟨_,h,_⟩|⟨_,_,h,hf⟩|⟨_,_,h,hf⟩|⟨_,h⟩
      ·rw[h8]at h;cases h
      ·rw[h6]at h;cases h
      ·rw[h];exact((uh g).1 hf).2.1.trans (Ext.ua _ _ _)
      ·rw[h];exact((uh g).1 hf).2.1
      ·rw[h];exact⟨rfl,rfl,rfl,Kac _,fun _ _ _=>rfl⟩
     match j,hj with
     |0,_=>refine mX.of (hT.val (w':=w3) dt (by rfl) rfl rfl rfl (fun c h=>by cases h) ?_ (by simpa using hT.wd));simp[execOp,go_sem,f8]
     |2,_=>refine mX.of (hT.val (w':=w3) dt (by rfl) rfl rfl rfl (fun c h=>by cases h) ?_ (by simpa using hT.wd));simp[execOp,go_sem,f10]
     |7,_=>refine mX.of (hT.val (w':=w3) dt (by rfl) rfl rfl rfl (fun c h=>by cases h) ?_ (by simpa using hT.wd));simp[execOp,go_sem,f8]
     | 1,_=>
      have h6:qs 6=false:=by
       cases h:qs 6 with
       |false=>rfl
       |true=>exact absurd (hT.cl 6 h 1 (by decide)) (by rw[hq];decide)
      have hO3:=((vW h6).block _ Bd id).trans hO;refine mX.of (hT.val (w':=w3) dt (by rfl) rfl rfl rfl (fun c h=>by cases h) ?_ (by simpa[h6]using hT.wd));have e24:a3.tmps[24]?.getD undef= .pointer (some ⟨w1.heap.size+1,1,none⟩):=hT.slot 0 _ 24 (dt 0 (by decide)) rfl rfl;simp[execOp,go_sem,e24,World.cell?,hO3]
     | 3,_=>
      have h6:qs 6=false:=by
       cases h:qs 6 with
       |false=>rfl
       |true=>exact absurd (hT.cl 4 (hT.cl 5 (hT.cl 6 h 5 (by decide)) 4 (by decide)) 3 (by decide)) (by rw[hq];decide)
      have hA3:=((vW h6).block _ Mh id).trans hI.ab;refine mX.of (hT.val (w':=w3) dt (by rfl) rfl rfl rfl (fun c h=>by cases h) ?_ (by simpa[h6]using hT.wd));simp[execOp,go_sem,f7,World.cell?,hA3]
     | 4,_=>
      have h5:qs 5=false:=by
       cases h:qs 5 with
       |false=>rfl
       |true=>exact absurd (hT.cl 5 h 4 (by decide)) (by rw[hq];decide)
      have h6:qs 6=false:=by
       cases h:qs 6 with
       |false=>rfl
       |true=>exact absurd (hT.cl 6 h 5 (by decide)) (by rw[h5];decide)
      have h8:qs 8=false:=by
       cases h:qs 8 with
       |false=>rfl
       |true=>exact absurd (hT.cl 8 h 6 (by decide)) (by rw[h6];decide)
      have hw:w3=wo.drew:=by
       rcases hT.wd with⟨h,_⟩|⟨_,h,_⟩|⟨_,h,_⟩|⟨_,h,_⟩|⟨_,h⟩
       ·rw[h8]at h;cases h
       ·rw[h6]at h;cases h
       ·rw[h5]at h;cases h
       ·rw[hq]at h;cases h
       ·exact h
      have e26:a3.tmps[26]?.getD undef=ui:=hT.slot 2 _ 26 (dt 2 (by decide)) rfl rfl;have e27:a3.tmps[27]?.getD undef= .agg #[.bool (decide (a.num<0)),.slice a1 (ah a.num.natAbs).length c1,.slice a2 (ah a.den).length c2]:=hT.slot 3 _ 27 (dt 3 (by decide)) rfl rfl;subst hw;have hED:Ext bT wo wo.drew:=⟨rfl,rfl,rfl,Kac _,fun _ _ _=>rfl⟩
      have fY:W.heap.size<=wo.heap.size:=qV.size;refine hT.amG dt rfl (by rfl) rfl rfl rfl rfl (vs:= #[ui,.agg #[.bool (decide (a.num<0)),.slice a1 (ah a.num.natAbs).length c1,.slice a2 (ah a.den).length c2]]) (by simp[Act.eval,e26,e27]) trivial (fun _ _=>rfl)
       (z7 (vZ i nv) rfl (fun x=>X x∨x=w1.heap.size+1∨vo.ownBlock=some x∨x=W.heap.size∨x=w1.heap.size) (fun x hx=>?_) (fun k x hx=>?_) 0) ?_
      ·show x<wo.heap.size;rcases hx with hx|rfl|hx|rfl|rfl
       ·exact KaO (hX x hx) fY
       ·exact Bd
       ·exact(fX.lt x hx).2
       ·exact uj
       ·exact Mh
      ·have ho:∀b,vo.ownBlock=some b->w1.heap.size+2<=b:=fun b h=>(fX.lt b h).1
       match k,hx with
       |0,hx=>
        simp at hx;subst hx;refine ba.mono (p:=PV.aj cs[i]) rl (fun b hb _=>qV.block b hb id) (fun b hb h h'=>?_) qV.size;rcases h' with h'|rfl|h'|rfl|rfl
        ·exact h h'
        ·omega
        ·have:=ho b h';omega
        ·omega
        ·omega
       | 1,hx=>
        simp at hx;subst hx;refine ba.mono (p:=PV.rat a) (w:=w1) (X:=fun b=>X b∨b=W.heap.size) ⟨_,rfl,rfl,fun k x hk=>?_⟩ (fun b hb _=>hI.ex.block b hb id) (fun b hb h h'=>?_) hI.ex.size
        ·match k,hk with
         |0,hk=>cases hk;exact .bool _
         |1,hk=>cases hk;simpa using BQ
         |2,hk=>cases hk;simpa using wJ
        ·rcases h' with h'|rfl|h'|rfl|rfl
         ·exact h (.inl h')
         ·omega
         ·have:=ho b h';omega
         ·exact h (.inr rfl)
         ·omega
       |k+2,hx=>simp at hx
      ·rintro e w' ⟨v,r,rfl,hE,cN,rfl⟩;refine⟨(v,w',g.2.2),rfl,fun j hj=>?_,.inr (.inr (.inr (.inl ⟨by simp[h5],by simp,rfl,(uh _).2 ⟨?_,hED.trans hE,cN⟩⟩)))⟩
       ·match j,hj with
        |0,_=>rfl
        |1,_=>rfl
        |2,_=>rfl
        |3,_=>rfl
        |4,h=>rw[hq]at h;cases h
        |5,h=>rw[h5]at h;cases h
        |6,h=>rfl
        |7,_=>rfl
        |j+8,_=>rfl
       ·obtain⟨x,c,h⟩:=xx cN;exact⟨x,_,c,h⟩
     | 5,_=>
      have h6:qs 6=false:=by
       cases h:qs 6 with
       |false=>rfl
       |true=>exact absurd (hT.cl 6 h 5 (by decide)) (by rw[hq];decide)
      have h4:qs 4=true:=dt 4 (by decide);have e28:a3.tmps[28]?.getD undef=g.1:=hT.slot 4 _ 28 h4 rfl rfl;have h8:qs 8=false:=by
       cases h:qs 8 with
       |false=>rfl
       |true=>exact absurd (hT.cl 8 h 6 (by decide)) (by rw[h6];decide)
      have hw:w3=g.2.1/\F4 g:=by
       rcases hT.wd with⟨h,_⟩|⟨_,h,_⟩|⟨_,h,_⟩|⟨_,_,h,hf⟩|⟨h,_⟩
       ·rw[h8]at h;cases h
       ·rw[h6]at h;cases h
       ·rw[hq]at h;cases h
       ·exact⟨h,hf⟩
       ·rw[h4]at h;cases h
      obtain⟨rfl,sJ⟩:=hw;refine mX.of (hT.val (w':=g.2.1.alloc (.cells #[g.1] 32)) dt (by rfl) rfl rfl rfl (fun c h=>by cases h) ?_ (.inr (.inr (.inl ⟨by simp[h6],by simp,rfl,sJ⟩))));obtain⟨a4,n4,c4,h1⟩:=((uh g).1 sJ).1;simp[execOp,go_sem,e28,h1]
     | 6,_=>
      have h5:qs 5=true:=dt 5 (by decide);have h4:qs 4=true:=hT.cl 5 h5 4 (by decide);have h8:qs 8=false:=by
       cases h:qs 8 with
       |false=>rfl
       |true=>exact absurd (hT.cl 8 h 6 (by decide)) (by rw[hq];decide)
      have e25:a3.tmps[25]?.getD undef=vo:=hT.slot 1 _ 25 (dt 1 (by decide)) rfl rfl;have e29:a3.tmps[29]?.getD undef= .slice (some ⟨g.2.1.heap.size,0,none⟩) 1 1:=hT.slot 5 _ 29 h5 rfl rfl;have hw:w3=g.2.1.alloc (.cells #[g.1] 32)/\F4 g:=by
       rcases hT.wd with⟨h,_⟩|⟨_,h,_⟩|⟨_,_,h,hf⟩|⟨h,_⟩|⟨h,_⟩
       ·rw[h8]at h;cases h
       ·rw[hq]at h;cases h
       ·exact⟨h,hf⟩
       ·rw[h5]at h;cases h
       ·rw[h4]at h;cases h
      obtain⟨rfl,sJ⟩:=hw;have f4:=(uh g).1 sJ;obtain⟨a4,n4,c4,h1⟩:=f4.1;have apq:(g.2.1.alloc (.cells #[g.1] 32)).ownsRow (w1.heap.size+2) 32 1 vo i vs:=by rw[Wl]at fX;exact(fX.kept (row:=none) ⟨f4.2.1.os,f4.2.1.tape,f4.2.1.output,f4.2.1.size,fun k hk _=>f4.2.1.block k hk id⟩ (by cases vo.ownBlock<;>simp)).alloc _
      obtain⟨v',w',bp,wD,hg',_,aw⟩:=run_append_own_at (P:=Tryz.prog) (w:=g.2.1.alloc (.cells #[g.1] 32)) (w1.heap.size+2) 22 22 32 i0 (.slice none 0 0) 1 24 (by kernel_rfl) qb z0 z1 z2 rfl (by omega) vo i vs apq
       ⟨g.2.1.heap.size,0,none⟩ 1 1 [g.1] rfl (fun j u hj=>by
        match j,hj with
        |0,hj=>simp at hj;subst hj;have hn:=World.alloc_heap_new g.2.1 (.cells #[g.1] 32);rw[KbA];simp only[World.cell?,hn];rfl
        |j+1,hj=>simp at hj) (fun u hu=>by simp at hu;subst hu;rw[h1];rfl) (by simp only[maxLen];omega) (by omega) (by have:=hI.ex.size;have:=f4.2.1.size;simp;omega)
      have v3:iH _ _ ((fun(g:Value×World×Value×World) (j:Nat)=>match j with|0=>.pointer (some ⟨w1.heap.size+1,1,none⟩)|1=>vo|2=>ui|3=>.agg #[.bool (decide (a.num<0)),.slice a1 (ah a.num.natAbs).length c1,.slice a2 (ah a.den).length c2]|4=>g.1|5=>.slice (some ⟨g.2.1.heap.size,0,none⟩) 1 1|6=>g.2.2.1|7=>.pointer (some ⟨w1.heap.size+1,1,none⟩)|_=>undef) (g.1,g.2.1,v',w')) _ (fun k w=>k 6=false∨(k 8=false/\k 6=true/\w=w'/\F4 (g.1,g.2.1,v',w')/\F6 (g.1,g.2.1,v',w'))) qs a3 (g.2.1.alloc (.cells #[g.1] 32)):=
       ⟨hT.d0,hT.sz,hT.fixed,fun j o d hj ho hd=>(hT.slot j o d hj ho hd).trans (by
        match j,hj with
        |6,h=>rw[hq]at h;cases h
        |0,_=>rfl
        |1,_=>rfl
        |2,_=>rfl
        |3,_=>rfl
        |4,_=>rfl
        |5,_=>rfl
        |7,_=>rfl
        |j+8,_=>rfl),hT.cl,.inl hq⟩
      refine wpOpIn_mono ?_ (v3.app (w':=w') dt (by rfl) rfl rfl rfl (v:=vo) (u:=.slice (some ⟨g.2.1.heap.size,0,none⟩) 1 1) (by simp[Act.eval,e25]) (by simp[Act.eval,e29]) bp (.inr ⟨by simp[h8],by simp,rfl,(uh _).2 f4,(jx _).2 ⟨wD,hg',by simpa using aw⟩⟩));intro a5 w5 h;refine⟨(g.1,g.2.1,v',w'),h.d0,h.sz,h.fixed,h.slot,h.cl,?_⟩;rcases h.wd with h|h
      ·simp at h
      ·exact .inr (.inl h)
     | 8,_=>
      have h6:qs 6=true:=dt 6 (by decide);have e30:a3.tmps[30]?.getD undef=g.2.2.1:=hT.slot 6 _ 30 h6 rfl rfl;have e31:a3.tmps[31]?.getD undef= .pointer (some ⟨w1.heap.size+1,1,none⟩):=hT.slot 7 _ 31 (dt 7 (by decide)) rfl rfl;have hw:w3=g.2.2.2/\F4 g/\F6 g:=by
       rcases hT.wd with⟨h,_⟩|⟨_,_,h,hf⟩|⟨h,_⟩|⟨h,_⟩|⟨h,_⟩
       ·rw[hq]at h;cases h
       ·exact⟨h,hf⟩
       ·rw[h6]at h;cases h
       ·exact absurd (hT.cl 6 h6 5 (by decide)) (by rw[h];decide)
       ·exact absurd (hT.cl 5 (hT.cl 6 h6 5 (by decide)) 4 (by decide)) (by rw[h];decide)
      obtain⟨rfl,sJ,Ft⟩:=hw;have f4:=(uh g).1 sJ;have f6:=(jx g).1 Ft;have hO2:g.2.2.2.heap[w1.heap.size+1]? =some (.cells #[.slice aq q.length cq,vo] 34 (0,0)):=by have gB:=KaO Bd f4.2.1.size;refine(f6.2.1.block _ (by simp;omega) (fun h=>?_)).trans ((Below.heap_alloc _ _ _ gB).trans ((f4.2.1.block _ Bd id).trans hO));have:=(fX.lt _ h.symm).1;omega
      refine mX.of (hT.sto (w':=g.2.2.2.setCell ⟨w1.heap.size+1,1,none⟩ g.2.2.1) dt (by rfl) rfl rfl rfl (fun c h=>by cases h) ?_ (.inl ⟨by simp,rfl,sJ,Ft⟩));obtain⟨gb,gc,pT⟩:∃gb gc,g.2.2.1= .slice (some ⟨gb,0,none⟩) (i+1) gc:=by
       rcases f6.1.2 with⟨_,h⟩|⟨gb,gc,_,h,_⟩
       ·omega
       ·exact⟨gb,gc,h⟩
      simp[execOp,go_sem,e30,e31,pT,storeCells,World.cell?,World.frozen?,hO2]
     |j+9,hj=>exact absurd hj (by simp)
    ·rintro qs a3 w3 hq ⟨g,hT⟩;refine hK0 a3 w3 ?_;have q8:qs 8=true:=hq 8 (by simp);have hw:w3=g.2.2.2.setCell ⟨w1.heap.size+1,1,none⟩ g.2.2.1/\F4 g/\F6 g:=by
      rcases hT.wd with⟨_,h⟩|⟨h,_⟩|⟨h,_⟩|⟨h,_⟩|⟨h,_⟩
      ·exact h
      ·rw[q8]at h;cases h
      ·rw[hq 6 (by simp)]at h;cases h
      ·rw[hq 5 (by simp)]at h;cases h
      ·rw[hq 4 (by simp)]at h;cases h
     obtain⟨rfl,sJ,Ft⟩:=hw;have f4:=(uh g).1 sJ;have f6:=(jx g).1 Ft;have Mn:Gg X (w1.heap.size+1) w1.heap.size W.heap.size (w1.heap.size+2) (.slice aq q.length cq) [.bool (decide (a.num<0)),.slice a1 (ah a.num.natAbs).length c1,.slice a2 (ah a.den).length c2] (ds.take (i+1)) w1 (g.2.2.2.setCell ⟨w1.heap.size+1,1,none⟩ g.2.2.1):=by
      have Wn:(ds.take (i+1)).length=i+1:=by rw[KaH];omega
      have sz1:=f4.2.1.size;have sz2:=f6.2.1.size;simp only[World.size_alloc]at sz2;have Xj:∀k,k<wo.heap.size->vo.ownBlock≠some k->g.2.2.2.heap[k]? =wo.heap[k]? :=fun k hk hv=>by have ny:=KaO hk sz1;exact(f6.2.1.block k (by simp;omega) (fun h=>hv h.symm)).trans ((Below.heap_alloc _ _ _ ny).trans (f4.2.1.block k hk id))
      have FK:∀k,k<wo.heap.size->vo.ownBlock≠some k->k≠w1.heap.size+1->(g.2.2.2.setCell ⟨w1.heap.size+1,1,none⟩ g.2.2.1).heap[k]? =wo.heap[k]? :=fun k hk hv aO=>(Below.heap_setCell _ _ _ k aO).trans (Xj k hk hv);have ho:∀b,vo.ownBlock=some b->w1.heap.size+2<=b/\b<wo.heap.size:=fun b h=>fX.lt b h;have rk:∀k,k<w1.heap.size+2->vo.ownBlock≠some k:=fun k hk h=>by have:=(ho k h).1;omega
      have N2:(g.2.2.2.setCell ⟨w1.heap.size+1,1,none⟩ g.2.2.1).heap.size=g.2.2.2.heap.size:=by simp
      have VP:=(Xj _ Bd (rk _ (by omega))).trans hO;have iez:=hI.ex.size;refine⟨⟨?_,?_,?_,by rw[N2];omega,fun k hk _=>?_⟩,?_,?_,g.2.2.1,vs++[g.1],?_,?_,?_⟩
      ·exact f6.2.1.os.trans (f4.2.1.os.trans hI.ex.os)
      ·exact f6.2.1.tape.trans (f4.2.1.tape.trans hI.ex.tape)
      ·exact f6.2.1.output.trans (f4.2.1.output.trans hI.ex.output)
      ·exact(FK k (by omega) (rk k (by omega)) (by omega)).trans (hI.ex.block k hk id)
      ·exact(FK _ uj (rk _ (by omega)) (by omega)).trans hI.rb
      ·exact(FK _ Mh (rk _ (by omega)) (by omega)).trans hI.ab
      ·have ar:=(KaI.1 VP).1;have h':g.2.2.2.heap[w1.heap.size+1]= .cells #[.slice aq q.length cq,vo] 34 (0,0):=by simpa[Kbg ar]using VP
       show(g.2.2.2.heap.modify (w1.heap.size+1) _)[w1.heap.size+1]? =_;rw[Kbg (by simpa using ar),Array.getElem_modify_self,h'];rfl
      ·rw[Wn];exact ownsRow_setCell_below f6.1 (by simp) _
      ·intro j hj;rw[Wn]at hj;have o0:∀b,g.2.2.1.ownBlock=some b->vo.ownBlock=some b∨b=g.2.1.heap.size+1:=fun b hb=>by
        rcases f6.2.2 with h|h
        ·exact .inl (h.symm.trans hb)
        ·rw[hb]at h;cases h;exact .inr rfl
       have kt:vs.length=i:=by have:=fX.1;rw[Wl]at this;omega
       by_cases dW:j<i
       ·have e1:(vs++[g.1]).getD j undef=vs.getD j undef:=by simp[List.getD,Kb7 (show j<vs.length by omega)]
        have e2:(ds.take (i+1))[j]'(by omega)=(ds.take i)[j]'(by omega):=by simp
        rw[e1,e2];refine Qu.mono (Nm j (by omega)) (fun b hb h=>FK b hb (fun h'=>h (.inr (.inr (.inl h')))) (fun h'=>h (.inr (.inl h')))) (fun b hb h h'=>?_) (by rw[N2];omega);rcases h' with h'|h'|h'|h'|h'
        ·exact h (.inl h')
        ·exact h (.inr (.inl h'))
        ·rcases o0 b h' with h'|h'
         ·exact h (.inr (.inr (.inl h')))
         ·omega
        ·exact h (.inr (.inr (.inr (.inl h'))))
        ·exact h (.inr (.inr (.inr (.inr h'))))
       ·obtain rfl:j=i:=by omega
        have e1:(vs++[g.1]).getD j undef=g.1:=by simp[List.getD,<-kt]
        have e2:(ds.take (j+1))[j]'(by omega)=ds.getD j []:=by simp[List.getD,Kam (show j<ds.length by omega)]
        rw[e1,e2];refine Qu.mono f4.2.2 (fun b hb h=>?_) (fun b hb h h'=>?_) (by rw[N2];omega)
        ·exact(Below.heap_setCell _ _ _ b (fun h'=>h (.inr (.inl h')))).trans ((f6.2.1.block b (by simp;omega) (fun h'=>h (.inr (.inr (.inl h'.symm))))).trans (Below.heap_alloc _ _ _ hb))
        ·rcases h' with h'|h'|h'|h'|h'
         ·exact h (.inl h')
         ·exact h (.inr (.inl h'))
         ·rcases o0 b h' with h'|h'
          ·exact h (.inr (.inr (.inl h')))
          ·omega
         ·exact h (.inr (.inr (.inr (.inl h'))))
         ·exact h (.inr (.inr (.inr (.inr h'))))
     obtain⟨y,hy⟩:∃y:Nat->Value,a3.tmps= #[vp,.slice (some ⟨b,off,none⟩) cs.length cc,undef,undef,.pointer (some ⟨W.heap.size,0,none⟩),.int .i64 0,.slice aq q.length cq,.pointer (some ⟨w1.heap.size,0,none⟩),.pointer (some ⟨w1.heap.size+1,0,none⟩),undef,y 10,.tuple #[.slice aq q.length cq,.agg #[.bool (decide (a.num<0)),.slice a1 (ah a.num.natAbs).length c1,.slice a2 (ah a.den).length c2]],vp,.tuple #[.slice aq q.length cq,.agg #[.bool (decide (a.num<0)),.slice a1 (ah a.num.natAbs).length c1,.slice a2 (ah a.den).length c2]],.slice aq q.length cq,.agg #[.bool (decide (a.num<0)),.slice a1 (ah a.num.natAbs).length c1,.slice a2 (ah a.den).length c2],.slice aq q.length cq,.agg #[.slice aq q.length cq,.slice none 0 0],.slice (some ⟨b,off,none⟩) cs.length cc,.int .i64 (cs.length:Nat),.int .i64 i,y 21,y 22,y 23,y 24,y 25,y 26,y 27,y 28,y 29,y 30,y 31,y 32,undef,undef,undef,undef,undef,undef,undef,undef,undef,undef,undef,undef,undef,undef,undef,undef,undef,undef,undef]:=by
      refine⟨fun k=>a3.tmps[k]?.getD undef,Array.ext (by simp[hT.sz]) (fun k hk ny=>?_)⟩;have e:a3.tmps[k]=a3.tmps[k]?.getD undef:=by simp[hk]
      rw[e];have hk3:k<52:=by rw[<-hT.sz];exact hk
      match k,hk3 with
      |0,_=>exact hT.fixed (0,_) (by simp)
      |1,_=>exact hT.fixed (1,_) (by simp)
      |2,_=>exact hT.fixed (2,_) (by simp)
      |3,_=>exact hT.fixed (3,_) (by simp)
      |4,_=>exact hT.fixed (4,_) (by simp)
      |5,_=>exact hT.fixed (5,_) (by simp)
      |6,_=>exact hT.fixed (6,_) (by simp)
      |7,_=>exact hT.fixed (7,_) (by simp)
      |8,_=>exact hT.fixed (8,_) (by simp)
      |9,_=>exact hT.fixed (9,_) (by simp)
      |10,_=>rfl
      |11,_=>exact hT.fixed (11,_) (by simp)
      |12,_=>exact hT.fixed (12,_) (by simp)
      |13,_=>exact hT.fixed (13,_) (by simp)
      |14,_=>exact hT.fixed (14,_) (by simp)
      |15,_=>exact hT.fixed (15,_) (by simp)
      |16,_=>exact hT.fixed (16,_) (by simp)
      |17,_=>exact hT.fixed (17,_) (by simp)
      |18,_=>exact hT.fixed (18,_) (by simp)
      |19,_=>exact hT.fixed (19,_) (by simp)
      |20,_=>exact hT.fixed (20,_) (by simp)
      |21,_=>rfl
      |22,_=>rfl
      |23,_=>rfl
      |24,_=>rfl
      |25,_=>rfl
      |26,_=>rfl
      |27,_=>rfl
      |28,_=>rfl
      |29,_=>rfl
      |30,_=>rfl
      |31,_=>rfl
      |32,_=>rfl
      |33,_=>exact hT.fixed (33,_) (by simp)
      |34,_=>exact hT.fixed (34,_) (by simp)
      |35,_=>exact hT.fixed (35,_) (by simp)
      |36,_=>exact hT.fixed (36,_) (by simp)
      |37,_=>exact hT.fixed (37,_) (by simp)
      |38,_=>exact hT.fixed (38,_) (by simp)
      |39,_=>exact hT.fixed (39,_) (by simp)
      |40,_=>exact hT.fixed (40,_) (by simp)
      |41,_=>exact hT.fixed (41,_) (by simp)
      |42,_=>exact hT.fixed (42,_) (by simp)
      |43,_=>exact hT.fixed (43,_) (by simp)
      |44,_=>exact hT.fixed (44,_) (by simp)
      |45,_=>exact hT.fixed (45,_) (by simp)
      |46,_=>exact hT.fixed (46,_) (by simp)
      |47,_=>exact hT.fixed (47,_) (by simp)
      |48,_=>exact hT.fixed (48,_) (by simp)
      |49,_=>exact hT.fixed (49,_) (by simp)
      |50,_=>exact hT.fixed (50,_) (by simp)
      |51,_=>exact hT.fixed (51,_) (by simp)
      |k+52,h=>exact absurd h (by omega)
     have jL:=hT.d0;clear hT;rcases a3 with⟨tm,df⟩
     simp only at hy jL;subst hy jL
     gi_wp2
     have an2:((i+1:Nat):Int)=(i:Int)+1:=by simp
     refine⟨⟨y 10,.int .i64 ((i:Int)+1),y 21,y 22,y 23,y 24,y 25,y 26,y 27,y 28,y 29,y 30,y 31,.int .i64 ((i:Int)+1),⟨i+1,by rw[an2],by omega,Mn⟩,by simp⟩,?_⟩;simp[intOf];omega
  ·have hic:i=cs.length:=by omega
   have d1:¬((i:Int)<((cs.map PV.aj).length:Int)):=by rw[kM];omega
   gi_wp2
   refine⟨trivial,qX _,(z7 sC rfl X (fun b hb=>KaO (hX b hb) qV.size) (fun k x hx=>?_) _).mono ?_⟩
   ·match k,hx with
    |0,hx=>simp at hx;subst hx;exact ba.mono (p:=PV.aj q) (w:=w1) (X:=fun b=>X b∨b=W.heap.size) (show Qu w1 _ (PV.aj q) _ by simpa using hq) (fun b hb _=>hI.ex.block b hb id) (fun b hb h h'=>h (.inl h')) hI.ex.size
    |k+1,hx=>simp at hx
   rintro e w4 ⟨v,r,rfl,om,cN,rfl⟩;cases cN;cases b1 with
   |true=>
    obtain⟨z1,z2,z3,z4,z5,z6⟩:=HU (((om).block _ (KaI.1 hI.rb).1 id).trans hI.rb);have BX:=IP (qV.trans (om)) (Kac _) (.slice none 0 0) (.slice none 0 0)
    gi_wp2
    refine⟨trivial,?_⟩
    gi_wp2
    refine bodyPost_ret (CD rfl _ _ W.heap.size _ _ _ _ rfl z6 Tryz.underlying34 rfl (by kernel_rfl)) rfl ⟨_,rfl,BX,?_⟩;simp only[oJ,Kdb,KcN,Bool.or_false,Kcn,if_true,KaJ,if_false,Kdk];exact IQ
   |false=>
   have cO:w4.cell? ⟨w1.heap.size+1,1,none⟩=some vo:=by have hO4:=(om.block _ (KaI.1 hO).1 id).trans hO;simp only[World.cell?,hO4];rfl
   gi_wp2
   have hdt:ds.take i=ds:=Kae (by omega);have VY:∀b,X b->b<w4.heap.size:=fun b hb=>KaO (KaO (hX b hb) qV.size) om.size;have W6:Qu wo (fun b=>X b∨b=W.heap.size) (PV.ch ds) vo:=by
    rw[hdt]at fX Nm;refine afq fX (by simp) (fun b hb h=>?_) (fun p hp=>by obtain⟨y,_,rfl⟩:=KaE.1 hp;rfl) (fun j hj=>?_)
    ·have We:=(fX.lt b hb).1;rcases h with h|h
     ·have:=hX b h;omega
     ·omega
    ·have wh:j<ds.length:=by simpa using hj
     have hh:=Nm j wh;rw[KcC];exact hh.mono (fun _ _ _=>rfl) (fun b _ hn hm=>hm.elim (fun h=>hn (.inl h)) (fun h=>hn (.inr (.inr (.inr (.inl h)))))) (Kac _)
   have W8:Qu w4 (fun b=>X b∨b=W.heap.size) (PV.ch ds) vo:=W6.mono (fun b hb _=>om.block b hb id) (fun _ _ h=>h) om.size;refine⟨trivial,qX _,(z7 A' rfl X VY (fun k x hx=>?_) _).mono ?_⟩
   ·match k,hx with
    |0,hx=>simp at hx;subst hx;exact ba.mono (p:=PV.ch ds) W8 (fun _ _ _=>rfl) (fun b _ h h'=>h (.inl h')) (Kac _)
    |1,hx=>simp at hx;subst hx;exact .fn _ [] [] #[] #[] rfl rfl (fun k x h=>by simp at h) (fun k x h=>by simp at h)
    |k+2,hx=>simp at hx
   rintro e w5 ⟨v,r,rfl,qU,cN,rfl⟩;cases cN;cases b2 with
   |true=>
    obtain⟨z1,z2,z3,z4,z5,z6⟩:=HU (((om.trans qU).block _ (KaI.1 hI.rb).1 id).trans hI.rb);have BX:=IP (qV.trans (om.trans qU)) (Kac _) (.slice none 0 0) (.slice none 0 0)
    gi_wp2
    refine bodyPost_ret (CD rfl _ _ W.heap.size _ _ _ _ rfl z6 Tryz.underlying34 rfl (by kernel_rfl)) rfl ⟨_,rfl,BX,?_⟩;simp only[oJ,Kdb,KcN,Bool.or_false,Kcn,if_true,KaJ,if_false,Kdk];exact IQ
   |false=>
   refine(Kc3 q.length).elim (fun iL=> ?qz) (fun iL=> ?qp)
   case' qz=>
    have d2:¬(0:Int)<(q.length:Int):=by omega
    obtain⟨w6,Xq⟩:∃w6,w6=w5:=⟨_,rfl⟩
    have vW:Ext bT w5 w6:=Xq▸Ext.refl _ _;have dz:oJ false false b3 q ds= .au [.agg [PV.aj q,PV.ch ds],.int .i64 0]:=by simp[oJ,iL]
    subst Xq;clear iL
    gi_wp2
    refine⟨trivial,?_⟩
   case' qp=>
    have d2:(0:Int)<(q.length:Int):=by omega
    gi_wp2
    refine⟨trivial,qX _,(z7 Ba rfl X (fun b hb=>KaO (VY b hb) qU.size) (fun k x hx=>?_) _).mono ?_⟩
    ·match k,hx with
     |0,hx=>simp at hx;subst hx;exact ba.mono (p:=PV.aj q) (w:=w1) (X:=fun b=>X b∨b=W.heap.size) (show Qu w1 _ (PV.aj q) _ by simpa using hq) (fun b hb _=>((hI.ex.trans om).trans qU).block b hb id) (fun b hb h h'=>h (.inl h')) ((hI.ex.trans om).trans qU).size
     |k+1,hx=>simp at hx
    rintro e w6 ⟨v,r,rfl,vW,cN,rfl⟩;cases cN;have dz:b3=false->oJ false false b3 q ds= .au [.agg [PV.aj q,PV.ch ds],.int .i64 0]:=fun h=>by simp[oJ,h]
    cases b3
    rotate_left
    ·obtain⟨z1,z2,z3,z4,z5,z6⟩:=HU ((((om.trans qU).trans vW).block _ (KaI.1 hI.rb).1 id).trans hI.rb);have BX:=IP (qV.trans ((om.trans qU).trans vW)) (Kac _) (.slice none 0 0) (.slice none 0 0)
     gi_wp2
     refine bodyPost_ret (CD rfl _ _ W.heap.size _ _ _ _ rfl z6 Tryz.underlying34 rfl (by kernel_rfl)) rfl ⟨_,rfl,BX,?_⟩;simp only[oJ,Kdb,KcN,Bool.or_false,Kcn,if_true,KaJ,if_false,Kdk,decide_eq_true iL];exact IQ
    replace dz:=dz rfl
   all_goals
    have sB:=(om.trans qU).trans vW;have VQ:=(sB.block _ (KaI.1 hO).1 id).trans hO;have Fe:=(sB.block _ (KaI.1 hI.rb).1 id).trans hI.rb;have cO1:w6.cell? ⟨w1.heap.size+1,0,none⟩=some (.slice aq q.length cq):=by simp only[World.cell?,VQ];rfl
    have cO2:w6.cell? ⟨w1.heap.size+1,1,none⟩=some vo:=by simp only[World.cell?,VQ];rfl
    have cR1:w6.cell? ⟨W.heap.size,0,none⟩=some (.slice none 0 0):=by simp only[World.cell?,Fe];rfl
    have cR2:w6.cell? ⟨W.heap.size,1,none⟩=some (.slice none 0 0):=by simp only[World.cell?,Fe];rfl
    have Mv:=heap_setCell_same w6 W.heap.size 0 _ _ (.slice aq q.length cq) Fe;have cR3:(w6.setCell ⟨W.heap.size,0,none⟩ (.slice aq q.length cq)).cell? ⟨W.heap.size,1,none⟩=some (.slice none 0 0):=by simp only[World.cell?,Mv];rfl
    have fR1:w6.frozen? ⟨W.heap.size,0,none⟩=false:=by simp only[World.frozen?,Fe];rfl
    have fR2:(w6.setCell ⟨W.heap.size,0,none⟩ (.slice aq q.length cq)).frozen? ⟨W.heap.size,1,none⟩=false:=by simp only[World.frozen?,Mv];rfl
    have VR:=heap_setCell_same (w6.setCell ⟨W.heap.size,0,none⟩ (.slice aq q.length cq)) W.heap.size 1 _ _ vo Mv;obtain⟨ao,co,rfl⟩:=xx W8;have fq:(ds.map PV.aj).length=cs.length:=by rw[KaV,hlen]
    rw[fq]at VR
    gi_wp2
    have anb:=(qV.trans sB)
    have hEs:Ext bT W ((w6.setCell ⟨W.heap.size,0,none⟩ (.slice aq q.length cq)).setCell ⟨W.heap.size,1,none⟩ (.slice ao cs.length co)):=by have e1:=Ext.setCell (Y:=fun b=>b=W.heap.size) w6 ⟨W.heap.size,0,none⟩ (.slice aq q.length cq) rfl;have e2:=Ext.setCell (Y:=fun b=>b=W.heap.size) (w6.setCell ⟨W.heap.size,0,none⟩ (.slice aq q.length cq)) ⟨W.heap.size,1,none⟩ (.slice ao cs.length co) rfl;exact(anb.trans' e1 (fun i hi h=>by omega)).trans' e2 (fun i hi h=>by omega)
    have EY:Ext (fun b=>b=W.heap.size) w6 ((w6.setCell ⟨W.heap.size,0,none⟩ (.slice aq q.length cq)).setCell ⟨W.heap.size,1,none⟩ (.slice ao cs.length co)):=
     (Ext.setCell (Y:=fun b=>b=W.heap.size) w6 ⟨W.heap.size,0,none⟩ (.slice aq q.length cq) rfl).trans (Ext.setCell (Y:=fun b=>b=W.heap.size) _ ⟨W.heap.size,1,none⟩ (.slice ao cs.length co) rfl)
    refine bodyPost_ret (CD rfl _ _ W.heap.size _ _ _ _ rfl VR Tryz.underlying34 rfl (by kernel_rfl)) rfl ⟨_,rfl,hEs,?_⟩;rw[dz];refine⟨_,rfl,rfl,fun k x hk=>?_⟩
    match k,hk with
    | 0,hk=>
     cases hk;refine⟨_,rfl,rfl,fun k x hk=>?_⟩
     match k,hk with
     |0,hk=>
      cases hk;refine Qu.mono (w:=w1) (X:=fun b=>X b∨b=W.heap.size) (show Qu w1 _ (PV.aj q) (.slice aq q.length cq)by simpa using hq) (fun b hb hn=>?_) (fun b _ h h'=>h (.inl h')) ?_
      ·exact(EY.block b (KaO hb ((hI.ex.trans sB).size)) (fun h=>hn (.inr h))).trans ((hI.ex.trans sB).block b hb id)
      ·exact Kaw (hI.ex.trans sB).size EY.size
     |1,hk=>
      cases hk;refine Qu.mono (w:=wo) (X:=fun b=>X b∨b=W.heap.size) (by simpa[hlen]using W6) (fun b hb hn=>?_) (fun b _ h h'=>h (.inl h')) ?_
      ·exact(EY.block b (KaO hb sB.size) (fun h=>hn (.inr h))).trans (sB.block b hb id)
      ·exact Kaw sB.size EY.size
     |k+2,hk=>simp at hk
    |1,hk=>cases hk;exact .int _ _
    |k+2,hk=>simp at hk
theorem SL{p q:List Tm}{cs ds:List (List Tm)}{a:Rat}{b1 b2 b3:Bool}(hlen:ds.length=cs.length)(hl:cs.length<=100)
  (vY:Qc Tryz.prog 120 [PV.aj p] (· = .au [PV.aj q,PV.rat a])) (vZ:∀i (h:i<cs.length),Qc Tryz.prog 121 [PV.aj cs[i],PV.rat a] (· =PV.aj (ds.getD i [])))
  (sC:Qc Tryz.prog 61 [PV.aj q] (· = .bool b1))
  (A':Qc Tryz.prog 122 [PV.ch ds,.fn 61 [] []] (· = .bool b2)) (Ba:Qc Tryz.prog 123 [PV.aj q] (· = .bool b3)):
  Qc Tryz.prog 66 [PV.aj p,PV.ch cs] (· =oJ b1 b2 b3 q ds):=by
 refine⟨by unfold oQ;kernel_rfl,fun w X bo hX hs hr=>?_⟩;obtain⟨v0,v1,rfl⟩:∃v0 v1,bo= #[v0,v1]:=by
  obtain⟨l⟩:=bo
  match l,hs with
  | [x,y],_=>exact⟨x,y,rfl⟩
 refine(callsIn_wide.1 (Q8g hlen hl X hX (hr 0 _ rfl) (hr 1 _ rfl) vY vZ sC A' Ba 0)).mono ?_;rintro e w' ⟨v,rfl,h1,h2⟩;exact⟨v,_,rfl,h1,h2,rfl⟩
theorem YW{p q:List Tm}{cs ds:List (List Tm)}{a:Rat}(hlen:ds.length=cs.length)(hl:cs.length<=100)
  (vY:Qc Tryz.prog 120 [PV.aj p] (· = .au [PV.aj q,PV.rat a])) (vZ:∀i (h:i<cs.length),Qc Tryz.prog 121 [PV.aj cs[i],PV.rat a] (· =PV.aj (ds.getD i [])))
  (sC:Qc Tryz.prog 61 [PV.aj q] (· = .bool false)) (aqE:0<q.length)
  (A':Qc Tryz.prog 122 [PV.ch ds,.fn 61 [] []] (· = .bool false)) (Ba:Qc Tryz.prog 123 [PV.aj q] (· = .bool false)):
  Qc Tryz.prog 66 [PV.aj p,PV.ch cs] (· = .au [.agg [PV.aj q,PV.ch ds],.int .i64 0]):=by
 have h:=SL hlen hl vY vZ sC A' Ba;simpa[oJ]using h
end Go.Proofs.YtdjoomkeehihmaaGreat
namespace Go.Proofs.YtdjoomkeehihmaaGreat
open Go Go.FW Go.RowKit Go.Shelf Go.Maps
theorem C9{w:World}{X:Nat->Prop}{e:Nat}{xs:List PV}{v:Value}(h:Qu w X (.sl e xs) v):∃a c,v= .slice a xs.length c:=by
 generalize hY:PV.sl e xs=Y at h;cases h with
 |gT _ a cap=>cases hY;exact⟨_,_,rfl⟩
 |sl _ _ b off cap=>cases hY;exact⟨_,_,rfl⟩
 |_=>cases hY
abbrev aC:=List Tm×List (List Tm)
abbrev PV.em(x:aC):PV:=.agg [PV.aj x.1,PV.ch x.2]
abbrev PV.ct(l:List aC):PV:=.sl 2 (l.map PV.em)
abbrev pk:Value:=.agg #[.slice none 0 0,.slice none 0 0]
def RZ(v:Value):Option (DataW Value×List MemPlace):=some (.held v,[])
theorem NB:Keyed Tryz.prog 3:=int_keyed Tryz.underlying3
def uR(W:World)(X:Nat->Prop):Option aC->Value->Prop
 |none,v=>v=pk
 |some e,v=>∃u1 u2,v= .agg #[u1,u2]/\Qu W X (PV.aj e.1) u1/\Qu W X (PV.ch e.2) u2
theorem uR.mono{w w':World}{X X':Nat->Prop}{p:Option aC}{v:Value}(h:uR w X p v)
  (hb:∀b,b<w.heap.size->¬X b->w'.heap[b]? =w.heap[b]?) (hx:∀b,b<w.heap.size->¬X b->¬X' b) (hs:w.heap.size<=w'.heap.size):uR w' X' p v:=by
 cases p with
 |none=>exact h
 |some e=>obtain⟨u1,u2,rfl,h1,h2⟩:=h;exact⟨u1,u2,rfl,h1.mono hb hx hs,h2.mono hb hx hs⟩
inductive js(v:Nat):List aC->List aC->Option aC->Nat->Prop
 |none (L:List aC) (at_:Int):Qc Tryz.prog 28 [PV.ct L,.int .i64 v] (· = .au [.int .i64 at_,.int .i64 0])->js v L L none 0
 |one (L:List aC) (i:Nat) (h:i<L.length):Qc Tryz.prog 28 [PV.ct L,.int .i64 v] (· = .au [.int .i64 i,.int .i64 1])->js v L L (some L[i]) 0
 | more (L L1 L2:List aC) (at_ n:Int) (k:Option aC) (m:Nat):Qc Tryz.prog 28 [PV.ct L,.int .i64 v] (· = .au [.int .i64 at_,.int .i64 n])->2<=n->
   Qc Tryz.prog 29 [PV.ct L,.int .i64 at_,.int .i64 v] (· = .au [PV.ct L1,.int .i64 0])->js v L1 L2 k m->js v L L2 k (m+1)
inductive nY(v:Nat)(e:Int):List aC->Nat->Prop
 | fail (L:List aC) (at_ n:Int):Qc Tryz.prog 28 [PV.ct L,.int .i64 v] (· = .au [.int .i64 at_,.int .i64 n])->2<=n->e≠0->
   Qc Tryz.prog 29 [PV.ct L,.int .i64 at_,.int .i64 v] (· = .au [PV.ct [],.int .i64 e])->nY v e L 0
 | more (L L1:List aC) (at_ n:Int) (m:Nat):Qc Tryz.prog 28 [PV.ct L,.int .i64 v] (· = .au [.int .i64 at_,.int .i64 n])->2<=n->
   Qc Tryz.prog 29 [PV.ct L,.int .i64 at_,.int .i64 v] (· = .au [PV.ct L1,.int .i64 0])->nY v e L1 m->nY v e L (m+1)
def NS(F:Option (Nat×Int))(K:Nat->Option aC):PV:=
 match F with
 |none=>.au [PV.ct ((List.range 64).filterMap K),.int .i64 0]
 |some p=>.au [PV.ct [],.int .i64 p.2]
structure lL(X:Nat->Prop)(B:Nat)(K:Nat->Option aC)(g:Nat)(W0 W:World):Prop where
 ex:Ext (fun b=>b=B) W0 W
 mp:∃D n,n+g<=64/\W.ownsMap Tryz.prog 3 RZ B n D/\IsMap D/\∀u,u<64->∃val,D.atKey (.int .i64 (u:Nat)) (.held pk)= .held val/\uR W (fun b=>X b∨b=B) (if g<=u then K u else none) val
theorem Ak{w:World}{X:Nat->Prop}{a b:Int}{v:Value}(h:dH w X (.au [.int .i64 a,.int .i64 b]) v):v= .tuple #[.int .i64 a,.int .i64 b]:=by
 obtain⟨vs,rfl,gu,hr⟩:=h;obtain⟨x,y,rfl⟩:∃x y,vs= #[x,y]:=by
  obtain⟨l⟩:=vs
  match l,gu with
  | [x,y],_=>exact⟨x,y,rfl⟩
 have h0:Qu w X (.int .i64 a) x:=hr 0 _ rfl;have h1:Qu w X (.int .i64 b) y:=hr 1 _ rfl;cases h0;cases h1;rfl
theorem IS{w:World}{X:Nat->Prop}{L:List aC}{b:Int}{v:Value}(h:dH w X (.au [PV.ct L,.int .i64 b]) v):∃vl,v= .tuple #[vl,.int .i64 b]/\Qu w X (PV.ct L) vl:=by
 obtain⟨vs,rfl,gu,hr⟩:=h;obtain⟨x,y,rfl⟩:∃x y,vs= #[x,y]:=by
  obtain⟨l⟩:=vs
  match l,gu with
  | [x,y],_=>exact⟨x,y,rfl⟩
 have h0:Qu w X (PV.ct L) x:=hr 0 _ rfl;have h1:Qu w X (.int .i64 b) y:=hr 1 _ rfl;cases h1;exact⟨x,rfl,h0⟩
theorem lL.ext{X:Nat->Prop}{B:Nat}{K:Nat->Option aC}{g:Nat}{W0 W W':World}(h:lL X B K g W0 W)(hE:Ext bT W W'):lL X B K g W0 W':=by obtain⟨D,n,hn,hm,hi,hu⟩:=h.mp;refine⟨h.ex.trans' hE (fun i hi h=>h.elim),D,n,hn,hm.kept (row:=none) ⟨hE.os,hE.tape,hE.output,hE.size,fun k hk _=>hE.block k hk id⟩ (by simp),hi,fun u jh=>?_⟩;obtain⟨val,h1,h2⟩:=hu u jh;exact⟨val,h1,h2.mono (fun b hb _=>hE.block b hb id) (fun b _ h=>h) hE.size⟩
theorem lL.skip{X:Nat->Prop}{B:Nat}{K:Nat->Option aC}{g:Nat}{W0 W:World}(h:lL X B K (g+1) W0 W)(hK:K g=none):lL X B K g W0 W:=by
 obtain⟨D,n,hn,hm,hi,hu⟩:=h.mp;refine⟨h.ex,D,n,by omega,hm,hi,fun u jh=>?_⟩;obtain⟨val,h1,h2⟩:=hu u jh;refine⟨val,h1,?_⟩;by_cases e:u=g
 ·subst e;rw[if_neg (by omega)]at h2;rw[if_pos (Kac _),hK];exact h2
 ·by_cases e2:g<=u
  ·rw[if_pos e2];rwa[if_pos (by omega)]at h2
  ·rw[if_neg e2];rwa[if_neg (by omega)]at h2
theorem lL.put{X:Nat->Prop}{B:Nat}{K:Nat->Option aC}{g:Nat}{W0 W W':World}(h:lL X B K (g+1) W0 W){x:aC}(hK:K g=some x){D:DataW Value}{n:Nat}(hn:n+(g+1)<=64)
  (hi:IsMap D) (hu:∀u,u<64->∃val,D.atKey (.int .i64 (u:Nat)) (.held pk)= .held val/\uR W (fun b=>X b∨b=B) (if g+1<=u then K u else none) val) {u1 u2:Value}
  (h1:Qu W (fun b=>X b∨b=B) (PV.aj x.1) u1) (h2:Qu W (fun b=>X b∨b=B) (PV.ch x.2) u2)
  (hm:W'.ownsMap Tryz.prog 3 RZ B (n+1) (D.put (.int .i64 (g:Nat)) (.held (.agg #[u1,u2])))) (hg:W.grownBy W' (some B)):lL X B K g W0 W':=by
 have hE:Ext (fun b=>b=B) W W':=⟨hg.os,hg.tape,hg.output,hg.size,fun b hb hn=>hg.block b hb (by simpa using hn)⟩
 refine⟨h.ex.trans hE,_,n+1,by omega,hm,hi.put _ _,fun u jh=>?_⟩;by_cases e:u=g
 ·subst e;refine⟨_,atKey_put_same hi (by trivial) _ _,?_⟩;rw[if_pos (Kac _),hK];exact⟨u1,u2,rfl,h1.mono (fun b hb hn=>hE.block b hb (fun e=>hn (.inr e))) (fun _ _ h=>h) hE.size,h2.mono (fun b hb hn=>hE.block b hb (fun e=>hn (.inr e))) (fun _ _ h=>h) hE.size⟩
 ·obtain⟨val,e1,e2⟩:=hu u jh;refine⟨val,by rw[atKey_put_other (fun h=>e (by injection h with _ h;omega))];exact e1,?_⟩;have e3:=e2.mono (w':=W') (X':=fun b=>X b∨b=B) (fun b hb hn=>hE.block b hb (fun e=>hn (.inr e))) (fun _ _ h=>h) hE.size;by_cases e4:g<=u
  ·rw[if_pos e4];rwa[if_pos (by omega)]at e3
  ·rw[if_neg e4];rwa[if_neg (by omega)]at e3
theorem Sd(w:World):(zeroValue 34).run Tryz.prog w= .ok pk w:=by kernel_rfl
theorem akQ:(Tryz.prog.info? 34).map (fun i=>(i.zero,i.size,i.bytes))=some (some pk,2,48):=by kernel_rfl
theorem Sl{P:Program}(w:World){ops:Array Oper}{rest:List Oper}{o:Oper}{a:Act}{Q:Exit->Act->World->Prop}
  (hg:o.guard=none) (m x:Operand) (t:TypeId) (hop:o.op=Op.lookup t m x false)
  (k e:TypeId) (K:Keyed P k) (ht:P.underlying t=some (.map k e)) (z:Value) (hz:(zeroValue e).run P w= .ok z w) (b n:Nat) (D:DataW Value)
  (hm:a.eval m= .map (some b)) (bn:w.ownsMap P k RZ b n D) (key:Value) (kl:Lit) (hx:a.eval x=key) (uz:keyOf P k key=some kl) (val:Value) (bA:D.atKey kl (.held z)= .held val)
  (hK:wpList P ops Q rest (a.put o.dst val) w):
  wpList P ops Q (o::rest) a w:=by
 refine wpList_plain hg fun K' hK'=>?_;obtain⟨v,ps,bp,hv⟩:=bn.lookup (e:=e) K ht hz (zd:=.held z) (zp:=[]) rfl uz;obtain rfl:v=val:=by rw[bA]at hv;simp only[RZ,KaB,KcP,DataW.held.injEq]at hv;exact hv.1
 unfold Oper.wp;simp[execOp,hop,hm,hx,bp,Result.andThen];exact hK' _ _ hK
theorem YD(w:World)(x y:Value)(t:TypeId){g:Nat}(hg:g=w.heap.size):∀j u,[x,y][j]? =some u->(w.alloc (.cells #[x,y] t)).cell? ((⟨g,0,none⟩:Addr).add j)=some u:=by
 intro j u hj;subst hg;have hn:=World.alloc_heap_new w (.cells #[x,y] t)
 match j,hj with
 |0,hj=>simp at hj;subst hj;rw[KbA];simp only[World.cell?,hn];rfl
 |1,hj=>simp at hj;subst hj;rw[KbA];simp only[World.cell?,hn];rfl
 |j+2,hj=>simp at hj
theorem aco{a1 a2:Option Addr}{n1 n2 c1 c2:Nat}:∀u∈[Value.slice a1 n1 c1,.slice a2 n2 c2],u.oneCell'=true:=fun u hu=>by simp at hu;rcases hu with rfl|rfl<;>rfl
def iW(K:Nat->Option aC)(j:Nat):List aC:=(List.range j).filterMap K
theorem UR(K:Nat->Option aC)(j:Nat):iW K (j+1)=iW K j++(K j).toList:=by unfold iW;rw[Kb0,KcO];cases h:K j<;>simp[h]
theorem aeh(K:Nat->Option aC)(j:Nat):(iW K j).length<=j:=by unfold iW;exact Kaw (Kcb _ _) (by simp)
set_option maxHeartbeats 2000000 in
theorem Q8h {list:List (List Tm)} {Ls:Nat->List aC} {K:Nat->Option aC} {F:Option (Nat×Int)} (aG:Qc Tryz.prog 27 [PV.ch list] (· = .au [PV.ct (Ls 64),.int .i64 0]))
  (hT:∀v,v<64->(∀p,F=some p->p.1<v)->∃m,js v (Ls (v+1)) (Ls v) (K v) m) (hF:∀p,F=some p->p.1<64/\∃m,nY p.1 p.2 (Ls (p.1+1)) m) (hK:∀v e,K v=some e->0<e.1.length) {vp:Value} {W:World} (X:Nat->Prop) (hX:∀b,X b->b<W.heap.size) (hp:Qu W X (PV.ch list) vp):
  Calls Tryz.prog 8 #[vp] W fun e w'=>∃v,e= .returned v/\Ext bT W w'/\dH w' X (NS F K) v:=by
 have sL:= @run_makeMap Tryz.prog;have L8:=aG.2 W X #[vp] hX rfl (fun i x hx=>by
  match i,hx with
  |0,hx=>simp at hx;subst hx;exact hp
  |i+1,hx=>simp at hx)
 go_enter Tryz.func8,Tryz.ntmps8
 go_wp2
 go_step3
 go_wp2_with (first|(go_at_call 27;refine L8.mono ?_))
 rintro e w1 ⟨v,r,rfl,fD,cN,rfl⟩;obtain⟨vs,rfl,gu,hr⟩:=cN;obtain⟨vl,ve,rfl⟩:∃vl ve,vs= #[vl,ve]:=by
  obtain⟨l⟩:=vs
  match l,gu with
  | [x,y],_=>exact⟨x,y,rfl⟩
 have hl:Qu w1 X (PV.ct (Ls 64)) vl:=hr 0 _ rfl;have Nt:Qu w1 X (.int .i64 0) ve:=hr 1 _ rfl;cases Nt;dsimp only
 go_wp2
 go_step3
 go_wp2
 clear sL;have Np:=fD.size;have Mx:∀b,X b->b<w1.heap.size:=fun b hb=>KaO (hX b hb) Np;have oh:Ext bT w1 (w1.alloc (.map #[] 0)):=Ext.ua _ _ _;have gB:Qu (w1.alloc (.map #[] 0)) (fun b=>X b∨b=w1.heap.size) (PV.ct (Ls 64)) vl:=hl.mono (fun b hb _=>oh.block b hb id) (fun b hb h h'=>h'.elim h (fun h=>by omega)) oh.size;have hM0:lL X w1.heap.size K 64 (w1.alloc (.map #[] 0)) (w1.alloc (.map #[] 0)):=
  ⟨Ext.refl _ _,.map [],0,by omega,World.ownsMap_made _ _ _ _,isMap_empty,fun u hu=>⟨pk,rfl,by rw[if_neg (by omega)];rfl⟩⟩
 have HT:Aside (∀v,v<64->(∀p,F=some p->p.1<v)->∃m,js v (Ls (v+1)) (Ls v) (K v) m):=hT;have HF:Aside (∀p,F=some p->p.1<64/\∃m,nY p.1 p.2 (Ls (p.1+1)) m):=hF;have X6:Aside (∀p,F=some p->p.1<64):=fun p h=>(hF p h).1;have HK:Aside (∀v e,K v=some e->0<e.1.length):=hK;have HS:Aside (Qu w1 X (PV.ct (Ls 64)) vl):=hl;clear hT hF hK hl;generalize VX:w1.alloc (.map #[] 0)=Wm at *
 have fw:w1.heap.size<Wm.heap.size:=by rw[<-VX];simp
 clear VX
 go_loopg [4,7] 64 (fun g s4 s7 wx=>∃v:Int,s7= .int .i64 v/\v=(g:Int)-1/\g<=64/\Qu wx (fun b=>X b∨b=w1.heap.size) (PV.ct (Ls g)) s4/\lL X w1.heap.size K g Wm wx/\Aside (∀p,F=some p->p.1<g))
 case atStart=>exact⟨63,rfl,rfl,Kac _,gB,hM0,X6⟩
 case round=>
  obtain⟨v,rfl,hv,hg,hl,hM,N8⟩:=hrel;cases gk with
  | zero =>
   have hFn:F=none:=by
    cases hf:F with
    |none=>rfl
    |some p=>exact absurd (N8.out p hf) (by omega)
   subst hFn;obtain rfl:v= -1:=by simpa using hv
   clear hv
   go_wp2
   obtain⟨D,n,hn,BC,VG,EW⟩:=hM.mp;have HD:Aside (∀u,u<64->∃val,D.atKey (.int .i64 (u:Nat)) (.held pk)= .held val/\uR wr (fun b=>X b∨b=w1.heap.size) (K u) val):=fun u hu=>by obtain⟨val,h1,h2⟩:=EW u hu;exact⟨val,h1,by rwa[if_pos (Kby _)]at h2⟩
   clear EW;obtain⟨W2,uk⟩:∃W2,W2=wr:=⟨_,rfl⟩
   subst uk;have HM:Aside (lL X w1.heap.size K 0 Wm W2):=hM;have HE:Aside (Ext bT W w1/\Ext bT w1 Wm/\Ext (fun b=>b=w1.heap.size) Wm W2):=⟨fD,oh,hM.ex⟩
   clear hM
   go_loopg [10,52] 64 (fun g s10 s52 wx=>∃(j:Nat)(vs:List Value),j+g=64/\s52= .int .i64 (j:Nat)/\Ext bT W2 wx/\wx.ownsRow W2.heap.size 34 2 s10 (iW K j).length vs/\
    Aside (∀k (h:k<(iW K j).length),Qu W2 (fun b=>X b∨b=w1.heap.size) (PV.aj (iW K j)[k].1) (vs.getD (k*2) undef)/\Qu W2 (fun b=>X b∨b=w1.heap.size) (PV.ch (iW K j)[k].2) (vs.getD (k*2+1) undef)))
   case atStart=>exact⟨0,[],rfl,rfl,Ext.refl _ _,World.ownsRow_nil _ _ _ _,fun k h=>by simp[iW]at h⟩
   case round=>
    obtain⟨j,vs,hj,rfl,oo,fX,HR⟩:=hrel;cases gk with
    | zero=>
     obtain rfl:j=64:=by omega
     go_wp2
     have hX6:∀b,u10.ownBlock=some b->¬X b:=fun b hb hx=>by have h1:=(fX.lt b hb).1;have h2:=Mx b hx;have h3:=HE.out.2.2.size;omega
     have dz:Qu wr X (PV.ct (iW K 64)) u10:=by
      refine acS fX (by simp) hX6 (fun p hp=>by obtain⟨y,_,rfl⟩:=KaE.1 hp;rfl) (fun k hk c y hy=>?_);have ny:k<(iW K 64).length:=by simpa using hk
      obtain⟨r1,r2⟩:=HR.out k ny;rw[KcC]at hy
      match c,hy with
      |0,hy=>cases hy;exact r1.mono (fun b hb _=>oo.block b hb id) (fun b _ h h'=>h (.inl h')) oo.size
      |1,hy=>cases hy;exact r2.mono (fun b hb _=>oo.block b hb id) (fun b _ h h'=>h (.inl h')) oo.size
      |c+2,hy=>simp[PV.cells]at hy
     refine bodyPost_ret (by simp[results,go_sem];rfl) rfl ⟨_,rfl,?_,_,rfl,rfl,fun k x hk=>?_⟩
     ·exact((HE.out.1.trans HE.out.2.1).trans' HE.out.2.2 (fun i hi h=>by have:=Np;omega)).trans oo
     ·match k,hk with
      |0,hk=>cases hk;exact dz
      |1,hk=>cases hk;exact .int _ _
      |k+2,hk=>simp at hk
    | succ g=>
     have d0:(j:Int)<64:=by omega
     obtain⟨val,bA,Ml⟩:=HD.out j (by omega);have WO:wr.ownsMap Tryz.prog 3 RZ w1.heap.size n D:=BC.kept (row:=none) ⟨oo.os,oo.tape,oo.output,oo.size,fun k hk _=>oo.block k hk id⟩ (by simp);have uz:keyOf Tryz.prog 3 (.int .i64 (j:Nat))=some (.int .i64 (j:Nat)):=keyOf_int_mk Tryz.underlying3 (WalkArith.wf_i64 (by omega));generalize Mq:K j=kj at Ml;cases kj with
     | none=>
      obtain rfl:val=pk:=Ml
      go_wp2_with (first
       |(at_lookup;refine Sl _ rfl _ _ 63 rfl 3 34 NB Tryz.underlying63 pk (Sd _) w1.heap.size n D rfl WO _ _ rfl uz _ bA ?_))
      have ho:iW K (j+1)=iW K j:=by rw[UR,Mq];simp
      go_roundg g
      case measure=>omega
      case rel=>
       refine⟨j+1,vs,by omega,by first|rfl|simp,oo.trans (Ext.ua _ _ _),?_,?_⟩
       ·rw[ho];exact fX.alloc _
       ·rw[ho];exact HR
     | some x=>
      obtain⟨y1,y2,rfl,NX,NY⟩:=Ml;have bw:=HK.out j x Mq;obtain⟨a1,c1,rfl⟩:=C9 NX;obtain⟨a2,c2,rfl⟩:=C9 NY;rw[show(x.1.map PV.term).length=x.1.length from KaV ..]at bA NX;rw[show(x.2.map PV.aj).length=x.2.length from KaV ..]at bA NY;have d1:(0:Int)<(x.1.length:Int):=by omega
      have ho:iW K (j+1)=iW K j++[x]:=by rw[UR,Mq];simp
      have fN:=aeh K j;obtain⟨i0,qb,z0,z1,z2⟩:=info_parts akQ;have MG:W2.heap.size<=wr.heap.size:=oo.size
      go_wp2_with (first
       |(at_lookup;refine Sl _ rfl _ _ 63 rfl 3 34 NB Tryz.underlying63 pk (Sd _) w1.heap.size n D rfl WO _ _ rfl uz _ bA ?_)
       |(at_builtin;refine wpList_append_own_at _ rfl _ _ 25 rfl W2.heap.size 34 i0 pk 2 48 Tryz.underlying25 qb z0 z1 z2 rfl (by decide) _ _ _ rfl ((fX.alloc _).alloc _) ⟨wr.heap.size+1,0,none⟩ 1 1 [.slice a1 x.1.length c1,.slice a2 x.2.length c2] rfl rfl (YD _ _ _ _ (by simp)) aco (by unfold maxLen;omega) (by omega) (by simp;omega) ?_;intro v' w3 ape Bv FE arn))
      have yD:Ext bT W2 w3:=by
       have e1:Ext bT W2 ((wr.alloc (.cells #[.slice a1 x.1.length c1,.slice a2 x.2.length c2] 34)).alloc (.cells #[.slice a1 x.1.length c1,.slice a2 x.2.length c2] 34)):=oo.trans ((Ext.ua _ _ _).trans (Ext.ua _ _ _));have e2:Ext (fun b=>W2.heap.size<=b) ((wr.alloc (.cells #[.slice a1 x.1.length c1,.slice a2 x.2.length c2] 34)).alloc (.cells #[.slice a1 x.1.length c1,.slice a2 x.2.length c2] 34)) w3:=
        ⟨Bv.os,Bv.tape,Bv.output,Bv.size,fun b hb hn=>Bv.block b hb (fun e=>hn ((fX.lt b e.symm).1))⟩
       exact e1.trans' e2 (fun i hi h=>by omega)
      go_roundg g
      case measure=>omega
      case rel=>
       refine⟨j+1,vs++[.slice a1 x.1.length c1,.slice a2 x.2.length c2],by omega,by first|rfl|simp,yD,?_,?_⟩
       ·rw[ho,Kap];exact ape
       ·rw[ho];intro k hk;have kt:vs.length=(iW K j).length*2:=fX.1;rw[Kap,List.length_singleton]at hk;by_cases e:k<(iW K j).length
        ·rw[Kcv e,Kal,Kal,Kb7 (by omega),Kb7 (by omega),<-List.getD_eq_getElem?_getD,<-List.getD_eq_getElem?_getD];exact HR.out k e
        ·obtain rfl:k=(iW K j).length:=by omega
         rw[List.getElem_append_right (Kac _),Kal,Kal,Kcl (by omega),Kcl (by omega)];simp only[KbP,KcF,kt,show(iW K j).length*2+1-(iW K j).length*2=1 by omega];exact⟨NX,NY⟩
  | succ g=>
   obtain rfl:v=(g:Int):=by omega
   clear hv;by_cases yF:∃e,F=some (g,e)
   ·obtain⟨er,rfl⟩:=yF;obtain⟨-,m,VW⟩:=HF.out (g,er) rfl;have N7:Aside (Ext bT W w1/\Ext bT w1 Wm):=⟨fD,oh⟩
    go_wp2
    have X8:Aside (nY g er (Ls (g+1)) m):=VW;clear VW
    go_loopg [4] m (fun k s4 wx=>∃L,Aside (nY g er L k)/\Qu wx (fun b=>X b∨b=w1.heap.size) (PV.ct L) s4/\lL X w1.heap.size K (g+1) Wm wx)
    case atStart=>exact⟨_,X8,hl,hM⟩
    case round=>
     obtain⟨L,HL,nA,hM⟩:=hrel;have pU:∀b,(X b∨b=w1.heap.size)->b<wr.heap.size:=fun b hb=>hb.elim (fun h=>by have:=Mx b h;have:=hM.ex.size;omega) (fun h=>by have:=hM.ex.size;omega);generalize yN:gk=k at *
     have HL:=HL.out;cases HL with
     | fail _ at_ n lA h2 we Be=>
      have cL:=lA.2 wr _ #[u4,.int .i64 (g:Nat)] pU rfl (fun i x hx=>by
       match i,hx with
       |0,hx=>simp at hx;subst hx;exact nA
       |1,hx=>simp at hx;subst hx;exact .int _ _
       |i+2,hx=>simp at hx)
      have cR:=fun w2 (hE:Ext bT wr w2)=>Be.2 w2 _ #[u4,.int .i64 at_,.int .i64 (g:Nat)] (fun b hb=>KaO (pU b hb) hE.size) rfl (fun i x hx=>by
       match i,hx with
       |0,hx=>simp at hx;subst hx;exact ba.mono (p:=PV.ct L) nA (fun b hb _=>hE.block b hb id) (fun _ _ h=>h) hE.size
       |1,hx=>simp at hx;subst hx;exact .int _ _
       |2,hx=>simp at hx;subst hx;exact .int _ _
       |i+3,hx=>simp at hx)
      have rj:¬n<2:=by omega
      go_wp2_with (first|(go_at_call 28;refine cL.mono ?_;rintro e w2 ⟨v,r,rfl,fD,cN,rfl⟩;obtain rfl:=Ak cN)|(go_at_call 29;refine(cR _ fD).mono ?_;rintro e w3 ⟨v,r,rfl,oh,BJ,rfl⟩;obtain⟨X4,rfl,gB⟩:=IS BJ))
      rw[Exit.noGoto_ret];refine bodyPost_ret (by simp[results,go_sem];rfl) rfl ⟨_,rfl,?_,_,rfl,rfl,fun k x hk=>?_⟩
      ·exact((N7.out.1.trans N7.out.2).trans' hM.ex (fun i hi h=>by have:=Np;omega)).trans (fD.trans oh)
      ·match k,hk with
       |0,hk=>cases hk;exact Qu.gT _ none 0 (Kby _)
       |1,hk=>cases hk;exact .int _ _
       |k+2,hk=>simp at hk
     | more _ L1 at_ n m lA h2 Be v3=>
      have cL:=lA.2 wr _ #[u4,.int .i64 (g:Nat)] pU rfl (fun i x hx=>by
       match i,hx with
       |0,hx=>simp at hx;subst hx;exact nA
       |1,hx=>simp at hx;subst hx;exact .int _ _
       |i+2,hx=>simp at hx)
      have cR:=fun w2 (hE:Ext bT wr w2)=>Be.2 w2 _ #[u4,.int .i64 at_,.int .i64 (g:Nat)] (fun b hb=>KaO (pU b hb) hE.size) rfl (fun i x hx=>by
       match i,hx with
       |0,hx=>simp at hx;subst hx;exact ba.mono (p:=PV.ct L) nA (fun b hb _=>hE.block b hb id) (fun _ _ h=>h) hE.size
       |1,hx=>simp at hx;subst hx;exact .int _ _
       |2,hx=>simp at hx;subst hx;exact .int _ _
       |i+3,hx=>simp at hx)
      have rj:¬n<2:=by omega
      have Ge:Aside (nY g er L1 m):=v3;clear v3
      go_wp2_with (first|(go_at_call 28;refine cL.mono ?_;rintro e w2 ⟨v,r,rfl,fD,cN,rfl⟩;obtain rfl:=Ak cN)|(go_at_call 29;refine(cR _ fD).mono ?_;rintro e w3 ⟨v,r,rfl,oh,BJ,rfl⟩;obtain⟨X4,rfl,gB⟩:=IS BJ))
      go_roundg m
      case measure=>omega
      case rel=>exact⟨L1,Ge,gB,(hM.ext fD).ext oh⟩
   have Gd:Aside (∀p,F=some p->p.1<g):=fun p hp=>by have h1:=N8.out p hp;have h2:p.1≠g:=fun h=>yF ⟨p.2,by rw[hp,<-h]⟩;omega
   clear yF;obtain⟨m,VV⟩:=HT.out g (by omega) Gd.out
   go_wp2
   have X7:Aside (js g (Ls (g+1)) (Ls g) (K g) m):=VV;clear VV
   go_loopg [4] m (fun k s4 wx=>∃L,Aside (js g L (Ls g) (K g) k)/\Qu wx (fun b=>X b∨b=w1.heap.size) (PV.ct L) s4/\lL X w1.heap.size K (g+1) Wm wx)
   case atStart=>exact⟨_,X7,hl,hM⟩
   case round=>
    obtain⟨L,HL,nA,hM⟩:=hrel;have pU:∀b,(X b∨b=w1.heap.size)->b<wr.heap.size:=fun b hb=>hb.elim (fun h=>by have:=Mx b h;have:=hM.ex.size;omega) (fun h=>by have:=hM.ex.size;omega);generalize yN:gk=k at *
    have HL:=HL.out;generalize Fa:K g=kg at HL;generalize sC:Ls g=lg at HL;cases HL with
    | none _ at_ lA=>
     have cL:=lA.2 wr _ #[u4,.int .i64 (g:Nat)] pU rfl (fun i x hx=>by
      match i,hx with
      |0,hx=>simp at hx;subst hx;exact nA
      |1,hx=>simp at hx;subst hx;exact .int _ _
      |i+2,hx=>simp at hx)
     go_wp2_with (first|(go_at_call 28;refine cL.mono ?_;rintro e w2 ⟨v,r,rfl,fD,cN,rfl⟩;obtain rfl:=Ak cN))
     go_roundg g
     case measure=>omega
     case rel=>
      subst sC;exact⟨(g:Int)-1,rfl,rfl,by omega,nA.mono (fun b hb _=>fD.block b hb id) (fun _ _ h=>h) fD.size,(hM.skip Fa).ext fD,Gd⟩
    | one _ i hi lA=>
     have cL:=lA.2 wr _ #[u4,.int .i64 (g:Nat)] pU rfl (fun i x hx=>by
      match i,hx with
      |0,hx=>simp at hx;subst hx;exact nA
      |1,hx=>simp at hx;subst hx;exact .int _ _
      |i+2,hx=>simp at hx)
     obtain⟨b,off,cap,x1,x2,rfl,Mc,Md,NV,NW,Fi,qW⟩:=nA.AQ (i:=i) (by simpa using hi) (by rw[KcC]);obtain⟨a1,c1,rfl⟩:=C9 NV;obtain⟨a2,c2,rfl⟩:=C9 NW;have d1:(i:Int)<(L.length:Int):=by omega
     rw[KaV]at cL;have d2:(0:Int)<=(i:Int):=by omega
     have uz:keyOf Tryz.prog 3 (.int .i64 (g:Nat))=some (.int .i64 (g:Nat)):=keyOf_int_mk Tryz.underlying3 (WalkArith.wf_i64 (by omega));have key:∀w2,Ext bT wr w2->∃D n,n+(g+1)<=64/\w2.ownsMap Tryz.prog 3 RZ w1.heap.size n D/\Aside (IsMap D/\∀u,u<64->∃val,D.atKey (.int .i64 (u:Nat)) (.held pk)= .held val/\uR w2 (fun b=>X b∨b=w1.heap.size) (if g+1<=u then K u else none) val)/\
       w2.cell? ⟨b,off+i*2,none⟩=some (.slice a1 (L[i].1.map PV.term).length c1)/\w2.cell? ⟨b,off+i*2+1,none⟩=some (.slice a2 (L[i].2.map PV.aj).length c2):=fun w2 hE=>by
      obtain⟨D,n,hn,BC,VG,EW⟩:=(hM.ext hE).mp;exact⟨D,n,hn,BC,⟨VG,EW⟩,(World.cell?_of_block (w:=wr) (w':=w2) (a:=⟨b,off+i*2,none⟩) (hE.block b qW id)).trans Mc,(World.cell?_of_block (w:=wr) (w':=w2) (a:=⟨b,off+i*2+1,none⟩) (hE.block b qW id)).trans Md⟩
     clear Mc Md
     go_wp2_with (first
      |(go_at_call 28;refine cL.mono ?_;rintro e w2 ⟨v,r,rfl,fD,cN,rfl⟩;obtain rfl:=Ak cN;obtain⟨D,n,hn,BC,HD,Mc,Md⟩:=key w2 fD)
      |(at_mapUpdate;refine wpList_mapUpdate_own _ rfl _ _ _ 63 rfl 3 34 NB Tryz.underlying63 RZ w1.heap.size n D rfl BC (by unfold maxLen;omega) _ _ _ rfl rfl uz _ [] rfl ?_;intro w3 apf yO))
     have yD:Ext (fun b=>b=w1.heap.size) wr w3:=(fD.mono (fun _ _ h=>h.elim)).trans ⟨yO.os,yO.tape,yO.output,yO.size,fun b hb hn=>yO.block b hb (by simpa using hn)⟩;have Bz:Qu w3 (fun b=>X b∨b=w1.heap.size) (PV.ct L) (.slice (some ⟨b,off,none⟩) L.length cap):=by rw[KaV]at nA;exact nA.mono (fun b hb hn=>yD.block b hb (fun e=>hn (.inr e))) (fun _ _ h=>h) yD.size
     have FN:Qu w2 (fun b=>X b∨b=w1.heap.size) (PV.aj L[i].1) (.slice a1 L[i].1.length c1):=by rw[show(L[i].1.map PV.term).length=L[i].1.length from KaV ..]at NV;exact NV.mono (fun b hb _=>fD.block b hb id) (fun _ _ h=>h) fD.size
     have mo:Qu w2 (fun b=>X b∨b=w1.heap.size) (PV.ch L[i].2) (.slice a2 L[i].2.length c2):=by rw[show(L[i].2.map PV.aj).length=L[i].2.length from KaV ..]at NW;exact NW.mono (fun b hb _=>fD.block b hb id) (fun _ _ h=>h) fD.size
     go_roundg g
     case measure=>omega
     case rel=>
      subst sC;exact⟨(g:Int)-1,rfl,rfl,by omega,Bz,lL.put (hM.ext fD) Fa hn HD.out.1 HD.out.2 FN mo apf yO,Gd⟩
    | more _ L1 _ at_ n _ m lA h2 Be v3=>
     have cL:=lA.2 wr _ #[u4,.int .i64 (g:Nat)] pU rfl (fun i x hx=>by
      match i,hx with
      |0,hx=>simp at hx;subst hx;exact nA
      |1,hx=>simp at hx;subst hx;exact .int _ _
      |i+2,hx=>simp at hx)
     have cR:=fun w2 (hE:Ext bT wr w2)=>Be.2 w2 _ #[u4,.int .i64 at_,.int .i64 (g:Nat)] (fun b hb=>KaO (pU b hb) hE.size) rfl (fun i x hx=>by
      match i,hx with
      |0,hx=>simp at hx;subst hx;exact ba.mono (p:=PV.ct L) nA (fun b hb _=>hE.block b hb id) (fun _ _ h=>h) hE.size
      |1,hx=>simp at hx;subst hx;exact .int _ _
      |2,hx=>simp at hx;subst hx;exact .int _ _
      |i+3,hx=>simp at hx)
     have rj:¬n<2:=by omega
     have Ge:Aside (js g L1 lg kg m):=v3;clear v3
     go_wp2_with (first|(go_at_call 28;refine cL.mono ?_;rintro e w2 ⟨v,r,rfl,fD,cN,rfl⟩;obtain rfl:=Ak cN)|(go_at_call 29;refine(cR _ fD).mono ?_;rintro e w3 ⟨v,r,rfl,oh,BJ,rfl⟩;obtain⟨X4,rfl,gB⟩:=IS BJ))
     go_roundg m
     case measure=>omega
     case rel=>
      subst sC Fa;exact⟨L1,Ge,gB,(hM.ext fD).ext oh⟩
theorem QN{list:List (List Tm)}{Ls:Nat->List aC}{K:Nat->Option aC}{F:Option (Nat×Int)}(aG:Qc Tryz.prog 27 [PV.ch list] (· = .au [PV.ct (Ls 64),.int .i64 0]))
  (hT:∀v,v<64->(∀p,F=some p->p.1<v)->∃m,js v (Ls (v+1)) (Ls v) (K v) m) (hF:∀p,F=some p->p.1<64/\∃m,nY p.1 p.2 (Ls (p.1+1)) m) (hK:∀v e,K v=some e->0<e.1.length):Qc Tryz.prog 8 [PV.ch list] (· =NS F K):=by
 refine⟨by unfold oQ;kernel_rfl,fun w X bo hX hs hr=>?_⟩;obtain⟨v0,rfl⟩:∃v0,bo= #[v0]:=by
  obtain⟨l⟩:=bo
  match l,hs with
  | [x],_=>exact⟨x,rfl⟩
 refine(Q8h aG hT hF hK X hX (hr 0 _ rfl)).mono ?_;rintro e w' ⟨v,rfl,h1,h2⟩;exact⟨v,_,rfl,h1,h2,rfl⟩
theorem ai0{list:List (List Tm)}{Ls:Nat->List aC}{K:Nat->Option aC}(aG:Qc Tryz.prog 27 [PV.ch list] (· = .au [PV.ct (Ls 64),.int .i64 0]))
  (hT:∀v,v<64->∃m,js v (Ls (v+1)) (Ls v) (K v) m) (hK:∀v e,K v=some e->0<e.1.length):Qc Tryz.prog 8 [PV.ch list] (· = .au [PV.ct ((List.range 64).filterMap K),.int .i64 0]):=
 QN (F:=none) aG (fun v hv _=>hT v hv) (fun p h=>by cases h) hK
theorem Qyl{list:List (List Tm)}{er:Int}(he:er≠0)(aG:Qc Tryz.prog 27 [PV.ch list] (· = .au [PV.ct [],.int .i64 er])){vp:Value}{W:World}(X:Nat->Prop)(hX:∀b,X b->b<W.heap.size)(hp:Qu W X (PV.ch list) vp):
  Calls Tryz.prog 8 #[vp] W fun e w'=>∃v,e= .returned v/\Ext bT W w'/\dH w' X (.au [PV.ct [],.int .i64 er]) v:=by
 have L8:=aG.2 W X #[vp] hX rfl (fun i x hx=>by
  match i,hx with
  |0,hx=>simp at hx;subst hx;exact hp
  |i+1,hx=>simp at hx)
 go_enter Tryz.func8,Tryz.ntmps8
 go_wp2
 go_step3
 go_wp2_with (first|(go_at_call 27;refine L8.mono ?_))
 rintro e w1 ⟨v,r,rfl,fD,cN,rfl⟩;obtain⟨vs,rfl,gu,hr⟩:=cN;obtain⟨vl,ve,rfl⟩:∃vl ve,vs= #[vl,ve]:=by
  obtain⟨l⟩:=vs
  match l,gu with
  | [x,y],_=>exact⟨x,y,rfl⟩
 have Nt:Qu w1 X (.int .i64 er) ve:=hr 1 _ rfl;cases Nt;dsimp only
 go_wp2
 rw[Exit.noGoto_ret];refine bodyPost_ret (by simp[results,go_sem];rfl) rfl ⟨_,rfl,fD,_,rfl,rfl,fun k x hk=>?_⟩
 match k,hk with
 |0,hk=>cases hk;exact Qu.gT _ none 0 (Kby _)
 |1,hk=>cases hk;exact .int _ _
 |k+2,hk=>simp at hk
theorem Q8i{list:List (List Tm)}{er:Int}(he:er≠0)(aG:Qc Tryz.prog 27 [PV.ch list] (· = .au [PV.ct [],.int .i64 er])):Qc Tryz.prog 8 [PV.ch list] (· = .au [PV.ct [],.int .i64 er]):=by
 refine⟨by unfold oQ;kernel_rfl,fun w X bo hX hs hr=>?_⟩;obtain⟨v0,rfl⟩:∃v0,bo= #[v0]:=by
  obtain⟨l⟩:=bo
  match l,hs with
  | [x],_=>exact⟨x,rfl⟩
 refine(Qyl he aG X hX (hr 0 _ rfl)).mono ?_;rintro e w' ⟨v,rfl,h1,h2⟩;exact⟨v,_,rfl,h1,h2,rfl⟩
end Go.Proofs.YtdjoomkeehihmaaGreat
namespace Go.FW
open Go
structure aU where
 n:Bool
 a:List Nat
 d:List Nat
 m:List Int
abbrev PV.qx(t:aU):PV:=.agg [.bool t.n,PV.nat t.a,PV.nat t.d,PV.mono t.m]
abbrev PV.kD(l:List aU):PV:=.sl 4 (l.map PV.qx)
def aU.q(t:aU):Rat:=rv t.n t.a t.d
def aU.tm(t:aU):Tm:=(t.q,t.m)
structure RB(k:Nat)(t:aU):Prop where
 r:Qs t.a/\Qs t.d/\t.a.length<=k/\t.d.length<=k
 l:t.m.length<2^40
def fP(t:aU):Bool:=mS t.n t.a t.d&&(decide (t.q≠0)&&fK t.m)
def eE:List aU->Bool
 | []=>true
 | [t]=>fP t
 |s::t::l=>fP s&&(decide (0<aS s.m t.m)&&eE (t::l))
theorem H4:∀(l:List aU),eE l=true↔(∀i (h:i<l.length),fP l[i]=true)/\(∀i (h:i+1<l.length),0<aS l[i].m l[i+1].m)
 | []=>by simp[eE]
 | [t]=>by
  rw[eE];constructor
  ·intro h;exact⟨fun i hi=>by have:i=0:=(by simp at hi;omega);subst this;exact h,fun i hi=>by simp at hi⟩
  ·intro h;exact h.1 0 (by simp)
 | s::t::l=>by
  rw[eE,Kat,Kat,decide_eq_true_eq,H4 (t::l)];constructor
  ·rintro⟨h1,h2,h3,h4⟩;refine⟨fun i hi=>?_,fun i hi=>?_⟩
   ·cases i with
    |zero=>exact h1
    |succ i=>exact h3 i (by simpa using hi)
   ·cases i with
    |zero=>exact h2
    |succ i=>exact h4 i (by simpa using hi)
  ·rintro⟨h1,h2⟩;exact⟨h1 0 (by simp),h2 0 (by simp),fun i hi=>h1 (i+1) (by simpa using hi),fun i hi=>h2 (i+1) (by simpa using hi)⟩
theorem acp{s:aU}{l:List aU}(h:eE (s::l)=true):fP s=true/\eE l=true:=by
 cases l with
 |nil=>exact⟨h,rfl⟩
 |cons t l=>rw[eE,Kat,Kat]at h;exact⟨h.1,h.2.2⟩
structure TV(t:Tm):Prop where
 c:t.1≠0
 m:fK t.2=true
def fi:List Tm->Prop
 | []=>True
 |s::p=>(∀t∈p,0<aS s.2 t.2)/\fi p
structure rG(p:List Tm):Prop where
 t:∀t∈p,TV t
 s:fi p
theorem aei{t:aU}{k:Nat}(hb:RB k t)(h:fP t=true):PV.qx t=PV.term t.tm/\TV t.tm:=by simp only[fP,Kat,decide_eq_true_eq]at h;obtain⟨h1,h2,h3⟩:=h;obtain⟨e1,e2,e3⟩:=Pc hb.r.1 hb.r.2.1 h1;refine⟨?_,h2,h3⟩;rw[PV.qx,PV.term,aU.tm,aU.q,<-e1,PV.num,PV.num,<-e2,<-e3]
theorem xd{a b c:List Int}(h1:0<aS a b)(h2:0<aS b c):0<aS a c:=by have e1:=vm a b;have e2:=vm b c;have e3:=vm a c;have:=Q8c (a:=c) (b:=b) (c:=a) (by omega) (by omega);omega
theorem US{k:Nat}:∀ {l:List aU},(∀t∈l,RB k t)->eE l=true->PV.kD l=PV.aj (l.map aU.tm)/\rG (l.map aU.tm):=by
 intro l;induction l with
 |nil=>intro _ _;exact⟨rfl,⟨by simp,trivial⟩⟩
 | cons s l ih=>
  intro hb h;obtain⟨h1,h2⟩:=acp h;obtain⟨e1,v1⟩:=aei (hb s (by simp)) h1;obtain⟨e2,v2⟩:=ih (fun t ht=>hb t (by simp[ht])) h2;refine⟨?_,⟨fun t ht=>?_,?_,v2.s⟩⟩
  ·have e2':l.map PV.qx=(l.map aU.tm).map PV.term:=by injection e2
   show PV.sl 4 (PV.qx s::l.map PV.qx)=PV.sl 4 (PV.term s.tm::(l.map aU.tm).map PV.term);rw[e1,e2']
  ·simp only[Kbd,KaP]at ht;rcases ht with rfl|ht
   ·exact v1
   ·exact v2.t t ht
  ·cases l with
   |nil=>intro t ht;simp at ht
   |cons u l=>
    rw[eE,Kat,Kat,decide_eq_true_eq]at h;intro t ht;rw[Kbd]at ht v2;rcases KaP.1 ht with rfl|ht
    ·exact h.2.1
    ·exact xd h.2.1 (v2.s.1 t ht)
theorem SV{a:List Int}(h:fK a=true):a.getLast? ≠some 0:=by simp only[fK,Kat,decide_eq_true_eq]at h;exact h.2.1
variable {C : Ctx} {ρ : Nat -> Option Nat} {fr : Fr} {hp : HP} {w : World} {K R : Qh}
theorem QO(s:Nat)(hd:(aK hp (fr s)).aE=true):Wk fr hp (af fr s (aK hp (fr s))) (FW.cf hp (fr s).refs):=by
 rintro C tmps w ⟨ρ,hs⟩;have hf:=hs.freeze (fr s).refs;refine⟨ρ,hf.sz,hf.ext,hf.ij,hf.own,hf.inj,fun i=>?_⟩;unfold af;split
 ·rename_i hi;subst hi;exact Qt.lJ (qG hs (hs.fh i) (fun β h=>h) hd)
 ·exact hf.fh i
def vK(W:List (Nat×Nat))(F:Fr)(I:Nat->Fr->HP->Prop)(n:Nat):Qh:=fun ay an=>∃J ft m,Wk ay an (aQ W J F) ft/\m<n/\I m J ft
theorem aej{W:List (Nat×Nat)}{F:Fr}{I:Nat->Fr->HP->Prop}{n:Nat}:KM (vK W F I n) (vK W F I n):=by rintro f f' hp hf ⟨J,ft,m,h1,h2,h3⟩;exact⟨J,ft,m,hf.wk.trans h1,h2,h3⟩
theorem Q2{sk:List It}{W:List (Nat×Nat)}{F:Fr}{I:Nat->Fr->HP->Prop}{n:Nat}(h:gy R sk):gy R (.el (vK W F I n)::sk):=⟨h.1,.el aej h.2⟩
theorem xy{W:List (Nat×Nat)}{F J:Fr}{I:Nat->Fr->HP->Prop}{n:Nat}(m:Nat)(hl:m<n)(h:I m J hp):vK W F I n (aQ W J F) hp:=⟨J,hp,m,Wk.refl _ _,hl,h⟩
theorem Hm{W:List (Nat×Nat)}{F J:Fr}{I:Nat->Fr->HP->Prop}{n:Nat}(s m:Nat)(hs:lH W s=true)(hd:(aK hp (J s)).aE=true)(hl:m<n)(h:I m (af J s (aK hp (J s))) (FW.cf hp (J s).refs)):vK W F I n (aQ W J F) hp:=by
 have e:aQ W J F s=J s:=by rw[RD,if_pos hs]
 have hw:=QO (fr:=aQ W J F) (hp:=hp) s (by rw[e];exact hd);rw[e,PO hs]at hw;exact⟨_,_,m,hw,hl,h⟩
theorem H5{sk:List It}{x:SC}(cx:gy R sk)(W:List (Nat×Nat))(B:List Nat)(I:Nat->Fr->HP->Prop)(m0:Nat)(h0:I m0 fr hp)
  (h:∀m J hp,I m J hp->vc C R (.c x:: .el (vK W (bG B fr) I m)::sk) (aQ W J (bG B fr)) hp):vc C R (.c (.loop x)::sk) fr hp:=by
 refine zT (fun m ay an=>∃J,ay=aQ W J (bG B fr)/\I m J an) m0 (H3 W B).wk ⟨fr,rfl,h0⟩ ?_;rintro m _ an ⟨J,rfl,hI⟩;refine r8 cx.1 _ _ _ _ _ _ (Kac _) (.c x (.el ?_ cx.2)) (cj.refl _) (h m J an hI);rintro f f' ft hf ⟨J2,sP,m2,e2,hl,h2⟩;exact Ib hl (hf.wk.trans e2) ⟨J2,rfl,h2⟩
abbrev dg(a:List Nat)(i:Nat):Nat:=a.getD i 0
theorem vL{a:List Nat}(h:Qs a)(i:Nat):dg a i<65536:=by
 by_cases hi:i<a.length
 ·rw[dg,gE hi];exact eM h hi
 ·rw[dg,gF hi];omega
theorem xz(a:List Nat)(i:Nat):val (a.drop i)=dg a i+65536*val (a.drop (i+1)):=by
 by_cases hi:i<a.length
 ·rw[lS hi,dg,gE hi]
 ·rw[dg,gF hi,Kan (by omega),Kan (by omega)];rfl
theorem Hn(a:List Nat)(i:Nat):val a=val (a.take i)+65536^i*val (a.drop i):=by
 by_cases hi:i<=a.length
 ·exact pB a i hi
 ·rw[Kae (by omega),Kan (by omega)];simp[val]
theorem YE{a:List Nat}(h:Qs a)(i:Nat):val (a.take i)<65536^i:=by
 by_cases hi:i<=a.length
 ·exact tj h i hi
 ·rw[Kae (by omega)];exact KaO (oK h) (KbE (by omega) (by omega))
theorem Ss(a:List Nat)(i:Nat):val (a.take (i+1))=val (a.take i)+65536^i*dg a i:=by
 by_cases hi:i<a.length
 ·rw[zt hi,dg,gE hi]
 ·rw[dg,gF hi,Kae (by omega),Kae (by omega)];simp
theorem SW{a b:List Nat}(ha:Qs a){i:Nat}(h:val (a.drop i)<val (b.drop i)):val a<val b:=by rw[Hn a i,Hn b i];have h1:=YE ha i;have:65536^i*(val (a.drop i)+1)<=65536^i*val (b.drop i):=Ka7 _ h;rw[Ka1]at this;omega
theorem QP{l:List Nat}{j v:Nat}(h:j<l.length):val (l.set j v)+65536^j*l[j]=val l+65536^j*v:=by have e:l.set j v=l.take j++v::l.drop (j+1):=List.set_eq_take_append_cons_drop.trans (by rw[if_pos h]);have e2:=pB l j (by omega);rw[lS h]at e2;rw[e,mH,KaH,KbY (by omega),val,e2,Ka1,Ka1];omega
theorem DR(l:List Nat)(x:Nat):val (l++[x])=val l+65536^l.length*x:=by rw[mH];simp[val]
theorem Q8j{l:List Nat}{j:Nat}(h:val (l.drop j)=0):dg l j=0:=by have:=xz l j;omega
theorem ai1{bt:Bool}{n d:Nat}:cg .rem bt (.int .u64 (n:Int)) (.int .u64 65536) d fr hp K=K (af fr d (.int .u64 ((n%65536:Nat):Int))) hp:=by rw[show(65536:Int)=((65536:Nat):Int)from rfl,pJ (by omega)]
theorem ai2{bt:Bool}{n d:Nat}(h:n<18446744073709551616):cg .quo bt (.int .u64 (n:Int)) (.int .u64 65536) d fr hp K=K (af fr d (.int .u64 ((n/65536:Nat):Int))) hp:=by rw[show(65536:Int)=((65536:Nat):Int)from rfl,Av (by omega) h]
theorem afV{bt:Bool}{n d:Nat}:cg .rem bt (.int .i64 (n:Int)) (.int .i64 65536) d fr hp K=K (af fr d (.int .i64 ((n%65536:Nat):Int))) hp:=by rw[show(65536:Int)=((65536:Nat):Int)from rfl,pJ (by omega)]
theorem afW{bt:Bool}{n d:Nat}(h:n<9223372036854775808):cg .quo bt (.int .i64 (n:Int)) (.int .i64 65536) d fr hp K=K (af fr d (.int .i64 ((n/65536:Nat):Int))) hp:=by rw[show(65536:Int)=((65536:Nat):Int)from rfl,Ek (by omega) h]
theorem ai3(n:Nat):(n:Int)*65536=((n*65536:Nat):Int):=by omega
end Go.FW
namespace Go.FW
theorem UT{P x y V ai c q r M S T:Nat}(h1:S+P*x=M+P*r)(h2:M+P*(c+ai*(y+65536*V))=T)(h3:65536*q+r=x+ai*y+c):S+P*65536*(q+ai*V)=T:=by
 have e:P*(65536*q+r)=P*(x+ai*y+c):=by rw[h3]
 have a1:P*(c+ai*(y+65536*V))=P*c+P*(ai*y)+65536*(P*(ai*V)):=by rw[Ka1 ai,Ka1,Ka1,Kbz ai 65536,Kbz P 65536];omega
 have a2:P*65536*(q+ai*V)=65536*(P*q)+65536*(P*(ai*V)):=by rw[KaU P,Kbh,Ka1,Ka1]
 have a3:P*(65536*q+r)=65536*(P*q)+P*r:=by rw[Ka1,Kbz]
 have a4:P*(x+ai*y+c)=P*x+P*(ai*y)+P*c:=by rw[Ka1,Ka1]
 omega
theorem UU{l:List Nat}{i j v:Nat}(h:i≠j):dg (l.set i v) j=dg l j:=by simp[dg,Kal,List.getElem?_set_ne h]
open Go
variable {C : Ctx} {ρ : Nat -> Option Nat} {fr : Fr} {hp : HP} {w : World} {K R : Qh}
theorem Uo{x V d q:Nat}(hd:0<d)(h:q=V/d):(V%d*65536+x)/d+65536*q=(x+65536*V)/d/\(V%d*65536+x)%d=(x+65536*V)%d:=by
 subst h;have e:x+65536*V=(V%d*65536+x)+d*(65536*(V/d)):=by
  have:=Kbr V d
  calc x+65536*V=x+65536*(d*(V/d)+V%d):=by rw[this]
   _=_:=by rw[Ka1,Kbz];omega
 rw[e,Kcs _ _ hd,Kcp];exact⟨rfl,rfl⟩
theorem afX(i e:Nat)(hi:fr i= .aa):Wk fr hp (af fr i (.sl e [])) hp:=by
 rintro C tmps w ⟨ρ,hs⟩;refine⟨ρ,hs.sz,hs.ext,hs.ij,hs.own,hs.inj,fun j=>?_⟩;unfold af;split
 ·rename_i hj;subst hj;have:=hs.fh j;rw[hi]at this;rw[Qt.wS this];exact Qu.gT _ _ _ (Kby _)
 ·exact hs.fh j
theorem rZ{sk:List It}{x:SC}(i e:Nat)(hi:fr i= .aa)(h:vc C R (.c (.loop x)::sk) (af fr i (.sl e [])) hp):vc C R (.c (.loop x)::sk) fr hp:=by rw[u6]at h⊢;obtain⟨I,μ,⟨bI,aF,h1,jI⟩,h2⟩:=h;exact⟨I,μ,⟨bI,aF,(afX i e hi).trans h1,jI⟩,h2⟩
end Go.FW
namespace Go.FW
open Go Go.ChangeShapes Go.WideShapes
section
variable {H : Type} {enc : TypeId × Value -> H} {P : Program} {w : World} {base : Nat} {spare : Nat -> Bool} {held : Bool}
structure Gb(eF:DataW H->Nat):Prop where
 len:∀(elems spare:List (DataW H)),elems.length<=eF (.slice elems spare)
 sl:∀(elems spare:List (DataW H))(d:DataW H),d∈elems->eF d<=eF (.slice elems spare)
 ag:∀(parts:List (DataW H))(d:DataW H),d∈parts->eF d<=eF (.agg parts)
def lV(enc:TypeId×Value->H)(P:Program)(eF:DataW H->Nat)(N:Nat)(t:TypeId)(Q:List PV->Prop):Prop:=
 ∀(w:World)(base:Nat)(spare:Nat->Bool)(held:Bool)(fuel:Nat)(cs:List Value)(x:DataW H×List MemPlace),DataW.trod enc P w base spare held fuel t cs=some x->eF x.1<=N->
  ∃ps,Q ps/\ps.length=cs.length/\∀(i:Nat)(p:PV),ps[i]? =some p->Qu w bT p (cs.getD i undef)
variable {eF : DataW H -> Nat} {N : Nat}
theorem DS{w:World}{p:PV}{v:Value}(h:Qu w bT p v):∀(i:Nat)(q:PV),[p][i]? =some q->Qu w bT q ([v].getD i undef):=by
 intro i q hq
 match i,hq with
 |0,hq=>simp at hq;subst hq;exact h
 |i+1,hq=>simp at hq
theorem lV.mono{t:TypeId}{Q Q':List PV->Prop}(h:lV enc P eF N t Q)(hQ:∀ps,Q ps->Q' ps):lV enc P eF N t Q':=
 fun w base spare held fuel cs x hx hn=>let⟨ps,h1,h2,h3⟩:=h w base spare held fuel cs x hx hn;⟨ps,hQ ps h1,h2,h3⟩
theorem Oe{t:TypeId}{k:IntKind}(ht:P.underlying t=some (.int k)):lV enc P eF N t fun ps=>∃n,ps=[.int k n]/\(Lit.int k n).wf=true:=by intro w base spare held fuel cs x hx _;obtain⟨n,rfl,rfl,hw⟩:=DataW.trod_int ht hx;exact⟨_,⟨n,rfl,hw⟩,rfl,DS (.int k n)⟩
theorem Q8k{t:TypeId}(ht:P.underlying t=some .bool):lV enc P eF N t fun ps=>∃b,ps=[.bool b]:=by intro w base spare held fuel cs x hx _;obtain⟨b,rfl,rfl⟩:=DataW.trod_bool ht hx;exact⟨_,⟨b,rfl⟩,rfl,DS (.bool b)⟩
theorem acq{t:TypeId}(ht:P.underlying t=some (.int .u16)):lV enc P eF N t fun ps=>∃n:Nat,ps=[.int .u16 n]/\n<65536:=by refine(Oe ht).mono ?_;rintro ps ⟨n,rfl,hw⟩;simp[Lit.wf,IntKind.min,IntKind.max,IntKind.signed,IntKind.bits]at hw;obtain⟨m,rfl⟩:=Int.eq_ofNat_of_zero_le hw.1;exact⟨m,rfl,by omega⟩
theorem acr{t:TypeId}(ht:P.underlying t=some (.int .i64)):lV enc P eF N t fun ps=>∃n:Int,ps=[.int .i64 n]/\ -9223372036854775808<=n/\n<=9223372036854775807:=by refine(Oe ht).mono ?_;rintro ps ⟨n,rfl,hw⟩;simp[Lit.wf,IntKind.min,IntKind.max,IntKind.signed,IntKind.bits]at hw;exact⟨n,rfl,by omega⟩
theorem zB{α:Type}[Inhabited α]{f:α->PV}{G:α->Prop}{t e:TypeId}(hB:Gb eF)(ht:P.underlying t=some (.slice e))(ie:0<P.cellsOf e)
  (he:lV enc P eF N e fun ps=>∃a:α,ps=(f a).cells/\G a):lV enc P eF N t fun ps=>∃l:List α,ps=[.sl (P.cellsOf e) (l.map f)]/\l.length<=N/\∀a∈l,G a:=by
 intro w base spare held fuel cs x hx hn;rcases Deep.open_slice ht hx with⟨rfl,rfl⟩|⟨a,len,cap,m,n,D,Pl,rfl,_,hl,hm,sL,rfl,bz⟩
 ·exact⟨_,⟨[],rfl,Kby _,fun _ h=>by cases h⟩,rfl,DS (.gT _ none 0 (Kby _))⟩
 have wy:len<=m:=by rw[sL];split<;>omega
 obtain⟨A,hA⟩:=Deep.choose_lt (α:=α×List Value) (n:=len) (p:=fun i y=>w.cells? base (a.add (i*P.cellsOf e)) (P.cellsOf e)=some y.2/\G y.1/\(f y.1).cells.length=y.2.length/\∀(j:Nat)(p:PV),(f y.1).cells[j]? =some p->Qu w bT p (y.2.getD j undef)) (fun i hi=>by obtain⟨cs',h1,h2⟩:=bz i (by omega);have hd:D i∈(List.range len).map D:=Kcz (Kch.2 hi);obtain⟨_,⟨b,rfl,hG⟩,h3,h4⟩:=he w base spare held n cs' _ h2 (Kaw (hB.sl _ _ _ hd) hn);exact⟨(b,cs'),h1,hG,h3,h4⟩);have hlen:=hB.len ((List.range len).map D) ((List.range (m-len)).map fun j=>D (len+j));simp only[KaV,List.length_range]at hlen hn;refine⟨_,⟨(List.range len).map fun i=>(A i).1,rfl,by simp;omega,fun b hb=>?_⟩,rfl,DS ?_⟩
 ·obtain⟨i,hi,rfl⟩:=KaE.1 hb;exact(hA i (Kch.1 hi)).2.1
 ·rcases Kc3 len with rfl|hp
  ·exact .gT _ _ _ hm
  have sp:a.spot=none:=by obtain⟨_,h2,h3⟩:=World.cells?_some (hA 0 hp).1;have h4:=h3 0 ie;rw[Kam (by omega)]at h4;simpa[Addr.add]using World.cell?_spot h4
  obtain⟨b,off,spot⟩:=a;have sp':spot=none:=sp;subst sp';have pW:∀i,i<len->∀j,j<P.cellsOf e->w.cell? ⟨b,off+i*P.cellsOf e+j,none⟩=some ((A i).2.getD j undef):=fun i hi j hj=>by obtain⟨_,h2,h3⟩:=World.cells?_some (hA i hi).1;have h4:=h3 j hj;rw[Kam (by omega),add_plain,add_plain]at h4;rw[h4];simp[Kal,Kam (show j<(A i).2.length by omega)]
  have e1:((List.range len).map fun i=>(A i).1).map f=(List.range len).map fun i=>f (A i).1:=by simp
  have e2:((List.range len).map fun i=>f (A i).1).length=len:=by simp
  have get:∀(i:Nat)(x:PV),((List.range len).map fun i=>f (A i).1)[i]? =some x->i<len/\x=f (A i).1:=fun i x hx=>by obtain⟨hi,h⟩:=Kad.1 hx;rw[e2]at hi;exact⟨hi,by simpa using h.symm⟩
  rw[e1];have:=Qu.sl (w:=w) (X:=bT) (P.cellsOf e) ((List.range len).map fun i=>f (A i).1) b off cap (fun i j=>(A i).2.getD j undef) (fun h=>h) (Q7c (pW 0 hp 0 ie)) (by rw[e2];exact hl) hm
   (fun i x hx=>by obtain⟨hi,rfl⟩:=get i x hx;rw[(hA i hi).2.2.1];exact(World.cells?_some (hA i hi).1).2.1)
   (fun i hi j hj=>pW i (by rwa[e2]at hi) j hj)
   (fun i x hx j y hy=>by obtain⟨hi,rfl⟩:=get i x hx;exact(hA i hi).2.2.2 j y hy)
  rwa[e2]at this
theorem GM{t:TypeId}{f0 f1:Field}{Q0 Q1:List PV->Prop}(hB:Gb eF)(ht:P.underlying t=some (.struct #[f0,f1]))(h0:f0.offset=0)(h1:f1.offset=P.cellsOf f0.type)(hc:P.cellsOf t=P.cellsOf f0.type+P.cellsOf f1.type)
  (r0:lV enc P eF N f0.type Q0) (r1:lV enc P eF N f1.type Q1):lV enc P eF N t fun ps=>∃p q,ps=p++q/\Q0 p/\Q1 q:=by
 intro w base spare held fuel cs x hx hn;obtain⟨y0,y1,n,rfl,hl,g0,g1⟩:=trod_struct2 ht hx;obtain⟨p,hp,ft,sP⟩:=r0 _ _ _ _ _ _ _ g0 (Kaw (hB.ag _ _ (by simp)) hn);obtain⟨q,hq,uB,WZ⟩:=r1 _ _ _ _ _ _ _ g1 (Kaw (hB.ag _ _ (by simp)) hn);rw[h0]at ft sP;rw[h1]at uB WZ;simp only[Kbp,KaH,Ka5]at ft uB;have lp:p.length=P.cellsOf f0.type:=by omega
 have lq:q.length=P.cellsOf f1.type:=by omega
 refine⟨_,⟨p,q,rfl,hp,hq⟩,by rw[Kap];omega,fun i v hv=>?_⟩;by_cases hi:i<p.length
 ·rw[Kb7 hi]at hv;have:=sP i v hv;rw[Kbp,Kal,Kca,if_pos (by omega)]at this;rw[Kal];exact this
 ·rw[Kcl (by omega)]at hv;have:=WZ _ v hv;have mc:i-p.length<q.length:=(Kad.1 hv).1;rw[Kal,Kca,if_pos (by omega),Kbb,show P.cellsOf f0.type+(i-p.length)=i by omega]at this;rw[Kal];exact this
theorem afY{r:Reach}{b0:Nat}{t:TypeId}{v:Value}{d:DataW H}{ps:List MemPlace}{Q:List PV->Prop}(hr:lV enc P eF N t Q)(hd:DataW.Trod enc P w base spare held t v d ps)(hn:eF d<=N)
  (hv:v.cells= #[v]):∃p,Q [p]/\ba w bT p v:=by
 obtain⟨fuel,hf⟩:=hd;obtain⟨qs,h1,h2,h3⟩:=hr _ _ _ _ _ _ _ hf hn;rw[hv]at h2 h3
 match qs,h2 with
 | [p],_=>exact⟨p,h1,ba.qw (by simpa using h3 0 p rfl)⟩
theorem Of{r:Reach}{b0:Nat}{t e:TypeId}{v:Value}{d:DataW H}{ps:List MemPlace}{Q:List PV->Prop}(ht:P.underlying t=some (.slice e))(gh:Value.okWide P w r b0 t v)(hr:lV enc P eF N t Q)(hd:DataW.Trod enc P w base spare held t v d ps)(hn:eF d<=N):
  ∃p,Q [p]/\ba w bT p v:=by
 obtain⟨a,len,cap,rfl⟩:=okWide_slice ht gh;exact afY (r:=r) (b0:=b0) hr hd hn rfl
theorem Ext.sameAt{W W':World}(h:Ext bT W W'){p:MemPlace}(hp:p.block<W.heap.size):W.sameAt W' p:=by
 cases p with
 |cell b off=>exact vd (h.block b hp (fun h=>h))
 |map b=>exact h.block b hp (fun h=>h)
theorem Ext.keptBut{W W':World}(h:Ext bT W W')(may:MemPlace->Prop):W.keptBut W' may:=by
 refine⟨h.os,h.output,fun i hi=>?_⟩;rw[h.block i hi (fun h=>h)];cases hh:W.heap[i]? with
 |none=>rfl
 |some o=>cases o with
  |cells c t fr=>exact⟨rfl,rfl,rfl,fun _ _=>rfl⟩
  |map es clock=>exact Or.inr ⟨rfl,rfl⟩
  |_=>rfl
theorem Ext.frozen{W W':World}(h:Ext bT W W'){a:Addr}(ha:a.block<W.heap.size):W'.frozen? a=W.frozen? a:=by unfold World.frozen?;rw[h.block _ ha (fun h=>h)]
theorem Og(hl:laidOutB P=true)(hm:mapsRowed P=true)(fY:∀ {t e:TypeId},t<P.types.size->P.underlying t=some (.slice e)->0<P.cellsOf e){W W':World}(hx:Ext bT W W')(sp:Nat->Bool):
  ∀ {ts:List TypeId} {vs:List Value} {ds:List (DataW H)} {ps:List MemPlace},(∀t∈ts,t<P.types.size)->DataW.TrodAll enc P W 0 (fun _=>true) true ts vs ds ps->(∀p∈ps,sp p.block=true)->DataW.TrodAll enc P W' 0 sp true ts vs ds ps
 | [],_,_,_,_,h,_=>by obtain⟨rfl,rfl,rfl⟩:=trodAll_nil h;rfl
 |t::ts,_,_,_,lF,h,hs=>by obtain⟨v,vs,d,ds,p,q,rfl,rfl,rfl,⟨fuel,h1⟩,h2⟩:=trodAll_cons h;refine⟨p,q,⟨fuel,?_⟩,Og hl hm fY hx sp (fun t ht=>lF t (by simp[ht])) h2 (fun x aW=>hs x (by simp[aW])),rfl⟩;exact DataW.trod_stays (kids_rows hl hm) fY (fun h=>by cases h) (lF t (by simp)) h1 (fun x aW=>hx.sameAt (DataW.trod_lt _ _ _ _ h1 x aW)) (fun x aW=>hs x (by simp[aW]))
theorem YG{f:FuncId}{fn:Func}{s:ChangeSpec}{ap fresh handsOn xZ:Bool}{W:World}{args:Array Value}{ds gs:List (DataW H)}{before:List MemPlace}{dk:List PV}{tb:TypeId}
  (hW:DataW.Whole enc P fn.params.toList s.vars ap W args.toList ds gs before) (BT:s.vars=[]) (dz:fn.resultTypes= #[tb]) (Xi:P.underlying tb=some .bool)
  (hl:laidOutB P=true) (hm:mapsRowed P=true) (fY:∀ {t e:TypeId},t<P.types.size->P.underlying t=some (.slice e)->0<P.cellsOf e) (FH:∀t∈fn.params.toList,t<P.types.size)
  (Bt:s.fn H (ds++gs)={ results:=[.lit (.bool true)],args:=ds })
  (hF:Qc P f dk (· = .bool true)) (Nn:args.size=dk.length) (cN:∀(i:Nat)(x:PV),dk[i]? =some x->ba W bT x (args.getD i undef)):
  Calls P f args W fun e W'=>∃v,e= .returned v/\s.post enc P fn ap fresh handsOn xZ W args v W':=by
 refine(hF.2 W bT args (fun _ h=>h.elim) Nn cN).mono ?_;rintro e W' ⟨v,r,rfl,hx,hr,rfl⟩;have hv:v= .bool true:=by cases hr;rfl
 subst hv;refine⟨_,rfl,?_⟩;have Bg:=hW;obtain⟨p,q,hA,hV,rfl,hz,hn⟩:=hW;rw[BT]at hV;obtain⟨rfl,rfl⟩:=trodVars_none hV;simp only[Kak]at Bg hz hn;have ar:∀x∈p,x.block<W.heap.size:=fun x aW=>by simpa using Bg.lt x aW
 have VD:∀sp:Nat->Bool,(∀x∈p,sp x.block=true)->DataW.TrodAll enc P W' 0 sp true fn.params.toList args.toList ds p:=fun sp hs=>Og hl hm fY hx sp FH hA hs;have hR:∀(b:Nat)(sp:Nat->Bool)(hd:Bool),DataW.TrodAll enc P W' b sp hd fn.resultTypes.toList ((Value.bool true).resultList fn.resultTypes.size) [.lit (.bool true)] []:=fun b sp hd=>by rw[dz];exact trodAll_mk1 ⟨1,by simp[DataW.trod,Value.cells,Xi]⟩
 have hold:∀x∈p,(fun b=>decide (b<W.heap.size)) x.block=true:=fun x aW=>by simpa using ar x aW
 refine⟨ds,[],p,[],p,[],Bg,?_,?_,?_,hx.keptBut _,fun _=>⟨?_,?_⟩⟩
 ·rw[Bt];exact hR _ _ _
 ·rw[Bt];simpa using VD _ hold
 ·rw[Bt,BT];rfl
 ·exact RowKit.ok_one dz rfl (RowKit.okWide_bool_mk Xi _)
 ·refine⟨[.lit (.bool true)]++ds,[],p,⟨[]++p,[],trodAll_append (VD _ (fun _ _=>rfl)) (hR _ _ _),?_,by simp,?_,?_⟩,?_⟩
  ·rw[BT];rfl
  ·intro b off hp;rw[hx.frozen (ar _ hp)];exact hz b off hp
  ·exact hn
  ·intro x aW _;exact aW
end
end Go.FW
namespace Go.FW
open Go
attribute [go_sem ↓] vcs aqc
attribute [go_sem] aqd aqe aqf aqg aiT ad7 ad8 aiU aiV aiW aiX ad9 aea alj alk Q76 aeb afi amy amz amA amB acj Q77 List.drop_succ_cons List.drop_zero List.take_succ_cons List.take_zero List.headD_cons List.cons_append List.nil_append aci am3 am2 aec afj afk and_true List.length_cons List.length_nil aib aic aid B0 afx abW afE ad3 ad4 ad5 ad6 afF ah6 ah7 adO afH afJ alc ah8 ah9 aia Rn Ro aiA bs1 bs2 aiC afB afC afD ah5 Nat.add_zero Sx abX Ve Int.toNat_natCast Nat.zero_add Option.map_some Option.map_none alf aiQ ali true_and RD adm acd Yi jR HJ DE aff Bool.and_true Bool.true_and Bool.and_false Bool.false_and decide_true decide_false List.contains_cons List.contains_nil Bool.or_false Bool.false_or Bool.or_true Bool.true_or List.any_cons List.any_nil Bool.false_eq_true cB.dst vk adE rT DC afu Bool.not_true Bool.not_false List.length_map List.map_cons List.map_nil alh Option.some.injEq jY List.getElem?_cons_zero List.getElem?_cons_succ Option.getD_some
attribute [go_sem] ai1 ai2 afV afW ai3 aeg akO ZL aiZ QL
theorem Dz0{p:Prop}(h:p:=by first|omega|rfl|(simp+decide only[go_sem]<;>rfl)|fail):p:=h
theorem Dz1{p A0:Prop}(x0:A0)(h:A0->p:=by intro x0;first|omega|rfl|(simp+decide only[go_sem,x0]<;>rfl)|fail):p:=h x0
theorem Dz2{p A0 A1:Prop}(x0:A0)(x1:A1)(h:A0->A1->p:=by intro x0 x1;first|omega|rfl|(simp+decide only[go_sem,x0,x1]<;>rfl)|fail):p:=h x0 x1
theorem Dz3{p A0 A1 A2:Prop}(x0:A0)(x1:A1)(x2:A2)(h:A0->A1->A2->p:=by intro x0 x1 x2;first|omega|rfl|(simp+decide only[go_sem,x0,x1,x2]<;>rfl)|fail):p:=h x0 x1 x2
theorem Dz4{p A0 A1 A2 A3:Prop}(x0:A0)(x1:A1)(x2:A2)(x3:A3)(h:A0->A1->A2->A3->p:=by intro x0 x1 x2 x3;first|omega|rfl|(simp+decide only[go_sem,x0,x1,x2,x3]<;>rfl)|fail):p:=h x0 x1 x2 x3
theorem Dz5{p A0 A1 A2 A3 A4:Prop}(x0:A0)(x1:A1)(x2:A2)(x3:A3)(x4:A4)(h:A0->A1->A2->A3->A4->p:=by intro x0 x1 x2 x3 x4;first|omega|rfl|(simp+decide only[go_sem,x0,x1,x2,x3,x4]<;>rfl)|fail):p:=h x0 x1 x2 x3 x4
theorem Dz6{p A0 A1 A2 A3 A4 A5:Prop}(x0:A0)(x1:A1)(x2:A2)(x3:A3)(x4:A4)(x5:A5)(h:A0->A1->A2->A3->A4->A5->p:=by intro x0 x1 x2 x3 x4 x5;first|omega|rfl|(simp+decide only[go_sem,x0,x1,x2,x3,x4,x5]<;>rfl)|fail):p:=h x0 x1 x2 x3 x4 x5
theorem Dz7{p A0 A1 A2 A3 A4 A5 A6:Prop}(x0:A0)(x1:A1)(x2:A2)(x3:A3)(x4:A4)(x5:A5)(x6:A6)(h:A0->A1->A2->A3->A4->A5->A6->p:=by intro x0 x1 x2 x3 x4 x5 x6;first|omega|rfl|(simp+decide only[go_sem,x0,x1,x2,x3,x4,x5,x6]<;>rfl)|fail):p:=h x0 x1 x2 x3 x4 x5 x6
theorem Dz8{p A0 A1 A2 A3 A4 A5 A6 A7:Prop}(x0:A0)(x1:A1)(x2:A2)(x3:A3)(x4:A4)(x5:A5)(x6:A6)(x7:A7)(h:A0->A1->A2->A3->A4->A5->A6->A7->p:=by intro x0 x1 x2 x3 x4 x5 x6 x7;first|omega|rfl|(simp+decide only[go_sem,x0,x1,x2,x3,x4,x5,x6,x7]<;>rfl)|fail):p:=h x0 x1 x2 x3 x4 x5 x6 x7
theorem Dz9{p A0 A1 A2 A3 A4 A5 A6 A7 A8:Prop}(x0:A0)(x1:A1)(x2:A2)(x3:A3)(x4:A4)(x5:A5)(x6:A6)(x7:A7)(x8:A8)(h:A0->A1->A2->A3->A4->A5->A6->A7->A8->p:=by intro x0 x1 x2 x3 x4 x5 x6 x7 x8;first|omega|rfl|(simp+decide only[go_sem,x0,x1,x2,x3,x4,x5,x6,x7,x8]<;>rfl)|fail):p:=h x0 x1 x2 x3 x4 x5 x6 x7 x8
theorem Dz10{p A0 A1 A2 A3 A4 A5 A6 A7 A8 A9:Prop}(x0:A0)(x1:A1)(x2:A2)(x3:A3)(x4:A4)(x5:A5)(x6:A6)(x7:A7)(x8:A8)(x9:A9)(h:A0->A1->A2->A3->A4->A5->A6->A7->A8->A9->p:=by intro x0 x1 x2 x3 x4 x5 x6 x7 x8 x9;first|omega|rfl|(simp+decide only[go_sem,x0,x1,x2,x3,x4,x5,x6,x7,x8,x9]<;>rfl)|fail):p:=h x0 x1 x2 x3 x4 x5 x6 x7 x8 x9
theorem Dz11{p A0 A1 A2 A3 A4 A5 A6 A7 A8 A9 im:Prop}(x0:A0)(x1:A1)(x2:A2)(x3:A3)(x4:A4)(x5:A5)(x6:A6)(x7:A7)(x8:A8)(x9:A9)(ep:im)(h:A0->A1->A2->A3->A4->A5->A6->A7->A8->A9->im->p:=by intro x0 x1 x2 x3 x4 x5 x6 x7 x8 x9 ep;first|omega|rfl|(simp+decide only[go_sem,x0,x1,x2,x3,x4,x5,x6,x7,x8,x9,ep]<;>rfl)|fail):p:=h x0 x1 x2 x3 x4 x5 x6 x7 x8 x9 ep
theorem Dz13{p A0 A1 A2 A3 A4 A5 A6 A7 A8 A9 im mC mD:Prop}(x0:A0)(x1:A1)(x2:A2)(x3:A3)(x4:A4)(x5:A5)(x6:A6)(x7:A7)(x8:A8)(x9:A9)(ep:im)(iO:mC)(iP:mD)(h:A0->A1->A2->A3->A4->A5->A6->A7->A8->A9->im->mC->mD->p:=by intro x0 x1 x2 x3 x4 x5 x6 x7 x8 x9 ep iO iP;first|omega|rfl|(simp+decide only[go_sem,x0,x1,x2,x3,x4,x5,x6,x7,x8,x9,ep,iO,iP]<;>rfl)|fail):p:=h x0 x1 x2 x3 x4 x5 x6 x7 x8 x9 ep iO iP
theorem Dz14{p A0 A1 A2 A3 A4 A5 A6 A7 A8 A9 im mC mD zj:Prop}(x0:A0)(x1:A1)(x2:A2)(x3:A3)(x4:A4)(x5:A5)(x6:A6)(x7:A7)(x8:A8)(x9:A9)(ep:im)(iO:mC)(iP:mD)(uQ:zj)(h:A0->A1->A2->A3->A4->A5->A6->A7->A8->A9->im->mC->mD->zj->p:=by intro x0 x1 x2 x3 x4 x5 x6 x7 x8 x9 ep iO iP uQ;first|omega|rfl|(simp+decide only[go_sem,x0,x1,x2,x3,x4,x5,x6,x7,x8,x9,ep,iO,iP,uQ]<;>rfl)|fail):p:=h x0 x1 x2 x3 x4 x5 x6 x7 x8 x9 ep iO iP uQ
theorem Sz0{p q:Prop}(h:q)(e:p=q:=by conv=>lhs;simp+decide (disch:=try exact Dz0) only[go_sem]):p:=e▸h
theorem Tz0{p:Prop}(h:p:=by simp+decide (disch:=try exact Dz0) only[go_sem]):p:=h
theorem cH{p:Prop}(h:p:=by simp+decide (disch:=try exact Dz0) only[go_sem]<;>rfl):p:=h
theorem Sz1{p q A0:Prop}(x0:A0)(h:q)(e:A0->p=q:=by intro x0;conv=>lhs;simp+decide (disch:=try exact Dz1 @x0) only[go_sem,x0]):p:=(e x0)▸h
theorem Tz1{p A0:Prop}(x0:A0)(h:A0->p:=by intro x0;simp+decide (disch:=try exact Dz1 @x0) only[go_sem,x0]):p:=h x0
theorem Tzr1{p A0:Prop}(x0:A0)(h:A0->p:=by intro x0;simp+decide (disch:=try exact Dz1 @x0) only[go_sem,x0]<;>rfl):p:=h x0
theorem Sz2{p q A0 A1:Prop}(x0:A0)(x1:A1)(h:q)(e:A0->A1->p=q:=by intro x0 x1;conv=>lhs;simp+decide (disch:=try exact Dz2 @x0 @x1) only[go_sem,x0,x1]):p:=(e x0 x1)▸h
theorem Tz2{p A0 A1:Prop}(x0:A0)(x1:A1)(h:A0->A1->p:=by intro x0 x1;simp+decide (disch:=try exact Dz2 @x0 @x1) only[go_sem,x0,x1]):p:=h x0 x1
theorem Sz3{p q A0 A1 A2:Prop}(x0:A0)(x1:A1)(x2:A2)(h:q)(e:A0->A1->A2->p=q:=by intro x0 x1 x2;conv=>lhs;simp+decide (disch:=try exact Dz3 @x0 @x1 @x2) only[go_sem,x0,x1,x2]):p:=(e x0 x1 x2)▸h
theorem Tz3{p A0 A1 A2:Prop}(x0:A0)(x1:A1)(x2:A2)(h:A0->A1->A2->p:=by intro x0 x1 x2;simp+decide (disch:=try exact Dz3 @x0 @x1 @x2) only[go_sem,x0,x1,x2]):p:=h x0 x1 x2
theorem Sz4{p q A0 A1 A2 A3:Prop}(x0:A0)(x1:A1)(x2:A2)(x3:A3)(h:q)(e:A0->A1->A2->A3->p=q:=by intro x0 x1 x2 x3;conv=>lhs;simp+decide (disch:=try exact Dz4 @x0 @x1 @x2 @x3) only[go_sem,x0,x1,x2,x3]):p:=(e x0 x1 x2 x3)▸h
theorem Tz4{p A0 A1 A2 A3:Prop}(x0:A0)(x1:A1)(x2:A2)(x3:A3)(h:A0->A1->A2->A3->p:=by intro x0 x1 x2 x3;simp+decide (disch:=try exact Dz4 @x0 @x1 @x2 @x3) only[go_sem,x0,x1,x2,x3]):p:=h x0 x1 x2 x3
theorem Sz5{p q A0 A1 A2 A3 A4:Prop}(x0:A0)(x1:A1)(x2:A2)(x3:A3)(x4:A4)(h:q)(e:A0->A1->A2->A3->A4->p=q:=by intro x0 x1 x2 x3 x4;conv=>lhs;simp+decide (disch:=try exact Dz5 @x0 @x1 @x2 @x3 @x4) only[go_sem,x0,x1,x2,x3,x4]):p:=(e x0 x1 x2 x3 x4)▸h
theorem Tz5{p A0 A1 A2 A3 A4:Prop}(x0:A0)(x1:A1)(x2:A2)(x3:A3)(x4:A4)(h:A0->A1->A2->A3->A4->p:=by intro x0 x1 x2 x3 x4;simp+decide (disch:=try exact Dz5 @x0 @x1 @x2 @x3 @x4) only[go_sem,x0,x1,x2,x3,x4]):p:=h x0 x1 x2 x3 x4
theorem Sz6{p q A0 A1 A2 A3 A4 A5:Prop}(x0:A0)(x1:A1)(x2:A2)(x3:A3)(x4:A4)(x5:A5)(h:q)(e:A0->A1->A2->A3->A4->A5->p=q:=by intro x0 x1 x2 x3 x4 x5;conv=>lhs;simp+decide (disch:=try exact Dz6 @x0 @x1 @x2 @x3 @x4 @x5) only[go_sem,x0,x1,x2,x3,x4,x5]):p:=(e x0 x1 x2 x3 x4 x5)▸h
theorem Sz7{p q A0 A1 A2 A3 A4 A5 A6:Prop}(x0:A0)(x1:A1)(x2:A2)(x3:A3)(x4:A4)(x5:A5)(x6:A6)(h:q)(e:A0->A1->A2->A3->A4->A5->A6->p=q:=by intro x0 x1 x2 x3 x4 x5 x6;conv=>lhs;simp+decide (disch:=try exact Dz7 @x0 @x1 @x2 @x3 @x4 @x5 @x6) only[go_sem,x0,x1,x2,x3,x4,x5,x6]):p:=(e x0 x1 x2 x3 x4 x5 x6)▸h
theorem Sz8{p q A0 A1 A2 A3 A4 A5 A6 A7:Prop}(x0:A0)(x1:A1)(x2:A2)(x3:A3)(x4:A4)(x5:A5)(x6:A6)(x7:A7)(h:q)(e:A0->A1->A2->A3->A4->A5->A6->A7->p=q:=by intro x0 x1 x2 x3 x4 x5 x6 x7;conv=>lhs;simp+decide (disch:=try exact Dz8 @x0 @x1 @x2 @x3 @x4 @x5 @x6 @x7) only[go_sem,x0,x1,x2,x3,x4,x5,x6,x7]):p:=(e x0 x1 x2 x3 x4 x5 x6 x7)▸h
theorem Sz9{p q A0 A1 A2 A3 A4 A5 A6 A7 A8:Prop}(x0:A0)(x1:A1)(x2:A2)(x3:A3)(x4:A4)(x5:A5)(x6:A6)(x7:A7)(x8:A8)(h:q)(e:A0->A1->A2->A3->A4->A5->A6->A7->A8->p=q:=by intro x0 x1 x2 x3 x4 x5 x6 x7 x8;conv=>lhs;simp+decide (disch:=try exact Dz9 @x0 @x1 @x2 @x3 @x4 @x5 @x6 @x7 @x8) only[go_sem,x0,x1,x2,x3,x4,x5,x6,x7,x8]):p:=(e x0 x1 x2 x3 x4 x5 x6 x7 x8)▸h
theorem Cx{p q A0 A1 A2 A3 A4 A5 A6 A7 A8 A9:Prop}(x0:A0)(x1:A1)(x2:A2)(x3:A3)(x4:A4)(x5:A5)(x6:A6)(x7:A7)(x8:A8)(x9:A9)(h:q)(e:A0->A1->A2->A3->A4->A5->A6->A7->A8->A9->p=q:=by intro x0 x1 x2 x3 x4 x5 x6 x7 x8 x9;conv=>lhs;simp+decide (disch:=try exact Dz10 @x0 @x1 @x2 @x3 @x4 @x5 @x6 @x7 @x8 @x9) only[go_sem,x0,x1,x2,x3,x4,x5,x6,x7,x8,x9]):p:=(e x0 x1 x2 x3 x4 x5 x6 x7 x8 x9)▸h
theorem Tz10{p A0 A1 A2 A3 A4 A5 A6 A7 A8 A9:Prop}(x0:A0)(x1:A1)(x2:A2)(x3:A3)(x4:A4)(x5:A5)(x6:A6)(x7:A7)(x8:A8)(x9:A9)(h:A0->A1->A2->A3->A4->A5->A6->A7->A8->A9->p:=by intro x0 x1 x2 x3 x4 x5 x6 x7 x8 x9;simp+decide (disch:=try exact Dz10 @x0 @x1 @x2 @x3 @x4 @x5 @x6 @x7 @x8 @x9) only[go_sem,x0,x1,x2,x3,x4,x5,x6,x7,x8,x9]):p:=h x0 x1 x2 x3 x4 x5 x6 x7 x8 x9
theorem Sz11{p q A0 A1 A2 A3 A4 A5 A6 A7 A8 A9 im:Prop}(x0:A0)(x1:A1)(x2:A2)(x3:A3)(x4:A4)(x5:A5)(x6:A6)(x7:A7)(x8:A8)(x9:A9)(ep:im)(h:q)(e:A0->A1->A2->A3->A4->A5->A6->A7->A8->A9->im->p=q:=by intro x0 x1 x2 x3 x4 x5 x6 x7 x8 x9 ep;conv=>lhs;simp+decide (disch:=try exact Dz11 @x0 @x1 @x2 @x3 @x4 @x5 @x6 @x7 @x8 @x9 @ep) only[go_sem,x0,x1,x2,x3,x4,x5,x6,x7,x8,x9,ep]):p:=(e x0 x1 x2 x3 x4 x5 x6 x7 x8 x9 ep)▸h
theorem Tz11{p A0 A1 A2 A3 A4 A5 A6 A7 A8 A9 im:Prop}(x0:A0)(x1:A1)(x2:A2)(x3:A3)(x4:A4)(x5:A5)(x6:A6)(x7:A7)(x8:A8)(x9:A9)(ep:im)(h:A0->A1->A2->A3->A4->A5->A6->A7->A8->A9->im->p:=by intro x0 x1 x2 x3 x4 x5 x6 x7 x8 x9 ep;simp+decide (disch:=try exact Dz11 @x0 @x1 @x2 @x3 @x4 @x5 @x6 @x7 @x8 @x9 @ep) only[go_sem,x0,x1,x2,x3,x4,x5,x6,x7,x8,x9,ep]):p:=h x0 x1 x2 x3 x4 x5 x6 x7 x8 x9 ep
theorem Sz13{p q A0 A1 A2 A3 A4 A5 A6 A7 A8 A9 im mC mD:Prop}(x0:A0)(x1:A1)(x2:A2)(x3:A3)(x4:A4)(x5:A5)(x6:A6)(x7:A7)(x8:A8)(x9:A9)(ep:im)(iO:mC)(iP:mD)(h:q)(e:A0->A1->A2->A3->A4->A5->A6->A7->A8->A9->im->mC->mD->p=q:=by intro x0 x1 x2 x3 x4 x5 x6 x7 x8 x9 ep iO iP;conv=>lhs;simp+decide (disch:=try exact Dz13 @x0 @x1 @x2 @x3 @x4 @x5 @x6 @x7 @x8 @x9 @ep @iO @iP) only[go_sem,x0,x1,x2,x3,x4,x5,x6,x7,x8,x9,ep,iO,iP]):p:=(e x0 x1 x2 x3 x4 x5 x6 x7 x8 x9 ep iO iP)▸h
theorem Tz13{p A0 A1 A2 A3 A4 A5 A6 A7 A8 A9 im mC mD:Prop}(x0:A0)(x1:A1)(x2:A2)(x3:A3)(x4:A4)(x5:A5)(x6:A6)(x7:A7)(x8:A8)(x9:A9)(ep:im)(iO:mC)(iP:mD)(h:A0->A1->A2->A3->A4->A5->A6->A7->A8->A9->im->mC->mD->p:=by intro x0 x1 x2 x3 x4 x5 x6 x7 x8 x9 ep iO iP;simp+decide (disch:=try exact Dz13 @x0 @x1 @x2 @x3 @x4 @x5 @x6 @x7 @x8 @x9 @ep @iO @iP) only[go_sem,x0,x1,x2,x3,x4,x5,x6,x7,x8,x9,ep,iO,iP]):p:=h x0 x1 x2 x3 x4 x5 x6 x7 x8 x9 ep iO iP
theorem Sz14{p q A0 A1 A2 A3 A4 A5 A6 A7 A8 A9 im mC mD zj:Prop}(x0:A0)(x1:A1)(x2:A2)(x3:A3)(x4:A4)(x5:A5)(x6:A6)(x7:A7)(x8:A8)(x9:A9)(ep:im)(iO:mC)(iP:mD)(uQ:zj)(h:q)(e:A0->A1->A2->A3->A4->A5->A6->A7->A8->A9->im->mC->mD->zj->p=q:=by intro x0 x1 x2 x3 x4 x5 x6 x7 x8 x9 ep iO iP uQ;conv=>lhs;simp+decide (disch:=try exact Dz14 @x0 @x1 @x2 @x3 @x4 @x5 @x6 @x7 @x8 @x9 @ep @iO @iP @uQ) only[go_sem,x0,x1,x2,x3,x4,x5,x6,x7,x8,x9,ep,iO,iP,uQ]):p:=(e x0 x1 x2 x3 x4 x5 x6 x7 x8 x9 ep iO iP uQ)▸h
theorem Ez0{p:Prop}(h:p:=by first|omega|rfl|(simp+decide only[go_sem,et,Kax,KaC,Kau,KaA,Kak]<;>rfl)|fail):p:=h
theorem Ez1{p A0:Prop}(x0:A0)(h:A0->p:=by intro x0;first|omega|rfl|(simp+decide only[go_sem,et,Kax,KaC,Kau,KaA,Kak,x0]<;>rfl)|fail):p:=h x0
theorem Ez2{p A0 A1:Prop}(x0:A0)(x1:A1)(h:A0->A1->p:=by intro x0 x1;first|omega|rfl|(simp+decide only[go_sem,et,Kax,KaC,Kau,KaA,Kak,x0,x1]<;>rfl)|fail):p:=h x0 x1
theorem Ez3{p A0 A1 A2:Prop}(x0:A0)(x1:A1)(x2:A2)(h:A0->A1->A2->p:=by intro x0 x1 x2;first|omega|rfl|(simp+decide only[go_sem,et,Kax,KaC,Kau,KaA,Kak,x0,x1,x2]<;>rfl)|fail):p:=h x0 x1 x2
theorem Ez4{p A0 A1 A2 A3:Prop}(x0:A0)(x1:A1)(x2:A2)(x3:A3)(h:A0->A1->A2->A3->p:=by intro x0 x1 x2 x3;first|omega|rfl|(simp+decide only[go_sem,et,Kax,KaC,Kau,KaA,Kak,x0,x1,x2,x3]<;>rfl)|fail):p:=h x0 x1 x2 x3
theorem Ez5{p A0 A1 A2 A3 A4:Prop}(x0:A0)(x1:A1)(x2:A2)(x3:A3)(x4:A4)(h:A0->A1->A2->A3->A4->p:=by intro x0 x1 x2 x3 x4;first|omega|rfl|(simp+decide only[go_sem,et,Kax,KaC,Kau,KaA,Kak,x0,x1,x2,x3,x4]<;>rfl)|fail):p:=h x0 x1 x2 x3 x4
theorem Ez6{p A0 A1 A2 A3 A4 A5:Prop}(x0:A0)(x1:A1)(x2:A2)(x3:A3)(x4:A4)(x5:A5)(h:A0->A1->A2->A3->A4->A5->p:=by intro x0 x1 x2 x3 x4 x5;first|omega|rfl|(simp+decide only[go_sem,et,Kax,KaC,Kau,KaA,Kak,x0,x1,x2,x3,x4,x5]<;>rfl)|fail):p:=h x0 x1 x2 x3 x4 x5
theorem eQ{p q:Prop}(h:q)(e:p=q:=by conv=>lhs;simp+decide (disch:=try exact Ez0) only[go_sem,et,Kax,KaC,Kau,KaA,Kak]):p:=e▸h
theorem yt{p:Prop}(h:p:=by simp+decide (disch:=try exact Ez0) only[go_sem,et,Kax,KaC,Kau,KaA,Kak]):p:=h
theorem Cy{p:Prop}(h:p:=by simp+decide (disch:=try exact Ez0) only[go_sem,et,Kax,KaC,Kau,KaA,Kak]<;>rfl):p:=h
theorem tZ{p q A0:Prop}(x0:A0)(h:q)(e:A0->p=q:=by intro x0;conv=>lhs;simp+decide (disch:=try exact Ez1 @x0) only[go_sem,et,Kax,KaC,Kau,KaA,Kak,x0]):p:=(e x0)▸h
theorem Uz1{p A0:Prop}(x0:A0)(h:A0->p:=by intro x0;simp+decide (disch:=try exact Ez1 @x0) only[go_sem,et,Kax,KaC,Kau,KaA,Kak,x0]):p:=h x0
theorem lk{p q A0 A1:Prop}(x0:A0)(x1:A1)(h:q)(e:A0->A1->p=q:=by intro x0 x1;conv=>lhs;simp+decide (disch:=try exact Ez2 @x0 @x1) only[go_sem,et,Kax,KaC,Kau,KaA,Kak,x0,x1]):p:=(e x0 x1)▸h
theorem amp{p A0 A1:Prop}(x0:A0)(x1:A1)(h:A0->A1->p:=by intro x0 x1;simp+decide (disch:=try exact Ez2 @x0 @x1) only[go_sem,et,Kax,KaC,Kau,KaA,Kak,x0,x1]<;>rfl):p:=h x0 x1
theorem AN{p q A0 A1 A2:Prop}(x0:A0)(x1:A1)(x2:A2)(h:q)(e:A0->A1->A2->p=q:=by intro x0 x1 x2;conv=>lhs;simp+decide (disch:=try exact Ez3 @x0 @x1 @x2) only[go_sem,et,Kax,KaC,Kau,KaA,Kak,x0,x1,x2]):p:=(e x0 x1 x2)▸h
theorem Je{p q A0 A1 A2 A3:Prop}(x0:A0)(x1:A1)(x2:A2)(x3:A3)(h:q)(e:A0->A1->A2->A3->p=q:=by intro x0 x1 x2 x3;conv=>lhs;simp+decide (disch:=try exact Ez4 @x0 @x1 @x2 @x3) only[go_sem,et,Kax,KaC,Kau,KaA,Kak,x0,x1,x2,x3]):p:=(e x0 x1 x2 x3)▸h
theorem Vq{p q A0 A1 A2 A3 A4:Prop}(x0:A0)(x1:A1)(x2:A2)(x3:A3)(x4:A4)(h:q)(e:A0->A1->A2->A3->A4->p=q:=by intro x0 x1 x2 x3 x4;conv=>lhs;simp+decide (disch:=try exact Ez5 @x0 @x1 @x2 @x3 @x4) only[go_sem,et,Kax,KaC,Kau,KaA,Kak,x0,x1,x2,x3,x4]):p:=(e x0 x1 x2 x3 x4)▸h
theorem Vz6{p q A0 A1 A2 A3 A4 A5:Prop}(x0:A0)(x1:A1)(x2:A2)(x3:A3)(x4:A4)(x5:A5)(h:q)(e:A0->A1->A2->A3->A4->A5->p=q:=by intro x0 x1 x2 x3 x4 x5;conv=>lhs;simp+decide (disch:=try exact Ez6 @x0 @x1 @x2 @x3 @x4 @x5) only[go_sem,et,Kax,KaC,Kau,KaA,Kak,x0,x1,x2,x3,x4,x5]):p:=(e x0 x1 x2 x3 x4 x5)▸h
variable {C : Ctx} {fr : Fr} {hp : HP} {R : Qh}
theorem OS{sk:List It}{x:SC}(s:Nat)(hd:(aK hp (fr s)).aE=true)(h:vc C R (.c (.loop x)::sk) (af fr s (aK hp (fr s))) (FW.cf hp (fr s).refs)):vc C R (.c (.loop x)::sk) fr hp:=by rw[u6]at h⊢;obtain⟨I,μ,⟨bI,aF,h1,jI⟩,h2⟩:=h;exact⟨I,μ,⟨bI,aF,(QO s hd).trans h1,jI⟩,h2⟩
end Go.FW
namespace Go.FW
open Go
variable {C : Ctx} {ρ : Nat -> Option Nat} {fr ay : Fr} {hp : HP} {w : World} {K R : Qh}
theorem cV.known{p:PV}{v:Value}(h:cV C ρ hp w p v):∀γ∈p.dZ,hp γ≠none:=by
 intro γ ak;cases p with
 |ax β o n=>simp[PV.dZ]at ak;subst ak;obtain⟨_,hb,h1,_⟩:=h;simp[h1]
 |aM β o n=>simp[PV.dZ]at ak;subst ak;obtain⟨_,hb,b,cap,h1,_⟩:=h;simp[h1]
 |np β o n=>cases h
 |_=>cases ak
theorem cW.known{p:PV}{v:Value}(h:cW C ρ hp w p v):(∀γ∈p.bS,hp γ≠none)/\∀γ∈p.eI,hp γ≠none:=by
 cases p with
 |mp β i o=>obtain⟨b,hb,h1,h2,_⟩:=h;simp[PV.bS,PV.eI,h2]
 |ax β o n=>obtain⟨hb,h1,_⟩:=h;simp[PV.bS,PV.eI,h1]
 |rb β o n=>obtain⟨b,u,_,_,_,_,hb,h1,_⟩:=h;simp[PV.bS,PV.eI,h1]
 |np γ i o=>obtain⟨_,b,hb,h1,h2,_⟩:=h;simp[PV.bS,PV.eI,h2]
 |aM γ o n=>obtain⟨_,hb,b,cap,h1,_⟩:=h;simp[PV.bS,PV.eI,h1]
 |_=>exact⟨(fun γ ak=>by cases ak),(fun γ ak=>by cases ak)⟩
theorem Qt.known{p:PV}{v:Value}(h:Qt C ρ hp w p v):(∀γ∈p.refs,hp γ≠none)/\∀γ∈p.bW,hp γ≠none:=by
 cases p with
 |mp β i o=>obtain⟨b,hb,h1,h2,_⟩:=h;simp[PV.refs,PV.bW,h2]
 |ax β o n=>obtain⟨hb,h1,_⟩:=h;simp[PV.refs,PV.bW,h1]
 |rb β o n=>obtain⟨b,u,_,_,_,_,hb,h1,_⟩:=h;simp[PV.refs,PV.bW,h1]
 |np γ i o=>obtain⟨_,b,hb,h1,h2,_⟩:=h;simp[PV.refs,PV.bW,h2]
 |aM γ o n=>obtain⟨_,hb,b,cap,h1,_⟩:=h;simp[PV.refs,PV.bW,h1]
 |aX cs=>obtain⟨vs,_,_,h2⟩:=h;refine⟨fun γ ak=>(by cases ak),fun γ ak=>?_⟩;obtain⟨x,hx,ak⟩:=Kaq.1 ak;obtain⟨i,hi⟩:=KaG hx;exact(h2 i x hi).known γ ak
 |ff cs=>obtain⟨vs,_,_,h2⟩:=h;refine⟨fun γ ak=>(by cases ak),fun γ ak=>?_⟩;obtain⟨x,hx,ak⟩:=Kaq.1 ak;obtain⟨i,hi⟩:=KaG hx;exact(h2 i x hi).known γ ak
 |fg cs q=>obtain⟨vs,u,_,_,h2,_⟩:=h;refine⟨fun γ ak=>(by cases ak),fun γ ak=>?_⟩;obtain⟨x,hx,ak⟩:=Kaq.1 ak;obtain⟨i,hi⟩:=KaG hx;exact(h2 i x hi).known γ ak
 | aN β e ty xs=>
  obtain⟨_,_,b,hb,cur,cap,_,g2,_,_,_,_,_,_,_,_,cu⟩:=h;refine⟨fun γ ak=>(by cases ak),fun γ ak=>?_⟩;rcases KaP.1 ak with rfl|ak
  ·simp[g2]
  ·obtain⟨x,hx,ak⟩:=Kaq.1 ak;obtain⟨y,hy,ak⟩:=Kaq.1 ak;obtain⟨i,hi⟩:=KaG hx;obtain⟨j,hj⟩:=KaG hy;exact(cu i x hi j y hj).known γ ak
 | fn f first cap=>
  obtain⟨fv,cv,_,_,_,h3,h4⟩:=h;have g:∀(l:List PV)(u:Array Value),(∀(i:Nat)(x:PV),l[i]? =some x->cW C ρ hp w x (u.getD i undef))->(∀γ∈l.flatMap PV.bS,hp γ≠none)/\∀γ∈l.flatMap PV.eI,hp γ≠none:=by
   intro l u hl;refine⟨fun γ ak=>?_,fun γ ak=>?_⟩<;>
   ·obtain⟨x,hx,ak⟩:=Kaq.1 ak;obtain⟨i,hi⟩:=KaG hx
    first|exact(hl i x hi).known.1 γ ak|exact(hl i x hi).known.2 γ ak
  refine⟨fun γ ak=>?_,fun γ ak=>?_⟩
  ·rcases KaT.1 ak with ak|ak
   ·exact(g first fv h3).1 γ ak
   ·exact(g cap cv h4).1 γ ak
  ·rcases KaT.1 ak with ak|ak
   ·exact(g first fv h3).2 γ ak
   ·exact(g cap cv h4).2 γ ak
 |_=>exact⟨(fun γ ak=>by cases ak),(fun γ ak=>by cases ak)⟩
def kR(β:Nat):Bool:=decide (2000000<=β)
def lI(β:Nat):Bool:=kR β||decide (β<1000000)
theorem akR{β:Nat}(h:lI β=false):kR β=false:=by simp[lI]at h;exact h.1
def iI:PV->PV
 |.aN _ _ _ _| .aX _| .ff _| .fg _ _=>.undef
 |p=>if p.refs.any kR||p.bW.any lI then .undef else p
def gj(F:Fr):Fr:=fun s=>iI (F s)
def rF(p:PV):Prop:=(∀β∈p.refs,kR β=false)/\(∀β∈p.bW,lI β=false)/\(∀γ e ty xs,p≠ .aN γ e ty xs)/\∀cs,p≠ .aX cs/\p≠ .ff cs/\∀q,p≠ .fg cs q
theorem adQ(p:PV):rF (iI p):=by
 have h0:rF .undef:=⟨(fun β h=>by cases h),(fun β h=>by cases h),(fun _ _ _ _ h=>by cases h),(fun _=>⟨(fun h=>by cases h),(fun h=>by cases h),fun _ h=>by cases h⟩)⟩
 unfold iI;split
 ·exact h0
 ·exact h0
 ·exact h0
 ·exact h0
 ·rename_i hn rj hn3 Na;split
  ·exact h0
  ·rename_i h;simp only[KbS,not_or,Bool.not_eq_true,Kbs]at h;exact⟨fun β al=>by simpa using h.1 β al,fun β al=>by simpa using h.2 β al,fun γ e ty xs=>hn γ e ty xs,fun cs=>⟨rj cs,hn3 cs,Na cs⟩⟩
theorem rF.kill{p:PV}(h:rF p){B:List Nat}:rF (if p.refs.any B.contains then .undef else p):=by
 split
 ·exact⟨(fun β h=>by cases h),(fun β h=>by cases h),(fun _ _ _ _ h=>by cases h),(fun _=>⟨(fun h=>by cases h),(fun h=>by cases h),fun _ h=>by cases h⟩)⟩
 ·exact h
theorem Oh{β:Nat}{p:PV}(h:∀γ∈p.refs,γ≠β):bZ β p=p:=by unfold bZ;rw[if_neg];intro hc;exact h β (by simpa using hc) rfl
theorem HV{β:Nat}{p:PV}(h:∀γ∈p.dZ,γ≠β):iE β p=p:=by
 cases p with
 |ax γ o n=>simp only[iE];rw[if_neg (h γ (by simp[PV.dZ]))]
 |aM γ o n=>simp only[iE];rw[if_neg (h γ (by simp[PV.dZ]))]
 |_=>rfl
theorem abY{β:Nat}{p:PV}(h:∀γ∈p.refs,γ≠β)(h2:∀γ∈p.bW,γ≠β)(h3:∀γ e ty xs,p≠ .aN γ e ty xs):dh β p=p:=by
 cases p with
 |aN γ e ty xs=>exact absurd rfl (h3 _ _ _ _)
 |aX cs=>
  simp only[dh];congr 1;conv=>rhs;rw[<-List.map_id cs]
  exact Ka9 fun x hx=>HV fun γ ak=>h2 γ (Kaq.2 ⟨x,hx,ak⟩)
 |ff cs=>
  simp only[dh];congr 1;conv=>rhs;rw[<-List.map_id cs]
  exact Ka9 fun x hx=>HV fun γ ak=>h2 γ (Kaq.2 ⟨x,hx,ak⟩)
 |fg cs q=>
  simp only[dh];congr 1;conv=>rhs;rw[<-List.map_id cs]
  exact Ka9 fun x hx=>HV fun γ ak=>h2 γ (Kaq.2 ⟨x,hx,ak⟩)
 |aM γ o n=>simp only[dh];rw[if_neg (h2 γ (by simp[PV.bW]))]
 |np γ i o=>simp only[dh];rw[if_neg (h2 γ (by simp[PV.bW]))]
 |fn f first cap=>simp only[dh];rw[if_neg,Oh h];intro hc;exact h2 β (by simpa[PV.bW]using hc) rfl
 |_=>exact Oh h
theorem Rx{β γ:Nat}(h:2000000<=β)(h2:kR γ=false):γ≠β:=by simp[kR]at h2;omega
abbrev dp(B:List Nat)(F:Fr):Fr:=bG B (gj F)
theorem xL(B:List Nat)(F:Fr)(s:Nat):rF (dp B F s):=(adQ (F s)).kill
theorem Oi{β:Nat}{B:List Nat}{F:Fr}(h:2000000<=β):fT β (dp B F)=dp B F:=by funext s;have hc:=xL B F s;exact abY (fun γ ak=>Rx h (hc.1 γ ak)) (fun γ ak=>Rx h (akR (hc.2.1 γ ak))) hc.2.2.1
theorem Oj{γ:Nat}{B:List Nat}{F:Fr}:iR γ (dp B F)=dp B F:=by
 funext s;have hc:=xL B F s;show jo γ (dp B F s)=_;generalize dp B F s=p at *
 cases p with
 |aN bF e ty xs=>exact absurd rfl (hc.2.2.1 _ _ _ _)
 |_=>rfl
theorem abZ{W:List (Nat×Nat)}{β:Nat}{J F:Fr}:fT β (aQ W J F)=aQ W (fT β J) (fT β F):=by funext s;unfold fT aQ;split<;>rfl
theorem ab0{W:List (Nat×Nat)}{β:Nat}{J F:Fr}:iR β (aQ W J F)=aQ W (iR β J) (iR β F):=by funext s;unfold iR aQ;split<;>rfl
theorem ab1{β d:Nat}{F:Fr}{v:PV}:fT β (af F d v)=af (fT β F) d (dh β v):=by funext s;unfold fT af;split<;>rfl
theorem ab2{β d:Nat}{F:Fr}{v:PV}:iR β (af F d v)=af (iR β F) d (jo β v):=by funext s;unfold iR af;split<;>rfl
theorem adR{β:Nat}{F:Fr}{s:Nat}:fT β F s=dh β (F s):=rfl
theorem adS{β:Nat}{F:Fr}{s:Nat}:iR β F s=jo β (F s):=rfl
theorem QQ(W:List (Nat×Nat))(B:List Nat):cj fr (aQ W fr (dp B fr)):=fun s=>by
 unfold aQ dp bG;split
 ·exact .inl rfl
 ·split
  ·exact .inr rfl
  ·unfold gj iI;split
   ·exact .inr rfl
   ·exact .inr rfl
   ·exact .inr rfl
   ·exact .inr rfl
   ·split
    ·exact .inr rfl
    ·exact .inl rfl
theorem Al{sk:List It}{x:SC}(cx:gy R sk)(W:List (Nat×Nat))(B:List Nat)(I:Nat->Fr->HP->Prop)(m0:Nat)(h0:I m0 fr hp)
  (h:∀m J hp,I m J hp->vc C R (.c x:: .el (vK W (dp B fr) I m)::sk) (aQ W J (dp B fr)) hp):vc C R (.c (.loop x)::sk) fr hp:=by
 refine zT (fun m ay an=>∃J,ay=aQ W J (dp B fr)/\I m J an) m0 (QQ W B).wk ⟨fr,rfl,h0⟩ ?_;rintro m _ an ⟨J,rfl,hI⟩;refine r8 cx.1 _ _ _ _ _ _ (Kac _) (.c x (.el ?_ cx.2)) (cj.refl _) (h m J an hI);rintro f f' ft hf ⟨J2,sP,m2,e2,hl,h2⟩;exact Ib hl (hf.wk.trans e2) ⟨J2,rfl,h2⟩
def jW(l:List (Nat×Nat)):List PV:=l.map fun x=>.ax x.1 0 x.2
def akS(d:Nat)(S:List Nat)(γ n:Nat)(x:PV)(fr:Fr):Fr:=fun s=>if s=γ then x else if S.contains s then .aM γ 0 n else bZ d (fr s)
theorem YH{tmps:Array Value}(h:aI C ρ fr hp tmps w){β b:Nat}{hb:HB}{l:List Nat}(hB:bN β=false)(al:hp β=some hb)(hl:β∈l)(bE:ρ β=some b):¬aH C ρ (cf hp l) b:=by
 have bc:=(h.own β hb al).eg;rw[bE]at bc;rintro(hx|⟨γ,hg,h1,h2,h3⟩)
 ·exact Ctx.L9 bc.1 (Ex hB) hx
 ·obtain⟨iw,g1,_,_,_,_,g6⟩:=zx h1;have:=h.inj γ β b (by simp[g1]) (by simp[al]) h3 bE;subst this;exact g6 h2 hl
theorem eU.snap{tmps:Array Value}(h:aI C ρ fr hp tmps w){β o n:Nat}{v:Value}{l:List Nat}{hb:HB}(hr:eU ρ hp w β o n v)(hB:bN β=false)(hl:β∈l)(al:hp β=some hb):Qu w (aH C ρ (cf hp l)) (.sl hb.e ((hb.xs.drop o).take n)) v:=by
 obtain⟨aw,g1,g2,g3⟩:=hr;rw[al]at g1;cases g1;rcases g3 with⟨g3,rfl,rfl,rfl⟩|⟨b,cap,g3,rfl,g5,g6⟩
 ·simp only[Kb5];exact .gT _ _ _ (Kby _)
 ·have bn:=h.own β hb al;have bc:=bn.eg;rw[g3]at bc;obtain⟨_,ar,cur,eY,c1,c2,c3,c4,c5⟩:=bc;obtain⟨cur',ty',d1,d2⟩:=g5;rw[c1]at d1;cases d1;have gA:o+cap=eY:=by rw[c2]at d2;exact(KbC bn.l6 d2).symm
  subst gA;have hlen:((hb.xs.drop o).take n).length=n:=by simp;omega
  have e9:∀(i:Nat)(x:PV),((hb.xs.drop o).take n)[i]? =some x->i<n/\hb.xs[o+i]? =some x:=fun i x hx=>by
   have hi:i<n:=by have:=(Kad.1 hx).1;omega
   rw[KaM hi,Kbb]at hx;exact⟨hi,hx⟩
  have:=Qu.sl (w:=w) (X:=aH C ρ (cf hp l)) hb.e ((hb.xs.drop o).take n) b (o*hb.e) cap (fun i j=>cur.getD ((o+i)*hb.e+j) undef) (YH h hB al hl g3) ar (by omega) (by omega)
   (fun i x hx=>(bn.len _ x (e9 i x hx).2).1)
   (fun i hi j hj=>by rw[hlen]at hi;have:=nT (i:=o+i) (e:=hb.e) (o:=0) (j:=j) (n:=hb.e) (cap:=o+cap) (by omega) (by omega) hj;rw[KaS]at this;rw[show o*hb.e+i*hb.e+j=(o+i)*hb.e+j by rw[KaF]];exact lM c1 (by rw[c2];exact this))
   (fun i x hx j y hy=>(c5 _ x (e9 i x hx).2 j y hy).freeze)
  rwa[hlen]at this
def ss(R:Qh):Qh:=fun fr hp=>∃ay an,Wk fr hp ay an/\R ay an
theorem afZ{an:HP}(hw:Wk fr hp ay an)(h:R ay an):ss R fr hp:=⟨ay,an,hw,h⟩
theorem tv(h:R fr hp):ss R fr hp:=⟨fr,hp,Wk.refl _ _,h⟩
theorem af0:KM (ss R) (ss R):=by rintro f f' hp hf ⟨ay,an,h1,h2⟩;exact⟨ay,an,hf.wk.trans h1,h2⟩
theorem Qm:gy (ss R) []:=⟨af0,.nil⟩
theorem af1{d γ m i:Nat}{k:IntKind}(h:i<m)(he:(hp γ).map (·.e)=some 1):dR 1 (.aM γ 0 m) (.int k (i:Int)) d fr hp K=K (af fr d (.np γ i 0)) hp:=by
 have e:(0:Int)<=(i:Int):=by omega
 simp[dR,e,h,he]
theorem af2{d γ o m:Nat}:oN (.aM γ o m) d fr hp K=K (af fr d (.int .i64 m)) hp:=rfl
theorem af3{e by_ ty ty' d β γ n:Nat}{xs:List PV}{y:PV}{fz:Bool}(hb:hp β=some ⟨e,ty,xs,false⟩)(hy:hp γ=some ⟨e,ty',[y],fz⟩)(h0:0<e)(hn:n=xs.length)(h1:(n+1)*by_<=140737488355328)(h2:n+1<=9223372036854775807)(hB:2000000<=β):
  iU e by_ ty (.ms β n) (.ms γ 1) d fr hp K=K (af (fT β fr) d (.ms β (n+1))) (Qz hp β ⟨e,ty,xs++[y],false⟩):=by
 subst hn;have b1:cd β=true:=by simp[cd];omega
 have b2:bN β=false:=by simp[bN];omega
 simp[iU,jE,hy,hb,h0,b1,b2,h1,h2]
theorem SX{α:Type}{f:α->PV}{y:α}{e by_ ty ty' d β γ n:Nat}{xs:List α}{fz:Bool}(hb:hp β=some ⟨e,ty,xs.map f,false⟩)(hy:hp γ=some ⟨e,ty',[f y],fz⟩)(h0:0<e)(hn:n=xs.length)(h1:(n+1)*by_<=140737488355328)(h2:n+1<=9223372036854775807)(hB:2000000<=β):
  iU e by_ ty (.ms β n) (.ms γ 1) d fr hp K=K (af (fT β fr) d (.ms β (n+1))) (Qz hp β ⟨e,ty,(xs++[y]).map f,false⟩):=by
 rw[af3 hb hy h0 (by simp[hn]) h1 h2 hB];simp
theorem ab3{β γ o n:Nat}(h:γ≠β):dh β (.aM γ o n)= .aM γ o n:=by simp only[dh];rw[if_neg h]
theorem adT{β γ o n:Nat}(h:γ≠β):dh β (.np γ o n)= .np γ o n:=by simp only[dh];rw[if_neg h]
theorem akT:
  (∀(β:Nat)(k:IntKind)(n:Int),dh β (.int k n)= .int k n)/\
  (∀(β:Nat)(b:Bool),dh β (.bool b)= .bool b)/\
  (∀(β e:Nat)(xs:List PV),dh β (.sl e xs)= .sl e xs)/\
  (∀(β:Nat)(cs:List PV),dh β (.agg cs)= .agg cs)/\
  (∀(β:Nat)(cs:List PV),dh β (.pt cs)= .pt cs)/\
  (∀(β:Nat),dh β .aa= .aa)/\
  (∀(β:Nat),dh β .undef= .undef)/\
  (∀(γ:Nat)(k:IntKind)(n:Int),jo γ (.int k n)= .int k n)/\
  (∀(γ:Nat)(b:Bool),jo γ (.bool b)= .bool b)/\
  (∀(γ e:Nat)(xs:List PV),jo γ (.sl e xs)= .sl e xs)/\
  (∀(γ:Nat)(cs:List PV),jo γ (.agg cs)= .agg cs)/\
  (∀(γ:Nat)(cs:List PV),jo γ (.pt cs)= .pt cs)/\
  (∀(γ:Nat),jo γ .aa= .aa)/\
  (∀(γ:Nat),jo γ .undef= .undef)/\
  (∀(γ β o n:Nat),jo γ (.ax β o n)= .ax β o n)/\
  (∀(γ β o n:Nat),jo γ (.mp β o n)= .mp β o n)/\
  (∀(γ β o n:Nat),jo γ (.rb β o n)= .rb β o n)/\
  (∀(γ β o n:Nat),jo γ (.aM β o n)= .aM β o n)/\
  (∀(γ β o n:Nat),jo γ (.np β o n)= .np β o n)/\
  (∀(β γ o n:Nat),bZ β (.aM γ o n)= .aM γ o n)/\
  (∀(β γ o n:Nat),bZ β (.np γ o n)= .np γ o n)/\
  (∀(β γ e ty:Nat)(xs:List PV),bZ β (.aN γ e ty xs)= .aN γ e ty xs)/\
  (∀(β:Nat),bZ β .undef= .undef)/\
  (∀(β:Nat)(cs:List PV),bZ β (.pt cs)= .pt cs):=by
 refine⟨?_,?_,?_,?_,?_,?_,?_,?_,?_,?_,?_,?_,?_,?_,?_,?_,?_,?_,?_,?_,?_,?_,?_,?_⟩<;>intros<;>rfl
theorem adU(β γ o n:Nat):dh β (.ax γ o n)=if γ=β then .undef else .ax γ o n:=OX β γ o n
theorem adV(β γ o n:Nat):dh β (.mp γ o n)=if γ=β then .undef else .mp γ o n:=OY β γ o n
end Go.FW
namespace Go.FW
open Go
variable {C : Ctx} {ρ : Nat -> Option Nat} {fr ay : Fr} {hp : HP} {w : World} {K R : Qh}
theorem af4{F:Fr}{s:Nat}:gj F s=iI (F s):=rfl
theorem akU:
  (∀(k:IntKind)(n:Int),iI (.int k n)= .int k n)/\
  (∀(b:Bool),iI (.bool b)= .bool b)/\
  (∀(e:Nat)(xs:List PV),iI (.sl e xs)= .sl e xs)/\
  (∀(cs:List PV),iI (.agg cs)= .agg cs)/\
  (∀(cs:List PV),iI (.pt cs)= .pt cs)/\
  (iI .aa= .aa)/\(iI .undef= .undef)/\
  (∀(β o n:Nat),iI (.ax β o n)=if kR β then .undef else .ax β o n)/\
  (∀(β o n:Nat),iI (.mp β o n)=if kR β then .undef else .mp β o n)/\
  (∀(β o n:Nat),iI (.rb β o n)=if kR β then .undef else .rb β o n)/\
  (∀(β o n:Nat),iI (.aM β o n)=if lI β then .undef else .aM β o n)/\
  (∀(β o n:Nat),iI (.np β o n)=if lI β then .undef else .np β o n):=by
 refine⟨fun _ _=>rfl,fun _=>rfl,fun _ _=>rfl,fun _=>rfl,fun _=>rfl,rfl,rfl,?_,?_,?_,?_,?_⟩<;>intros<;>simp[iI,PV.refs,PV.bW]
theorem aiD{β:Nat}:lI β=(kR β||decide (β<1000000)):=rfl
theorem aiE{β:Nat}:kR β=decide (2000000<=β):=rfl
theorem adW{d γ n:Nat}{S:List Nat}{x:PV}{s:Nat}:akS d S γ n x fr s=if s=γ then x else if S.contains s then .aM γ 0 n else bZ d (fr s):=rfl
theorem af5{by_ ty d:Nat}{k k':IntKind}{n c:Nat}(h2:n<=c)(h3:by_*c<=281474976710656)(h4:c<=9223372036854775807):
  nE 1 by_ ty .aa (.int k (n:Int)) (.int k' (c:Int)) d fr hp K=K (af (cK d fr) d (.ms d n)) (Qz hp d ⟨1,ty,List.replicate n .aa,false⟩):=by
 rw[Cr (e:=1) (by omega) rfl (by omega) (by omega) (by omega) (by omega)];rfl
theorem aiF{k c:Nat}(h:c<3000000):(3000000+k=c)=False:=by simp;omega
theorem af6{k c:Nat}(h:c<3000000):(c=3000000+k)=False:=by simp;omega
theorem aiG{k j:Nat}:(3000000+k=3000000+j)=(k=j):=by simp
attribute [go_sem] aiF af6 aiG af5 adW abZ ab0 ab1 ab2 adR adS Oi Oj akT adU adV ab3 adT af1 af2 af4 akU aiD aiE
end Go.FW
namespace Go.FW
open Go
variable {C C' : Ctx} {ρ bf : Nat -> Option Nat} {fr ay : Fr} {hp an : HP} {w : World} {K R : Qh}
theorem mT{sk:List It}{r:RT}{bI:Fr}{aF:HP}(hw:Wk fr hp bI aF)(h:vc C R (.o r::sk) bI aF):vc C R (.o (.wk r)::sk) fr hp:=by rw[Eu];exact⟨bI,aF,hw,h⟩
def dJ(σ:Nat->Nat):PV->PV
 |.mp β i o=>.mp (σ β) i o
 |.ax β o n=>.ax (σ β) o n
 |.rb β o n=>.rb (σ β) o n
 |.np β i o=>.np (σ β) i o
 |.aM β o n=>.aM (σ β) o n
 |p=>p
def fb(σ:Nat->Nat):PV->PV
 |.fn f a b=>.fn f (a.map (dJ σ)) (b.map (dJ σ))
 |.aX cs=>.aX (cs.map (dJ σ))
 |.ff cs=>.ff (cs.map (dJ σ))
 |.fg cs q=>.fg (cs.map (dJ σ)) q
 |.aN γ e ty xs=>.aN (σ γ) e ty (xs.map fun x=>g8 (x.bl.map (dJ σ)))
 |p=>dJ σ p
structure yq(σ:Nat->Nat)(ρ bf:Nat->Option Nat)(hp an:HP)(β:Nat):Prop where
 r:bf (σ β)=ρ β
 h:∀hb,hp β=some hb->∃fm,an (σ β)=some fm/\fm.e=hb.e/\fm.ty=hb.ty/\fm.xs=hb.xs
 b:cd β=true->cd (σ β)=true
theorem Qu.dJ{X:Nat->Prop}{σ:Nat->Nat}{p:PV}{v:Value}(h:Qu w X p v):FW.dJ σ p=p:=by cases h<;>rfl
theorem eU.jj{σ:Nat->Nat}{β o n:Nat}{v:Value}(h:eU ρ hp w β o n v)(hr:yq σ ρ bf hp an β):eU bf an w (σ β) o n v:=by obtain⟨hb,h1,h2,h3⟩:=h;obtain⟨aw,k1,k2,k3,k4⟩:=hr.h hb h1;refine⟨aw,k1,by rw[k4];exact h2,?_⟩;rw[hr.r,k2];exact h3
theorem oa.jj{σ:Nat->Nat}{γ o n:Nat}{v:Value}(h:oa ρ hp w γ o n v)(hr:yq σ ρ bf hp an γ):oa bf an w (σ γ) o n v:=by obtain⟨h0,hb,b,cap,h1,h2,h3⟩:=h;obtain⟨aw,k1,k2,k3,k4⟩:=hr.h hb h1;exact⟨hr.b h0,aw,b,cap,k1,by rw[hr.r];exact h2,by rw[k2];exact h3⟩
theorem Qu.sub{X X':Nat->Prop}{p:PV}{v:Value}(h:Qu w X p v)(hX:∀b,X' b->X b):Qu w X' p v:=h.mono (fun _ _ _=>rfl) (fun b _ hn hx=>hn (hX b hx)) (Kac _)
theorem cV.jj{σ:Nat->Nat}{p:PV}{v:Value}(h:cV C ρ hp w p v)(hX:∀b,aH C' bf an b->aH C ρ hp b)(hr:∀β∈p.dZ,yq σ ρ bf hp an β):cV C' bf an w (dJ σ p) v:=by
 cases p with
 |undef=>trivial
 |ax β o n=>exact⟨(hr β (by simp[PV.dZ])).b h.1,h.2.jj (hr β (by simp[PV.dZ]))⟩
 |aM γ o n=>exact oa.jj h (hr γ (by simp[PV.dZ]))
 |mp=>cases h
 |rb=>cases h
 |np=>cases h
 |_=>exact Qu.sub h hX
theorem cW.jj{σ:Nat->Nat}{p:PV}{v:Value}(h:cW C ρ hp w p v)(hX:∀b,aH C' bf an b->aH C ρ hp b)(hr:∀β∈p.bS++p.eI,yq σ ρ bf hp an β):cW C' bf an w (dJ σ p) v:=by
 cases p with
 |mp β i o=>have hq:=hr β (by simp[PV.bS]);obtain⟨b,hb,h1,h2,h3⟩:=h;obtain⟨aw,k1,k2,k3,k4⟩:=hq.h hb h2;exact⟨b,aw,by rw[hq.r];exact h1,k1,by rw[k2];exact h3⟩
 |ax β o n=>exact eU.jj h (hr β (by simp[PV.bS]))
 |rb β o n=>obtain⟨b,u,h1,h2,h3,h4,h5⟩:=h;exact⟨b,u,h1,h2,fun hx=>h3 (hX b hx),h4,h5.jj (hr β (by simp[PV.bS]))⟩
 |np γ i o=>have hq:=hr γ (by simp[PV.bS,PV.eI]);obtain⟨h0,b,hb,h1,h2,h3⟩:=h;obtain⟨aw,k1,k2,k3,k4⟩:=hq.h hb h2;exact⟨hq.b h0,b,aw,by rw[hq.r];exact h1,k1,by rw[k2];exact h3⟩
 |aM γ o n=>exact oa.jj h (hr γ (by simp[PV.bS,PV.eI]))
 |_=>exact Qu.sub h hX
theorem SY{cs:List PV}(h:∀c∈cs,(∀ds,c≠ .agg ds)/\∀ds,c≠ .aX ds):(g8 cs).bl=cs:=by
 match cs,h with
 | [],_=>rfl
 | [c],h=>
  obtain⟨h1,h2⟩:=h c (by simp);cases c with
  |agg ds=>exact absurd rfl (h1 ds)
  |aX ds=>exact absurd rfl (h2 ds)
  |_=>rfl
 |c::d::cs,_=>simp only[g8,nU];split<;>rfl
theorem cV.one{p:PV}{v:Value}(h:cV C ρ hp w p v):(∀ds,p≠ .agg ds)/\∀ds,p≠ .aX ds:=by refine⟨fun ds e=>?_,fun ds e=>?_⟩<;>subst e<;>cases h
theorem Qt.jj{σ:Nat->Nat}{p:PV}{v:Value}(h:Qt C ρ hp w p v)(hX:∀b,aH C' bf an b->aH C ρ hp b)(hr:∀β∈p.refs++p.bW,yq σ ρ bf hp an β):Qt C' bf an w (fb σ p) v:=by
 have hV:∀q u,Qu w (aH C ρ hp) q u->Qu w (aH C' bf an) q u:=fun q u hq=>Qu.sub hq hX;cases p with
 |undef=>trivial
 |mp β i o=>exact cW.jj (w:=w) (p:=.mp β i o) h hX (by simpa[PV.refs,PV.bW,PV.bS,PV.eI]using hr)
 |ax β o n=>exact cW.jj (w:=w) (p:=.ax β o n) h hX (by simpa[PV.refs,PV.bW,PV.bS,PV.eI]using hr)
 |rb β o n=>exact cW.jj (w:=w) (p:=.rb β o n) h hX (by simpa[PV.refs,PV.bW,PV.bS,PV.eI]using hr)
 |np γ i o=>exact cW.jj (w:=w) (p:=.np γ i o) h hX (by simpa[PV.refs,PV.bW,PV.bS,PV.eI]using hr)
 |aM γ o n=>exact cW.jj (w:=w) (p:=.aM γ o n) h hX (by simpa[PV.refs,PV.bW,PV.bS,PV.eI]using hr)
 |aX cs=>obtain⟨vs,rfl,h1,h2⟩:=h;refine⟨vs,rfl,by simpa using h1,fun i x hi=>?_⟩;simp only[Kay,Kaa]at hi;obtain⟨y,hy,rfl⟩:=hi;exact(h2 i y hy).jj hX fun β al=>hr β (KbH _ (Kaq.2 ⟨y,Kai hy,al⟩))
 |ff cs=>obtain⟨vs,rfl,h1,h2⟩:=h;refine⟨vs,rfl,by simpa using h1,fun i x hi=>?_⟩;simp only[Kay,Kaa]at hi;obtain⟨y,hy,rfl⟩:=hi;exact(h2 i y hy).jj hX fun β al=>hr β (KbH _ (Kaq.2 ⟨y,Kai hy,al⟩))
 |fg cs q=>obtain⟨vs,u,rfl,h1,h2,h3⟩:=h;refine⟨vs,u,rfl,by simpa using h1,fun i x hi=>?_,h3.mono (fun _ _ _=>rfl) (fun b _ hn hx=>hn (hX b hx)) (Kac _)⟩;simp only[Kay,Kaa]at hi;obtain⟨y,hy,rfl⟩:=hi;exact(h2 i y hy).jj hX fun β al=>hr β (KbH _ (Kaq.2 ⟨y,Kai hy,al⟩))
 | aN γ e ty xs=>
  obtain⟨h0,he,b,hb,cur,cap,h1,h2,h3,h4,h5,h6,h7,h8,h9,bK,cu⟩:=h;have hq:=hr γ (by simp[PV.bW]);have key:∀(i:Nat)(x:PV),xs[i]? =some x->∀(j:Nat)(y:PV),x.bl[j]? =some y->cV C' bf an w (dJ σ y) (cur.getD (i*e+j) undef):=fun i x hx j y hy=>
   (cu i x hx j y hy).jj hX fun β al=>hr β (KbH _ (Kbm _ (Kaq.2 ⟨x,Kai hx,Kaq.2 ⟨y,Kai hy,al⟩⟩)))
  have kM:∀(i:Nat)(x:PV),xs[i]? =some x->(g8 (x.bl.map (dJ σ))).bl=x.bl.map (dJ σ):=fun i x hx=>by refine SY fun c hc=>?_;obtain⟨y,hy,rfl⟩:=KaE.1 hc;obtain⟨j,hj⟩:=KaG hy;exact(key i x hx j y hj).one
  obtain⟨aw,k1,k2,k3,k4⟩:=hq.h hb h2;refine⟨hq.b h0,he,b,aw,cur,cap,by rw[hq.r];exact h1,k1,by rw[k4];exact h3,by rw[k2];exact h4,by rw[k3];exact h5,h6,h7,by simpa using h8,h9,fun i x hx=>?_,fun i x hx j y hy=>?_⟩
  ·simp only[Kay,Kaa]at hx;obtain⟨x0,bw,rfl⟩:=hx;rw[kM i x0 bw,KaV];exact bK i x0 bw
  ·simp only[Kay,Kaa]at hx;obtain⟨x0,bw,rfl⟩:=hx;rw[kM i x0 bw,Kay,Kaa]at hy;obtain⟨y0,cX,rfl⟩:=hy;exact key i x0 bw j y0 cX
 | fn f first cap=>
  obtain⟨fv,cv,rfl,h1,h2,h3,h4⟩:=h;have hm:∀(l:List PV)(x:PV),x∈l->∀β∈x.bS++x.eI,β∈l.flatMap PV.bS++l.flatMap PV.eI:=fun l x hx β al=>by
   rcases KaT.1 al with al|al
   ·exact KcS _ (Kaq.2 ⟨x,hx,al⟩)
   ·exact KbH _ (Kaq.2 ⟨x,hx,al⟩)
  refine⟨fv,cv,rfl,by simpa using h1,by simpa using h2,fun i x hi=>?_,fun i x hi=>?_⟩
  ·simp only[Kay,Kaa]at hi;obtain⟨y,hy,rfl⟩:=hi;refine(h3 i y hy).jj hX fun β al=>hr β ?_;have:=hm first y (Kai hy) β al
   simp only[PV.refs,PV.bW,KaT]at this⊢;rcases this with h|h
   ·exact .inl (.inl h)
   ·exact .inr (.inl h)
  ·simp only[Kay,Kaa]at hi;obtain⟨y,hy,rfl⟩:=hi;refine(h4 i y hy).jj hX fun β al=>hr β ?_;have:=hm cap y (Kai hy) β al;simp only[PV.refs,PV.bW,KaT]at this⊢;rcases this with h|h
   ·exact .inl (.inr h)
   ·exact .inr (.inr h)
 |agg cs=>exact dH.move (p:=.agg cs) h hV
 |au cs=>exact dH.move (p:=.au cs) h hV
 |_=>exact hV _ _ h
theorem aiH(σ τ:Nat->Nat)(h1:∀β hb,hp β=some hb->an (σ β)=some hb/\τ (σ β)=β)(h2:∀γ hb,an γ=some hb->hp (τ γ)=some hb/\σ (τ γ)=γ)
  (hB:∀β,hp β≠none->cd β=true->cd (σ β)=true) (hY:∀β,hp β≠none->bN (σ β)=bN β/\(bN β=true->σ β=β)) (hf:∀s,ay s=fb σ (fr s)∨ay s= .undef):Wk fr hp ay an:=by
 rintro C tmps w ⟨ρ,hs⟩;obtain⟨bf,bE⟩:∃f:Nat->Option Nat,f=fun γ=>if an γ=none then none else ρ (τ γ):=⟨_,rfl⟩
 have hr:∀β,hp β≠none->yq σ ρ bf hp an β:=fun β al=>by obtain⟨hb,hq⟩:=KcR.1 al;obtain⟨a1,a2⟩:=h1 β hb hq;refine⟨?_,(fun hb hq=>⟨hb,(h1 β hb hq).1,rfl,rfl,rfl⟩),hB β al⟩;rw[bE];simp only[];rw[if_neg (by rw[a1];simp),a2]
 have aw:∀γ hb,an γ=some hb->bf γ=ρ (τ γ):=fun γ hb hq=>by rw[bE];simp only[];rw[if_neg (by rw[hq];simp)]
 have hX:∀b,aH C bf an b->aH C ρ hp b:=by
  rintro b (hx|⟨γ,hg,g1,g2,g3⟩)
  ·exact .inl hx
  ·rw[aw γ hg g1]at g3;exact .inr ⟨τ γ,hg,(h2 γ hg g1).1,g2,g3⟩
 refine⟨bf,hs.sz,hs.ext,hs.ij,fun γ hb ak=>?_,fun γ δ b g1 g2 g3 g4=>?_,fun i=>?_⟩
 ·obtain⟨a1,a2⟩:=h2 γ hb ak;obtain⟨q1,q2,q3,q4,q5⟩:=hs.own (τ γ) hb a1;obtain⟨y1,y2⟩:=hY (τ γ) (by simp[a1]);rw[a2]at y1 y2;refine⟨q1,q2,?_,fun hy=>?_,fun hR=>?_⟩
  rotate_left
  rotate_left
  ·have hy:bN γ=true:=by simp[ji]at hR;simp[bN];omega
   have e:=y2 (by rw[<-y1];exact hy);exact q5 (by rw[<-e];exact hR)
  ·rw[aw γ hb ak];cases hq:ρ (τ γ)with
   |none=>rw[hq]at q3;exact q3
   |some b=>
    rw[hq]at q3;refine⟨?_,q3.2.1,q3.2.2.move rfl rfl rfl rfl fun q u hq=>Qu.sub hq hX⟩;have:=q3.1;unfold Ctx.cls at this⊢;rw[y1];split at this
    ·rename_i hy;rw[if_pos hy,y2 hy];exact this
    ·rename_i hy;rw[if_neg hy];exact this
  ·rw[aw γ hb ak,q4 (by rw[<-y1];exact hy),<-y2 (by rw[<-y1];exact hy)]
 ·obtain⟨x1,k1⟩:=KcR.1 g1;obtain⟨x2,k2⟩:=KcR.1 g2;rw[aw γ x1 k1]at g3;rw[aw δ x2 k2]at g4;have:=hs.inj (τ γ) (τ δ) b (by rw[(h2 γ x1 k1).1];simp) (by rw[(h2 δ x2 k2).1];simp) g3 g4;rw[<-(h2 γ x1 k1).2,<-(h2 δ x2 k2).2,this]
 ·have cJ:=hs.fh i;rcases hf i with e|e
  ·rw[e];exact cJ.jj hX fun β al=>hr β (by
    rcases KaT.1 al with h|h
    ·exact cJ.known.1 β h
    ·exact cJ.known.2 β h)
  ·rw[e];trivial
def my(β δ x:Nat):Nat:=if x=β then δ else x
def o9(β δ:Nat)(fr:Fr):Fr:=fun s=>fb (my β δ) (fr s)
def B5(β δ:Nat)(hp:HP):HP:=fun x=>if x=δ then hp β else if x=β then none else hp x
theorem Gz(β δ:Nat)(lG:hp δ=none)(h2:2000000<=δ)(hY:bN β=false)(aO:β≠δ):Wk fr hp (o9 β δ fr) (B5 β δ hp):=by
 have bδ:cd δ=true:=by simp[cd];omega
 have yδ:bN δ=false:=by simp[bN];omega
 refine aiH (my β δ) (fun y=>if y=δ then β else y) (fun x hb hx=>?_) (fun y hb hy=>?_) (fun x hx hb=>?_) (fun x hx=>?_) (fun s=>.inl rfl)
 ·unfold my B5;by_cases e:x=β
  ·subst e;simp[hx]
  ·have e2:x≠δ:=fun e2=>by rw[e2,lG]at hx;cases hx
   simp[e,e2,hx]
 ·unfold B5 at hy;unfold my;by_cases e:y=δ
  ·subst e;simp at hy;simp[hy]
  ·rw[if_neg e]at hy;by_cases e2:y=β
   ·rw[if_pos e2]at hy;cases hy
   ·rw[if_neg e2]at hy;simp[e,e2,hy]
 ·unfold my;split
  ·exact bδ
  ·exact hb
 ·unfold my;split
  ·rename_i e;subst e;rw[yδ,hY];simp
  ·simp
theorem aiI{β δ x:Nat}:B5 β δ hp x=if x=δ then hp β else if x=β then none else hp x:=rfl
theorem aiJ{β δ s:Nat}:o9 β δ fr s=fb (my β δ) (fr s):=rfl
theorem aiK{β δ x:Nat}:my β δ x=if x=β then δ else x:=rfl
theorem af7{β δ d:Nat}{v:PV}:o9 β δ (af fr d v)=af (o9 β δ fr) d (fb (my β δ) v):=by funext s;unfold o9 af;split<;>rfl
theorem af8{W:List (Nat×Nat)}{β δ:Nat}{J F:Fr}:o9 β δ (aQ W J F)=aQ W (o9 β δ J) (o9 β δ F):=by funext s;unfold o9 aQ;split<;>rfl
theorem aiL{σ:Nat->Nat}{p:PV}(h:∀β∈p.bS++p.eI,σ β=β):dJ σ p=p:=by
 cases p with
 |mp β=>simp only[dJ];rw[h β (by simp[PV.bS])]
 |ax β=>simp only[dJ];rw[h β (by simp[PV.bS])]
 |rb β=>simp only[dJ];rw[h β (by simp[PV.bS])]
 |np β=>simp only[dJ];rw[h β (by simp[PV.bS,PV.eI])]
 |aM β=>simp only[dJ];rw[h β (by simp[PV.bS,PV.eI])]
 |_=>rfl
theorem af9{σ:Nat->Nat}{p:PV}(h:rF p)(sZ:∀β∈p.refs++p.bW,σ β=β):fb σ p=p:=by
 have hm:∀(l:List PV),(∀β∈l.flatMap PV.bS++l.flatMap PV.eI,σ β=β)->l.map (dJ σ)=l:=fun l hl=>by
  conv=>rhs;rw[<-List.map_id l]
  refine Ka9 fun x hx=>aiL fun β al=>hl β ?_;rcases KaT.1 al with al|al
  ·exact KcS _ (Kaq.2 ⟨x,hx,al⟩)
  ·exact KbH _ (Kaq.2 ⟨x,hx,al⟩)
 cases p with
 |aN γ e ty xs=>exact absurd rfl (h.2.2.1 _ _ _ _)
 |aX cs=>exact absurd rfl (h.2.2.2 _).1
 |ff cs=>exact absurd rfl (h.2.2.2 _).2.1
 |fg cs q=>exact absurd rfl ((h.2.2.2 _).2.2 _)
 | fn f a b=>
  simp only[fb];rw[hm a,hm b]
  ·intro β al;refine sZ β ?_;simp only[PV.refs,PV.bW,KaT]at al⊢;rcases al with h|h
   ·exact .inl (.inr h)
   ·exact .inr (.inr h)
  ·intro β al;refine sZ β ?_;simp only[PV.refs,PV.bW,KaT]at al⊢;rcases al with h|h
   ·exact .inl (.inl h)
   ·exact .inr (.inl h)
 |mp β=>simp only[fb,dJ];rw[sZ β (by simp[PV.refs])]
 |ax β=>simp only[fb,dJ];rw[sZ β (by simp[PV.refs])]
 |rb β=>simp only[fb,dJ];rw[sZ β (by simp[PV.refs])]
 |np β=>simp only[fb,dJ];rw[sZ β (by simp[PV.refs,PV.bW])]
 |aM β=>simp only[fb,dJ];rw[sZ β (by simp[PV.refs,PV.bW])]
 |_=>rfl
theorem adX{B:List Nat}{F:Fr}{s β:Nat}(h:β∈(dp B F s).refs):B.contains β=false:=by
 cases hq:B.contains β with
 |false=>rfl
 |true=>
  unfold dp bG at h;split at h
  ·cases h
  ·rename_i hn;exact absurd (Ka2.2 ⟨β,h,hq⟩) hn
theorem aga{B:List Nat}{F:Fr}{β δ:Nat}(al:B.contains β=true∨2000000<=β)(arQ:β<1000000∨2000000<=β):o9 β δ (dp B F)=dp B F:=by
 funext s;have hc:=xL B F s;refine af9 hc fun x hx=>if_neg fun e=>?_;subst e;rcases al with al|al
 ·rcases KaT.1 hx with h|h
  ·rw[adX h]at al;cases al
  ·have h1:=hc.2.1 x h;simp[lI,kR]at h1;omega
 ·rcases KaT.1 hx with h|h
  ·have:=hc.1 x h;simp[kR]at this;omega
  ·have:=hc.2.1 x h;simp[lI,kR]at this;omega
end Go.FW
namespace Go.FW
open Go
variable {C C' : Ctx} {ρ bf : Nat -> Option Nat} {fr ay : Fr} {hp an : HP} {w : World} {K R : Qh}
def fC(γ:Nat):PV->PV
 |.ax β o n=>if β=γ then .aM γ o n else .ax β o n
 |.mp β i o=>if β=γ then .np γ i o else .mp β i o
 |.rb β o n=>if β=γ then .undef else .rb β o n
 |p=>p
def ee(γ:Nat):PV->PV
 |.fn f a b=>bZ γ (.fn f a b)
 |.aX cs=>.aX (cs.map (fC γ))
 |.ff cs=>.ff (cs.map (fC γ))
 |.fg cs q=>.fg (cs.map (fC γ)) q
 |.aN bF e ty xs=>if bF=γ then .undef else .aN bF e ty (xs.map fun x=>g8 (x.bl.map (fC γ)))
 |p=>fC γ p
def yp(γ:Nat)(x:PV)(fr:Fr):Fr:=fun s=>if s=γ then x else ee γ (fr s)
theorem Gj {γ e ty:Nat} {xs:List PV} {fz:Bool} (ak:hp γ=some ⟨e,ty,xs,fz⟩) (h0:xs≠[]) (h2:2000000<=γ) (hd:∀x∈xs,x.bl=x.cells):Wk fr hp (yp γ (.aN γ e ty xs) fr) (Qz hp γ ⟨e,ty,[],fz⟩):=by
 rintro C tmps w ⟨ρ,hs⟩;have yw:cd γ=true:=by simp[cd];omega
 have bn:=hs.own γ _ ak;have bc:=bn.eg;obtain⟨b,bE⟩:∃b,ρ γ=some b:=by
  cases hq:ρ γ with
  |none=>rw[hq]at bc;exact absurd bc h0
  |some b=>exact⟨b,rfl⟩
 rw[bE]at bc;obtain⟨b1,b2,cur,cap,c1,c2,c3,c4,c5⟩:=bc;have l6:=bn.l6;obtain⟨an,qf⟩:∃f,f=Qz hp γ ⟨e,ty,[],fz⟩:=⟨_,rfl⟩
 rw[<-qf];have s8:an γ=some ⟨e,ty,[],fz⟩:=by rw[qf];simp[Qz]
 have po:∀β,β≠γ->an β=hp β:=fun β al=>by rw[qf];simp[Qz,al]
 have hX:aH C ρ an=aH C ρ hp:=by
  funext c;apply propext;constructor
  ·rintro(hx|⟨β,hb,g1,g2,g3⟩)
   ·exact .inl hx
   ·by_cases al:β=γ
    ·subst al;rw[s8]at g1;cases g1;exact .inr ⟨β,_,ak,g2,g3⟩
    ·rw[po β al]at g1;exact .inr ⟨β,hb,g1,g2,g3⟩
  ·rintro(hx|⟨β,hb,g1,g2,g3⟩)
   ·exact .inl hx
   ·by_cases al:β=γ
    ·subst al;rw[ak]at g1;cases g1;exact .inr ⟨β,_,s8,g2,g3⟩
    ·exact .inr ⟨β,hb,by rw[po β al];exact g1,g2,g3⟩
 have aG:ob w w (aH C ρ hp) (aH C ρ an):=by rw[hX];exact⟨fun _ _ _=>rfl,fun _ _ hn=>hn,Kac _⟩
 have c0:∀β,β≠γ->qy ρ ρ hp an w w β:=fun β al=>⟨rfl,fun hb hq=>⟨hb,by rw[po β al];exact hq,rfl,Kac _,fun _ _ _ h=>h,fun h=>⟨h,rfl,fun _ _=>rfl⟩⟩⟩
 have XX:∀ {o n:Nat} {v:Value},eU ρ hp w γ o n v->oa ρ an w γ o n v:=by
  rintro o n v ⟨hb,g1,g2,g3⟩;rw[ak]at g1;cases g1;rcases g3 with⟨g3,_⟩|⟨b',cp,g3,g4,g5,g6⟩
  ·rw[bE]at g3;cases g3
  ·rw[bE]at g3;cases g3;refine⟨yw,_,b,cp,s8,bE,g4,g5,g6,?_⟩;obtain⟨cur',ty',d1,d2⟩:=g5;rw[c1]at d1;cases d1;have:cap=o+cp:=KbC l6 (by rw[<-c2,<-d2]);simp only at g2 c3;omega
 have cell:∀ {p:PV} {v:Value},cV C ρ hp w p v->cV C ρ an w (fC γ p) v:=by
  intro p v h;cases p with
  |ax β o n=>
   by_cases al:β=γ
   ·subst al;simp only[fC,if_true];exact XX h.2
   ·simp only[fC,if_neg al];exact cV.move (p:=.ax β o n) h aG fun x hx=>by simp[PV.dZ]at hx;subst hx;exact(c0 _ al).Cm
  | aM β o n=>
   by_cases al:β=γ
   ·obtain⟨_,hb,b',cp,k1,k2,k3,k4,k5,k6⟩:=h;subst al;rw[ak]at k1;cases k1;exact⟨yw,_,b',cp,s8,k2,k3,k4,k5,k6⟩
   ·exact cV.move (p:=.aM β o n) h aG fun x hx=>by simp[PV.dZ]at hx;subst hx;exact(c0 _ al).Cm
  |mp=>cases h
  |rb=>cases h
  |np=>cases h
  |undef=>trivial
  |_=>exact cV.move h aG (fun x hx=>by cases hx)
 refine⟨ρ,hs.sz,hs.ext,hs.ij,fun β hb al=>?_,fun β δ c g1 g2 g3 g4=>?_,fun i=>?_⟩
 ·by_cases hq:β=γ
  ·subst hq;rw[s8]at al;cases al;refine⟨l6,(fun i x hx=>by simp at hx),?_,bn.fix,bn.ro⟩;rw[bE];exact⟨b1,b2,cur,cap,c1,c2,Kby _,c4,fun i x hx=>by simp at hx⟩
  ·rw[po β hq]at al;obtain⟨q1,q2,q3,q4,q5⟩:=hs.own β hb al;refine⟨q1,q2,?_,q4,q5⟩;cases hr:ρ β with
   |none=>rw[hr]at q3;exact q3
   |some c=>rw[hr]at q3;exact⟨q3.1,q3.2.1,q3.2.2.move rfl rfl rfl rfl aG.rc⟩
 ·have f:∀β,an β≠none->hp β≠none:=fun β al=>by
   by_cases hq:β=γ
   ·subst hq;simp[ak]
   ·rwa[po β hq]at al
  exact hs.inj β δ c (f β g1) (f δ g2) g3 g4
 ·have cJ:=hs.fh i;show Qt C ρ an w (yp γ (.aN γ e ty xs) fr i) _;unfold yp;split
  ·refine⟨yw,l6,b,_,cur,cap,bE,s8,rfl,rfl,rfl,c1,c2,c3,c4,fun k x hx=>?_,fun k x hx j y hy=>?_⟩
   ·rw[hd x (Kai hx)];exact(bn.len k x hx).1
   ·rw[hd x (Kai hx)]at hy;have:=c5 k x hx j y hy;have h3:Qu w (aH C ρ an) y (cur.getD (k*e+j) undef):=by rw[hX];exact this
    cases y with
    |undef=>trivial
    |ax=>cases h3
    |aM=>cases h3
    |_=>exact h3
  ·generalize fr i=p at cJ;cases p with
   |ax β o n=>
    by_cases al:β=γ
    ·subst al;simp only[ee,fC,if_true];exact XX cJ
    ·simp only[ee,fC,if_neg al];exact Qt.qu cJ aG (fun x hx=>by simp[PV.refs]at hx;subst hx;exact(c0 _ al).o) (fun x hx=>by cases hx)
   | mp β k o=>
    by_cases al:β=γ
    ·subst al;simp only[ee,fC,if_true];obtain⟨b',hb,g1,g2,g3⟩:=cJ;rw[ak]at g2;cases g2;exact⟨yw,b',_,g1,s8,g3⟩
    ·simp only[ee,fC,if_neg al];exact Qt.qu cJ aG (fun x hx=>by simp[PV.refs]at hx;subst hx;exact(c0 _ al).o) (fun x hx=>by cases hx)
   |rb β o n=>
    by_cases al:β=γ
    ·simp only[ee,fC,if_pos al];trivial
    ·simp only[ee,fC,if_neg al];exact Qt.qu cJ aG (fun x hx=>by simp[PV.refs]at hx;subst hx;exact(c0 _ al).o) (fun x hx=>by cases hx)
   | np β k o=>
    by_cases al:β=γ
    ·subst al;obtain⟨_,b',hb,g1,g2,g3⟩:=cJ;rw[ak]at g2;cases g2;exact⟨yw,b',_,g1,s8,g3⟩
    ·refine Qt.qu (p:=.np β k o) cJ aG (fun x hx=>by cases hx) (fun x hx=>?_);have e1:x=β:=by simpa[PV.bW]using hx
     rw[e1];exact c0 _ al
   |aM β o n=>exact cell (p:=.aM β o n) cJ
   |aX cs=>obtain⟨vs,e1,h1,h3⟩:=cJ;refine⟨vs,e1,by simpa using h1,fun k x hk=>?_⟩;simp only[Kay,Kaa]at hk;obtain⟨y,hy,rfl⟩:=hk;exact cell (h3 k y hy)
   |ff cs=>obtain⟨vs,e1,h1,h3⟩:=cJ;refine⟨vs,e1,by simpa using h1,fun k x hk=>?_⟩;simp only[Kay,Kaa]at hk;obtain⟨y,hy,rfl⟩:=hk;exact cell (h3 k y hy)
   |fg cs q=>obtain⟨vs,u,e1,h1,h3,h4⟩:=cJ;refine⟨vs,u,e1,by simpa using h1,fun k x hk=>?_,h4.mono aG.eg aG.out aG.size⟩;simp only[Kay,Kaa]at hk;obtain⟨y,hy,rfl⟩:=hk;exact cell (h3 k y hy)
   | aN β e' ty' ys=>
    simp only[ee];split
    ·trivial
    ·rename_i al;obtain⟨k0,he,b',hb,cur',eY,k1,k2,k3,k4,k5,k6,k7,k8,k9,B2,y3⟩:=cJ;have kM:∀(k:Nat)(x:PV),ys[k]? =some x->(g8 (x.bl.map (fC γ))).bl=x.bl.map (fC γ):=fun k x hx=>by refine SY fun c hc=>?_;obtain⟨y,hy,rfl⟩:=KaE.1 hc;obtain⟨j,hj⟩:=KaG hy;exact(cell (y3 k x hx j y hj)).one
     refine⟨k0,he,b',hb,cur',eY,k1,by rw[po β al];exact k2,k3,k4,k5,k6,k7,by simpa using k8,k9,fun k x hx=>?_,fun k x hx j y hy=>?_⟩
     ·simp only[Kay,Kaa]at hx;obtain⟨x0,bw,rfl⟩:=hx;rw[kM k x0 bw,KaV];exact B2 k x0 bw
     ·simp only[Kay,Kaa]at hx;obtain⟨x0,bw,rfl⟩:=hx;rw[kM k x0 bw,Kay,Kaa]at hy;obtain⟨y0,cX,rfl⟩:=hy;exact cell (y3 k x0 bw j y0 cX)
   | fn f a c=>
    simp only[ee,bZ];split
    ·trivial
    ·rename_i hn;have yQ:γ ∉ (PV.fn f a c).refs:=by simpa using hn
     by_cases hm:γ∈(PV.fn f a c).bW
     ·
      obtain⟨fv,cv,g1,g2,g3,g4,g5⟩:=cJ;have EI:∀ {x:PV} {v:Value},γ ∉ x.bS->cW C ρ hp w x v->cW C ρ an w x v:=by
       intro x v hx h;cases x with
       | np β k o=>
        by_cases al:β=γ
        ·subst al;obtain⟨_,b',hb,k1,k2,k3⟩:=h;rw[ak]at k2;cases k2;exact⟨yw,b',_,k1,s8,k3⟩
        ·exact cW.move (p:=.np β k o) h aG (fun x hx=>by cases hx) (fun x hx=>by simp[PV.eI]at hx;subst hx;exact(c0 _ al).Cm)
       |aM β o n=>exact cell (p:=.aM β o n) h
       |mp β k o=>exact cW.move (p:=.mp β k o) h aG (fun x aW=>by simp[PV.bS]at aW hx;subst aW;exact(c0 _ (fun e=>hx e.symm)).o) (fun x hx=>by cases hx)
       |ax β k o=>exact cW.move (p:=.ax β k o) h aG (fun x aW=>by simp[PV.bS]at aW hx;subst aW;exact(c0 _ (fun e=>hx e.symm)).o) (fun x hx=>by cases hx)
       |rb β k o=>exact cW.move (p:=.rb β k o) h aG (fun x aW=>by simp[PV.bS]at aW hx;subst aW;exact(c0 _ (fun e=>hx e.symm)).o) (fun x hx=>by cases hx)
       |_=>exact cW.move h aG (fun x hx=>by cases hx) (fun x hx=>by cases hx)
      exact⟨fv,cv,g1,g2,g3,fun k x hk=>EI (fun hx=>yQ (GG hk γ hx)) (g4 k x hk),fun k x hk=>EI (fun hx=>yQ (GP hk γ hx)) (g5 k x hk)⟩
     ·exact Qt.qu cJ aG (fun x hx=>(c0 x (fun e=>yQ (e▸hx))).o) (fun x hx=>c0 x (fun e=>hm (e▸hx)))
   |_=>exact Qt.qu cJ aG (fun x hx=>by cases hx) (fun x hx=>by cases hx)
theorem adY{γ e ty:Nat}{xs xs':List PV}(D:Nat->Option (Nat×Nat))(yL:fr γ= .aN γ e ty xs)(hD:∀δ x,D δ=some x->hp δ=none/\2000000<=δ/\0<x.1)(hl:xs'.length=xs.length)
  (hx:∀(i:Nat)(x x':PV),xs[i]? =some x->xs'[i]? =some x'->x'.bl.length=x.bl.length/\∀(j:Nat)(y y':PV),x.bl[j]? =some y->x'.bl[j]? =some y'->y'=y∨(y= .aa/\∃δ z,D δ=some z/\y'= .ax δ 0 0)):
  Wk fr hp (af fr γ (.aN γ e ty xs')) (fun δ=>match D δ with|some x=>some ⟨x.1,x.2,[],false⟩|none=>hp δ):=by
 rintro C tmps w ⟨ρ,hs⟩;obtain⟨an,qf⟩:∃f:HP,f=fun δ=>match D δ with|some x=>some ⟨x.1,x.2,[],false⟩|none=>hp δ:=⟨_,rfl⟩
 obtain⟨bf,Xz⟩:∃f:Nat->Option Nat,f=fun δ=>if(D δ).isSome then none else ρ δ:=⟨_,rfl⟩
 rw[<-qf];have pD:∀δ x,D δ=some x->an δ=some ⟨x.1,x.2,[],false⟩/\bf δ=none:=fun δ x lG=>by rw[qf,Xz];simp[lG]
 have po:∀δ,D δ=none->an δ=hp δ/\bf δ=ρ δ:=fun δ lG=>by rw[qf,Xz];simp[lG]
 have hk:∀β,hp β≠none->D β=none:=fun β al=>by
  cases hq:D β with
  |none=>rfl
  |some x=>exact absurd (hD β x hq).1 al
 have hX:∀c,aH C bf an c->aH C ρ hp c:=by
  rintro c (h|⟨β,hb,g1,g2,g3⟩)
  ·exact .inl h
  ·cases hq:D β with
   |none=>rw[(po β hq).1]at g1;rw[(po β hq).2]at g3;exact .inr ⟨β,hb,g1,g2,g3⟩
   |some x=>rw[(pD β x hq).2]at g3;cases g3
 have aG:ob w w (aH C ρ hp) (aH C bf an):=⟨fun _ _ _=>rfl,fun c _ hn h=>hn (hX c h),Kac _⟩
 have c0:∀β,hp β≠none->qy ρ bf hp an w w β:=fun β al=>⟨(po β (hk β al)).2,fun hb hq=>⟨hb,by rw[(po β (hk β al)).1];exact hq,rfl,Kac _,fun _ _ _ h=>h,fun h=>⟨h,rfl,fun _ _=>rfl⟩⟩⟩
 refine⟨bf,hs.sz,hs.ext,hs.ij,fun β hb al=>?_,fun β δ c g1 g2 g3 g4=>?_,fun i=>?_⟩
 ·cases hq:D β with
  |some x=>rw[(pD β x hq).1]at al;cases al;obtain⟨_,d2,d3⟩:=hD β x hq;refine⟨d3,(fun i x hx=>by simp at hx),?_,(fun h=>by simp[bN]at h;omega),fun h=>by simp[ji]at h;omega⟩;rw[(pD β x hq).2]
  |none=>
   rw[(po β hq).1]at al;obtain⟨q1,q2,q3,q4,q5⟩:=hs.own β hb al;refine⟨q1,q2,?_,(by rw[(po β hq).2];exact q4),q5⟩;rw[(po β hq).2];cases hr:ρ β with
   |none=>rw[hr]at q3;exact q3
   |some c=>rw[hr]at q3;exact⟨q3.1,q3.2.1,q3.2.2.move rfl rfl rfl rfl aG.rc⟩
 ·have f:∀β,an β≠none->∀c,bf β=some c->hp β≠none/\ρ β=some c:=fun β al c hc=>by
   cases hq:D β with
   |none=>rw[(po β hq).1]at al;rw[(po β hq).2]at hc;exact⟨al,hc⟩
   |some x=>rw[(pD β x hq).2]at hc;cases hc
  exact hs.inj β δ c (f β g1 c g3).1 (f δ g2 c g4).1 (f β g1 c g3).2 (f δ g2 c g4).2
 ·have M6:=(hs.fh i).known;have old:Qt C bf an w (fr i) (tmps.getD i undef):=(hs.fh i).qu aG (fun β al=>(c0 β (M6.1 β al)).o) (fun β al=>c0 β (M6.2 β al));unfold af;split
  ·rename_i hi;subst hi;rw[yL]at old;obtain⟨k0,he,b',hb,cur',eY,k1,k2,k3,k4,k5,k6,k7,k8,k9,B2,y3⟩:=old;have e9:∀(k:Nat)(x':PV),xs'[k]? =some x'->∃x,xs[k]? =some x:=fun k x' en=>by
    have:k<xs.length:=by have:=(Kad.1 en).1;omega
    exact⟨_,Kam this⟩
   refine⟨k0,he,b',hb,cur',eY,k1,k2,k3,k4,k5,k6,k7,by omega,k9,fun k x' en=>?_,fun k x' en j y' jO=>?_⟩
   ·obtain⟨x,sV⟩:=e9 k x' en;rw[(hx k x x' sV en).1];exact B2 k x sV
   ·obtain⟨x,sV⟩:=e9 k x' en;obtain⟨l1,l2⟩:=hx k x x' sV en;have hj:j<x.bl.length:=by have:=(Kad.1 jO).1;omega
    have hy:=Kam hj;have hr:=y3 k x sV j _ hy;rcases l2 j _ y' hy jO with e1|⟨e1,δ,z,e2,e3⟩
    ·rw[e1];exact hr
    ·rw[e1]at hr;obtain⟨_,d2,_⟩:=hD δ z e2;rw[e3];have hv:cur'.getD (k*e+j) undef= .slice none 0 0:=by generalize cur'.getD (k*e+j) undef=u at hr;cases hr;rfl
     exact⟨by simp[cd];omega,_,(pD δ z e2).1,Kac _,.inl ⟨(pD δ z e2).2,hv,rfl,rfl⟩⟩
  ·exact old
def B4:List PV->PV
 | [c]=>c
 |cs=>.agg cs
def ke(fr:Fr)(hp:HP):Nat->PV->PV
 |0,p=>p
 | k+1,p=>match p with
  |.ax β o n=>match hp β with
   |some hb=>.sl hb.e ((hb.xs.drop o).take n)
   |none=>.undef
  |.aM γ o n=>match fr γ with
   |.aN _ e _ xs=>.sl e (((xs.drop o).take n).map fun x=>B4 (x.bl.map (ke fr hp k)))
   |_=>.undef
  |p=>p
def uO(fr:Fr):Nat->PV->List Nat
 |0,_=>[]
 | k+1,p=>match p with
  |.ax β _ _=>[β]
  |.aM γ o n=>match fr γ with
   |.aN _ _ _ xs=>γ::(((xs.drop o).take n).flatMap fun x=>x.bl.flatMap (uO fr k))
   |_=>[]
  |_=>[]
def s0(fr:Fr):Nat->PV->Prop
 |0,p=>match p with
  |.undef| .ax _ _ _| .aM _ _ _=>False
  |_=>True
 | k+1,p=>match p with
  |.undef=>False
  |.ax β _ _=>bN β=false
  |.aM γ o n=>match fr γ with
   |.aN bF _ _ xs=>bF=γ/\bN γ=false/\o+n<=xs.length/\∀x∈(xs.drop o).take n,∀c∈x.bl,s0 fr k c
   |_=>False
  |_=>True
theorem agb{tmps:Array Value}(h:aI C ρ fr hp tmps w){β b:Nat}{hb:HB}{l:List Nat}(hB:bN β=false)(al:hp β=some hb)(hl:β∈l)(bE:ρ β=some b):¬aH C ρ (cf hp l) b:=by
 have bc:=(h.own β hb al).eg;rw[bE]at bc;rintro(hx|⟨γ,hg,h1,h2,h3⟩)
 ·exact Ctx.L9 bc.1 (Ex hB) hx
 ·obtain⟨iw,g1,_,_,_,_,g6⟩:=zx h1;have:=h.inj γ β b (by simp[g1]) (by simp[al]) h3 bE;subst this;exact g6 h2 hl
theorem ab4{cs:List PV}(h:∀c∈cs,c.cells=[c]):(B4 cs).cells=cs:=by
 match cs,h with
 | [],_=>rfl
 | [c],h=>exact h c (by simp)
 |_::_::_,_=>rfl
theorem IT{tmps:Array Value}(h:aI C ρ fr hp tmps w){l:List Nat}:∀(k:Nat) {p:PV} {v:Value},cV C ρ hp w p v->s0 fr k p->(∀β∈uO fr k p,β∈l)->Qu w (aH C ρ (cf hp l)) (ke fr hp k p) v
 |0,p,v,hr,ho,_=>by
  cases p with
  |undef=>cases ho
  |ax=>cases ho
  |aM=>cases ho
  |_=>exact Qu.freeze hr
 | k +1,p,v,hr,ho,hl=>by
  cases p with
  |undef=>cases ho
  |ax β o n=>
   obtain⟨hb,al⟩:∃hb,hp β=some hb:=by obtain⟨_,hb,h1,_⟩:=hr;exact⟨hb,h1⟩
   have:=eU.snap h hr.2 ho (hl β (by simp[uO])) al;simp only[ke,al];exact this
  | aM γ o n=>
   simp only[s0]at ho;split at ho
   ·rename_i bF e ty xs ak;obtain⟨rfl,hY,ho1,Nf⟩:=ho;have cJ:=h.fh bF;rw[ak]at cJ;obtain⟨k0,he,b,hb,cur,cap,k1,k2,k3,k4,k5,k6,k7,k8,k9,B2,y3⟩:=cJ;obtain⟨_,fm,b2,AW,g1,g2,rfl,g4,g5,g6⟩:=hr;rw[k2]at g1;cases g1;rw[k1]at g2;cases g2;have eo:bF∈l:=hl bF (by simp[uO,ak]);have hX:=agb (l:=l) h hY k2 eo k1;have ar:=(KaI.1 k6).1;obtain⟨cur',ty',d1,d2⟩:=g4;rw[k6]at d1;cases d1;rw[k4]at d2;have gA:cap=o+AW:=KbC he (by rw[<-k7,<-d2]);have key:∀i (x:PV),((xs.drop o).take n)[i]? =some x->i<n/\xs[o+i]? =some x:=fun i x hx=>by
     have hi:i<n:=by have:=(Kad.1 hx).1;simp at this;omega
     rw[KaM hi,Kbb]at hx;exact⟨hi,hx⟩
    have Vw:∀i (x:PV),((xs.drop o).take n)[i]? =some x->∀j (y:PV),x.bl[j]? =some y->Qu w (aH C ρ (cf hp l)) (ke fr hp k y) (cur.getD ((o+i)*e+j) undef):=fun i x hx j y hy=>by have fy:=Kai hx;refine IT h k (y3 (o+i) x (key i x hx).2 j y hy) (Nf x fy y (Kai hy)) fun β al=>hl β ?_;simp only[uO,ak];exact Kbm _ (Kaq.2 ⟨x,fy,Kaq.2 ⟨y,Kai hy,al⟩⟩)
    have kM:∀i (x:PV),((xs.drop o).take n)[i]? =some x->(B4 (x.bl.map (ke fr hp k))).cells=x.bl.map (ke fr hp k):=fun i x hx=>by refine ab4 fun c hc=>?_;obtain⟨y,hy,rfl⟩:=KaE.1 hc;obtain⟨j,hj⟩:=KaG hy;exact(Vw i x hx j y hj).rC.2.2
    simp only[ke,ak];have hlen:(((xs.drop o).take n).map fun x=>B4 (x.bl.map (ke fr hp k))).length=n:=by simp;omega
    have:=Qu.sl (w:=w) (X:=aH C ρ (cf hp l)) e (((xs.drop o).take n).map fun x=>B4 (x.bl.map (ke fr hp k))) b (o*hb.e) AW (fun i j=>cur.getD ((o+i)*e+j) undef) hX ar (by omega) (by omega)
     (fun i x hx=>by simp only[Kay,Kaa]at hx;obtain⟨x0,bw,rfl⟩:=hx;rw[kM i x0 bw,KaV];exact B2 _ x0 (key i x0 bw).2)
     (fun i hi j hj=>by rw[hlen]at hi;rw[k4];have:=nT (i:=o+i) (e:=e) (o:=0) (j:=j) (n:=e) (cap:=cap) (by omega) (by omega) hj;rw[KaS]at this;rw[show o*e+i*e+j=(o+i)*e+j by rw[KaF]];exact lM k6 (by rw[k7];exact this))
     (fun i x hx j y hy=>by simp only[Kay,Kaa]at hx;obtain⟨x0,bw,rfl⟩:=hx;rw[kM i x0 bw,Kay,Kaa]at hy;obtain⟨y0,cX,rfl⟩:=hy;exact Vw i x0 bw j y0 cX)
    rw[hlen]at this;exact this
   ·exact ho.elim
  |_=>exact Qu.freeze hr
def VA(fr:Fr)(hp:HP)(k:Nat):PV->PV
 |.aX cs=>.agg (cs.map (ke fr hp k))
 |p=>ke fr hp k p
def NR(fr:Fr)(k:Nat):PV->List Nat
 |.aX cs=>cs.flatMap (uO fr k)
 |p=>uO fr k p
def XJ(fr:Fr)(k:Nat):PV->Prop
 |.aX cs=>∀c∈cs,s0 fr k c
 |.aM γ o n=>s0 fr k (.aM γ o n)
 |_=>False
theorem aje(s k:Nat)(ho:XJ fr k (fr s)):Wk fr hp (af fr s (VA fr hp k (fr s))) (cf hp (NR fr k (fr s))):=by
 rintro C tmps w ⟨ρ,hs⟩;have hf:=hs.freeze (NR fr k (fr s));refine⟨ρ,hf.sz,hf.ext,hf.ij,hf.own,hf.inj,fun i=>?_⟩;unfold af;split
 ·rename_i hi;subst hi;have cJ:=hs.fh i;generalize aF:fr i=p at *
  cases p with
  |aX cs=>obtain⟨vs,e1,h1,h2⟩:=cJ;refine⟨vs,e1,by simpa using h1,fun j x hj=>?_⟩;simp only[Kay,Kaa]at hj;obtain⟨y,hy,rfl⟩:=hj;exact IT hs k (h2 j y hy) (ho y (Kai hy)) fun β al=>Kaq.2 ⟨y,Kai hy,al⟩
  |aM γ o n=>have:=IT (l:=uO fr k (.aM γ o n)) hs k (p:=.aM γ o n) cJ ho (fun β al=>al);exact Qt.lJ (ba.qw this)
  |_=>cases ho
 ·exact hf.fh i
end Go.FW
namespace Go.FW
open Go
variable {C : Ctx} {ρ : Nat -> Option Nat} {fr ay : Fr} {hp an : HP} {w w' : World} {K R : Qh}
def amw(args:List PV)(G:Fr):Fr:=fun s=>if s<1000000 then(args[s]?).getD .undef else G s
def PV.XK:PV->Bool
 |.ax β _ _=>cd β
 |.int .. | .bool _| .aa=>true
 |_=>false
def akV(fr:Fr)(s n:Nat)(cs:List PV):Prop:=∃γ i o e ty xs,fr s= .np γ i o/\fr γ= .aN γ e ty xs/\∃h:i<xs.length,o+n<=e/\rB true n o (xs[i]'h)= .aX cs
def NT(rs:List RV)(ck:PV->Fr->HP->Prop):Qh:=fun fr hp=>∃ay an,Wk fr hp ay an/\
 (gf rs (fun r=>ck r ay (cf an (rs.flatMap (lr ay)))) ay an∨(∃s,rs=[.t s]/\ck (ay s) ay an)∨(∃s t,rs=[.t s,.t t]/\(ay s).XK=true/\(ay t).XK=true/\ck (.ff [ay s,ay t]) ay an)∨∃s n b cs,rs=[.cell s n true,b]/\lr ay b=[]/\kC ay an b/\akV ay s n cs/\ck (.fg cs (jP ay an b)) ay an)
theorem agc{rs:List RV}{ck:PV->Fr->HP->Prop}:KM (NT rs ck) (NT rs ck):=by rintro f f' hp hf ⟨ay,an,h1,h2⟩;exact⟨ay,an,hf.wk.trans h1,h2⟩
theorem Qn{rs:List RV}{ck:PV->Fr->HP->Prop}:gy (NT rs ck) []:=⟨agc,.nil⟩
structure Cz(C:Ctx)(hp:HP)(aF:HP)(gv:Nat->Option Nat):Prop where
 g:∀β γ,gv β=some γ->∃hb,hp γ=some hb/\cd β=true/\(ji β=true->aF β=some ⟨hb.e,hb.ty,hb.xs,true⟩)/\(ji β=false->aF β=some hb/\hb.fz=false/\cd γ=true/\(bN β=false->bN γ=false))
 a:∀β,aF β≠none->∃γ,gv β=some γ
 i:∀β dB γ,gv β=some γ->gv dB=some γ->β=dB
def gn(gv:Nat->Option Nat):Nat->Option Nat:=fun β=>if ji β=true then none else gv β
theorem agd{gv:Nat->Option Nat}{β γ:Nat}(h:gn gv β=some γ):ji β=false/\gv β=some γ:=by
 unfold gn at h;split at h
 ·cases h
 ·rename_i hr;exact⟨by simpa using hr,h⟩
theorem Cz.n{C:Ctx}{hp aF:HP}{gv:Nat->Option Nat}(hh:Cz C hp aF gv)(β γ:Nat)(h:gn gv β=some γ):∃hb,aF β=some hb/\hp γ=some hb/\hb.fz=false/\cd β=true/\cd γ=true/\(bN β=false->bN γ=false):=by obtain⟨hr,h⟩:=agd h;obtain⟨hb,h1,h2,_,h4⟩:=hh.g β γ h;obtain⟨k1,k2,k3,k4⟩:=h4 hr;exact⟨hb,k1,h1,k2,h2,k3,k4⟩
theorem Cz.s{C:Ctx}{hp aF:HP}{gv:Nat->Option Nat}(hh:Cz C hp aF gv)(β γ:Nat)(h:gv β=some γ):∃hb aw,hp γ=some hb/\aF β=some aw/\aw.e=hb.e/\aw.ty=hb.ty/\aw.xs=hb.xs/\(aw.fz=false->hb=aw/\ji β=false)/\(ji β=true->aw.fz=true)/\cd β=true:=by
 obtain⟨hb,h1,h2,h3,h4⟩:=hh.g β γ h;cases hr:ji β with
 |true=>exact⟨hb,_,h1,h3 hr,rfl,rfl,rfl,(fun h=>by cases h),fun _=>rfl,h2⟩
 |false=>obtain⟨k1,k2,_⟩:=h4 hr;exact⟨hb,hb,h1,k1,rfl,rfl,rfl,(fun _=>⟨rfl,rfl⟩),(fun h=>by cases h),h2⟩
end Go.FW
namespace Go.FW
open Go
variable {C : Ctx} {R : Qh} {fr : Fr} {hp : HP} {K : Qh}
end Go.FW
