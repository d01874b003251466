/- Part 3 of the proof of TriangularElements: TPn, TM, FwPC, FwSA, FwSB, FwSC, FwTA, FwSet, FwSt, FwUB, FwNA, FwNB, FwND, FwNE, FwNF, FwSu. Own lemmas; no conditions. -/
import Derived.Test.YtdjoomkeehihmaaGreatTriangularElementsPart2
import Derived.WalkKit
import Derived.Shelf.Abstract
import Derived.OwnWalk
import Derived.OwnWalkIn
import Derived.TacticsInMore
import Derived.LoopNIn
import Derived.LoopIn
import Derived.Laws.EntriesVeiled
import Derived.Laws.Rows
import Derived.Deep.Onto
import Derived.Test.YtdjoomkeehihmaaGreatProg
import Derived.WalkMore
import Derived.Deep.LoopGhost
import Derived.Deep.MidRow
import Derived.Maps.Own
import Derived.Maps.OwnOps
import Derived.Maps.AppendAt
import Derived.Maps.Views
import Derived.ChangeSame
import Derived.ChangeStays
import Derived.Deep.Slices
import Derived.OpenShut
import Derived.RowKit
import Derived.ProofKit
import Derived.JoinedCond
set_option maxHeartbeats 1000000
set_option linter.unusedSimpArgs false
set_option linter.unusedVariables false
set_option linter.unnecessarySimpa false
set_option maxRecDepth 100000
namespace Go.Proofs.YtdjoomkeehihmaaGreat
open Go Go.FW Go.RowKit Go.Shelf
attribute [local go_sem] Oper.semAt_some
theorem apf:Tryz.prog.follows .mixedOrders=true:=by kernel_rfl
theorem qX(k:Nat):Fence.wide.depth.isSome=true->1<=k:=fun h=>by cases h
theorem zM{f:FuncId}{args:List PV}{R:PV->Prop}(h:Qc Tryz.prog f args R){bn:Array Value}{w:World}(hs:bn.size=args.length)(X:Nat->Prop)(hX:∀b,X b->b<w.heap.size)(hr:∀(i:Nat)(x:PV),args[i]? =some x->a9 w X x (bn.getD i undef))(n:Nat):
  CallsIn Fence.wide n Tryz.prog f bn w fun e w'=>∃v r,e= .returned v/\Ext bS w w'/\dF w' X r v/\R r:=callsIn_wide.2 (h.2 w X bn hX hs hr)
theorem akD:(Tryz.prog.info? 32).map (fun i=>(i.zero,i.size,i.bytes))=some (some (.slice none 0 0),1,24):=by kernel_rfl
theorem xg{w:World}{X:Nat->Prop}{e:Nat}{xs:List PV}{v:Value}(h:Qu w X (.sl e xs) v):∃a c,v= .slice a xs.length c:=by
 generalize hY:PV.sl e xs=Y at h;cases h with
 |gK _ a cap=>cases hY;exact⟨_,_,rfl⟩
 |sl _ _ b off cap=>cases hY;exact⟨_,_,rfl⟩
 |_=>cases hY
structure FN(X:Nat->Prop)(O Ab R:Nat)(base:Nat)(vq:Value)(ca:List Value)(es:List (List Tm))(W0 W:World):Prop where
 ex:Ext bS W0 W
 rb:W.heap[R]? =some (.cells #[.slice none 0 0,.slice none 0 0] 34 (0,0))
 ab:W.heap[Ab]? =some (.cells ca.toArray 43 (0,0))
 bx:∃(vo:Value)(vs:List Value),W.heap[O]? =some (.cells #[vq,vo] 34 (0,0))/\W.ownsRow base 32 1 vo es.length vs/\
  ∀j (h:j<es.length),Qu W (fun b=>X b∨b=O∨vo.ownBlock=some b∨b=R∨b=Ab) (PV.aj es[j]) (vs.getD j undef)
theorem Hk{w:World}{R:Nat}{ty:TypeId}(h:w.heap[R]? =some (.cells #[.slice none 0 0,.slice none 0 0] ty (0,0))):
  w.cell? ⟨R,0,none⟩=some (.slice none 0 0)/\w.cell? ⟨R,1,none⟩=some (.slice none 0 0)/\(w.setCell ⟨R,0,none⟩ (.slice none 0 0)).cell? ⟨R,1,none⟩=some (.slice none 0 0)/\w.frozen? ⟨R,0,none⟩=false/\
   (w.setCell ⟨R,0,none⟩ (.slice none 0 0)).frozen? ⟨R,1,none⟩=false/\((w.setCell ⟨R,0,none⟩ (.slice none 0 0)).setCell ⟨R,1,none⟩ (.slice none 0 0)).heap[R]? =some (.cells #[.slice none 0 0,.slice none 0 0] ty (0,0)):=by
 have h2:=heap_setCell_same w R 0 _ _ (.slice none 0 0) h;have h3:=heap_setCell_same (w.setCell ⟨R,0,none⟩ (.slice none 0 0)) R 1 _ _ (.slice none 0 0) h2;refine⟨?_,?_,?_,?_,?_,h3⟩
 ·simp only[World.cell?,h];rfl
 ·simp only[World.cell?,h];rfl
 ·simp only[World.cell?,h2];rfl
 ·simp only[World.frozen?,h];rfl
 ·simp only[World.frozen?,h2];rfl
theorem Iv{W w:World}(hE:Ext bS W w){R:Nat}(hR:W.heap.size<=R)(a b:Value):Ext bS W ((w.setCell ⟨R,0,none⟩ a).setCell ⟨R,1,none⟩ b):=by have e1:=Ext.setCell (Y:=fun b=>b=R) w ⟨R,0,none⟩ a rfl;have e2:=Ext.setCell (Y:=fun b=>b=R) (w.setCell ⟨R,0,none⟩ a) ⟨R,1,none⟩ b rfl;exact(hE.trans' e1 (fun i hi h=>by omega)).trans' e2 (fun i hi h=>by omega)
theorem Iw{w:World}{X:Nat->Prop}{e:Int}:dF w X (.aw [.agg [PV.aj [],PV.bX []],.int .i64 e]) (.tuple #[.agg #[.slice none 0 0,.slice none 0 0],.int .i64 e]):=by
 refine⟨_,rfl,rfl,fun k x hk=>?_⟩
 match k,hk with
 |0,hk=>
  cases hk;refine⟨_,rfl,rfl,fun k x hk=>?_⟩
  match k,hk with
  |0,hk=>cases hk;exact Qu.gK _ none 0 (Kbx _)
  |1,hk=>cases hk;exact Qu.gK _ none 0 (Kbx _)
  |k+2,hk=>simp at hk
 |1,hk=>cases hk;exact .int _ _
 |k+2,hk=>simp at hk
def oH(b1 b2 b3:Bool)(q:List Tm)(ds:List (List Tm)):PV:=
 if b1||b2 then .aw [.agg [PV.aj [],PV.bX []],.int .i64 4]else if decide (0<q.length)&&b3 then .aw [.agg [PV.aj [],PV.bX []],.int .i64 13]else .aw [.agg [PV.aj q,PV.bX ds],.int .i64 0]
set_option maxHeartbeats 4000000 in
theorem Zw {p q:List Tm} {cs ds:List (List Tm)} {a:Rat} {b1 b2 b3:Bool} (hlen:ds.length=cs.length) (hl:cs.length<=100) {vp vc:Value} {W:World} (X:Nat->Prop) (hX:∀b,X b->b<W.heap.size) (hp:Qu W X (PV.aj p) vp) (hc:Qu W X (PV.bX cs) vc)
  (vS:Qc Tryz.prog 120 [PV.aj p] (· = .aw [PV.aj q,PV.rat a])) (vT:∀i (h:i<cs.length),Qc Tryz.prog 121 [PV.aj cs[i],PV.rat a] (· =PV.aj (ds.getD i [])))
  (su:Qc Tryz.prog 61 [PV.aj q] (· = .bool b1))
  (AL:Qc Tryz.prog 122 [PV.bX ds,.fn 61 [] []] (· = .bool b2)) (AM:Qc Tryz.prog 123 [PV.aj q] (· = .bool b3)) (m:Nat):
  CallsIn Fence.wide m Tryz.prog 66 #[vp,vc] W fun e w'=>∃v,e= .returned v/\Ext bS W w'/\dF w' X (oH b1 b2 b3 q ds) v:=by
 refine callsIn_of_wp Tryz.func66 rfl trivial ?_ rfl;simp only[Tryz.ntmps66,KbL,KaW,Kbk,Nat.reduceAdd,Nat.reduceSub,Array.replicate_succ,Array.replicate_zero,List.push_toArray,List.append_toArray,KaM,KaP]
 gi_wp2
 refine⟨trivial,qX _,?_⟩;have LS:Ext bS W (W.alloc (.cells #[.slice none 0 0,.slice none 0 0] 34)):=Ext.tV _ _ _;have hXR:∀b,(X b∨b=W.heap.size)->b<(W.alloc (.cells #[.slice none 0 0,.slice none 0 0] 34)).heap.size:=by
  rintro b (hb|rfl)
  ·have:=hX b hb;simp;omega
  ·simp
 refine(zM vS rfl (fun b=>X b∨b=W.heap.size) hXR (fun i x hx=>?_) _).mono ?_
 ·match i,hx with
  |0,hx=>simp at hx;subst hx;exact a9.mono (p:=PV.aj p) hp (fun b hb _=>LS.block b hb id) (fun b hb h h'=>h'.elim h (fun h=>by omega)) LS.size
  |i+1,hx=>simp at hx
 rintro e w1 ⟨v,r,rfl,fq,cN,rfl⟩;obtain⟨vs,rfl,gI,hr⟩:=cN;obtain⟨vq,va,rfl⟩:∃vq va,vs= #[vq,va]:=by
  obtain⟨l⟩:=vs
  match l,gI with
  | [x,y],_=>exact⟨x,y,rfl⟩
 have hq:Qu w1 (fun b=>X b∨b=W.heap.size) (PV.aj q) vq:=hr 0 _ rfl;obtain⟨us,WC,hus,hu⟩:a9 w1 (fun b=>X b∨b=W.heap.size) (PV.rat a) va:=hr 1 _ rfl;obtain rfl:va= .agg us:=WC;obtain⟨u0,u1,u2,rfl⟩:∃u0 u1 u2,us= #[u0,u1,u2]:=by
  obtain⟨l⟩:=us
  match l,hus with
  | [x,y,z],_=>exact⟨x,y,z,rfl⟩
 have Bz:=hu 0 _ rfl;have BA:Qu w1 (fun b=>X b∨b=W.heap.size) (PV.num a.num.natAbs) u1:=hu 1 _ rfl;have wA:Qu w1 (fun b=>X b∨b=W.heap.size) (PV.num a.den) u2:=hu 2 _ rfl;have Bz:Qu w1 (fun b=>X b∨b=W.heap.size) (.bool (decide (a.num<0))) u0:=Bz;obtain⟨aq,cq,rfl⟩:=xg hq;obtain⟨a1,c1,rfl⟩:=xg BA;obtain⟨a2,c2,rfl⟩:=xg wA;obtain⟨ac,cc,rfl⟩:=xg hc;cases Bz;dsimp only
 gi_wp2
 obtain⟨W2,ud⟩:∃W2,W2=(w1.alloc (.cells #[.bool (decide (a.num<0)),.slice a1 (ah a.num.natAbs).length c1,.slice a2 (ah a.den).length c2] 43)).alloc (.cells #[.slice aq q.length cq,.slice none 0 0] 34):=⟨_,rfl⟩
 have gq:=fq.size;simp only[World.size_alloc]at gq;have od:Ext bS w1 W2:=by rw[ud];exact(Ext.tV _ _ _).trans (Ext.tV _ _ _)
 have fi:W2.heap.size=w1.heap.size+2:=by rw[ud];simp
 have hI0:FN X (w1.heap.size+1) w1.heap.size W.heap.size (w1.heap.size+2) (.slice aq q.length cq) [.bool (decide (a.num<0)),.slice a1 (ah a.num.natAbs).length c1,.slice a2 (ah a.den).length c2] (ds.take 0) w1 W2:=by
  refine⟨od,?_,?_,.slice none 0 0,[],?_,World.ownsRow_nil _ _ _ _,fun j h=>by simp at h⟩
  ·exact(od.block _ (by omega) id).trans ((fq.block _ (by simp) id).trans (World.alloc_heap_new W _))
  ·rw[ud];exact(Below.heap_alloc _ _ _ (by simp)).trans (World.alloc_heap_new w1 _)
  ·rw[ud];have:=World.alloc_heap_new (w1.alloc (.cells #[.bool (decide (a.num<0)),.slice a1 (ah a.num.natAbs).length c1,.slice a2 (ah a.den).length c2] 43)) (.cells #[.slice aq q.length cq,.slice none 0 0] 34);simp only[World.size_alloc]at this;exact this
 rw[<-ud];clear ud;have kG:(cs.map PV.aj).length=cs.length:=by simp
 gi_loopw [20] (fun v wr=>∃i:Nat,v= .int .i64 (i:Nat)/\i<=cs.length/\FN X (w1.heap.size+1) w1.heap.size W.heap.size (w1.heap.size+2) (.slice aq q.length cq) [.bool (decide (a.num<0)),.slice a1 (ah a.num.natAbs).length c1,.slice a2 (ah a.den).length c2] (ds.take i) w1 wr) (fun v _=>cs.length-(intOf v).toNat)
 case atStart=>exact⟨0,rfl,by omega,hI0⟩
 case round=>
  obtain⟨i,rfl,hi,hI⟩:=hrel;obtain⟨wo,hwo⟩:∃wo,wo=wr:=⟨_,rfl⟩
  subst hwo;obtain⟨vo,vs,hO,fQ,MV⟩:=hI.bx;have qV:=(LS.trans fq).trans hI.ex;by_cases m9:i<cs.length
  ·have gC:Qu W X (.sl 1 (cs.map PV.aj)) (.slice ac (cs.map PV.aj).length cc):=hc;generalize hY:cs.map PV.aj=Y at gC;cases gC with
   |gK=>rw[List.map_eq_nil_iff]at hY;subst hY;simp at m9
   | sl _ _ b off cap et yv hb hlc gj he hv ox=>
    subst hY;have cl:=hv i (by rw[kG];exact m9) 0 (by omega);have rl:=ox i (PV.aj cs[i]) (by rw[Kax,Kam m9];rfl) 0 _ rfl;generalize et i 0=ui at cl rl;simp only[KbF,KaU]at cl;have cl2:wo.cell? ⟨b,off+i,none⟩=some ui:=(World.cell?_of_block (w:=W) (a:=⟨b,off+i,none⟩) (qV.block b hb id)).trans cl;have d1:(i:Int)<((cs.map PV.aj).length:Int):=by rw[kG];omega
    have d2:(0:Int)<=(i:Int):=by omega
    gi_wp2
    rename_i K0 hK0;have VA:(ds.take i).length=i:=by rw[KaF];omega
    have hXw:∀x,X x->x<W.heap.size:=hX;obtain⟨i0,pY,z0,z1,z2⟩:=info_parts akD;have AP:=(KaH.1 hO).1;have LR:=(KaH.1 hI.ab).1;have uc:=(KaH.1 hI.rb).1;obtain⟨F4,ub⟩:∃F4:Value×World×Value×World->Prop,∀g,F4 g↔(∃a4 n4 c4,g.1= .slice a4 n4 c4)/\Ext bS wo g.2.1/\Qu g.2.1 (fun x=>X x∨x=w1.heap.size+1∨vo.ownBlock=some x∨x=W.heap.size∨x=w1.heap.size) (PV.aj (ds.getD i [])) g.1:=⟨_,fun _=>Iff.rfl⟩
    obtain⟨F6,jo⟩:∃F6:Value×World×Value×World->Prop,∀g,F6 g↔g.2.2.2.ownsRow (w1.heap.size+2) 32 1 g.2.2.1 (i+1) (vs++[g.1])/\(g.2.1.alloc (.cells #[g.1] 32)).grownBy g.2.2.2 vo.ownBlock/\(g.2.2.1.ownBlock=vo.ownBlock∨g.2.2.1.ownBlock=some (g.2.1.heap.size+1)):=⟨_,fun _=>Iff.rfl⟩
    refine Q9i (G:=Value×World×Value×World) apf 52 (fun g j=>match j with|0=>.pointer (some ⟨w1.heap.size+1,1,none⟩)|1=>vo|2=>ui|3=>.agg #[.bool (decide (a.num<0)),.slice a1 (ah a.num.natAbs).length c1,.slice a2 (ah a.den).length c2]|4=>g.1|5=>.slice (some ⟨g.2.1.heap.size,0,none⟩) 1 1|6=>g.2.2.1|7=>.pointer (some ⟨w1.heap.size+1,1,none⟩)|_=>undef)
     [(0,vp),(1,.slice (some ⟨b,off,none⟩) cs.length cc),(2,undef),(3,undef),(4,.pointer (some ⟨W.heap.size,0,none⟩)),(5,.int .i64 0),(6,.slice aq q.length cq),(7,.pointer (some ⟨w1.heap.size,0,none⟩)),(8,.pointer (some ⟨w1.heap.size+1,0,none⟩)),(9,undef),(10,ui),(11,.tuple #[.slice aq q.length cq,.agg #[.bool (decide (a.num<0)),.slice a1 (ah a.num.natAbs).length c1,.slice a2 (ah a.den).length c2]]),(12,vp),(13,.tuple #[.slice aq q.length cq,.agg #[.bool (decide (a.num<0)),.slice a1 (ah a.num.natAbs).length c1,.slice a2 (ah a.den).length c2]]),(14,.slice aq q.length cq),(15,.agg #[.bool (decide (a.num<0)),.slice a1 (ah a.num.natAbs).length c1,.slice a2 (ah a.den).length c2]),(16,.slice aq q.length cq),(17,.agg #[.slice aq q.length cq,.slice none 0 0]),(18,.slice (some ⟨b,off,none⟩) cs.length cc),(19,.int .i64 (cs.length:Nat)),(20,.int .i64 i),(33,undef),(34,undef),(35,undef),(36,undef),(37,undef),(38,undef),(39,undef),(40,undef),(41,undef),(42,undef),(43,undef),(44,undef),(45,undef),(46,undef),(47,undef),(48,undef),(49,undef),(50,undef),(51,undef)]
     (fun g q w=>(q 8=true/\w=g.2.2.2.setCell ⟨w1.heap.size+1,1,none⟩ g.2.2.1/\F4 g/\F6 g)∨(q 8=false/\q 6=true/\w=g.2.2.2/\F4 g/\F6 g)∨(q 6=false/\q 5=true/\w=g.2.1.alloc (.cells #[g.1] 32)/\F4 g)∨(q 5=false/\q 4=true/\w=g.2.1/\F4 g)∨(q 4=false/\w=wo.drew)) (by decide) ?_ ?_ ?_
    ·exact⟨(undef,wo,undef,wo),rfl,rfl,by simp,fun _ _ _ h=>(by cases h),fun _ h=>(by cases h),.inr (.inr (.inr (.inr ⟨rfl,rfl⟩)))⟩
    ·rintro qs j hj hq dq a3 w3 ⟨g,hT⟩;have f7:=hT.fixed (7,.pointer (some ⟨w1.heap.size,0,none⟩)) (by simp);have f8:=hT.fixed (8,.pointer (some ⟨w1.heap.size+1,0,none⟩)) (by simp);have f10:=hT.fixed (10,ui) (by simp);simp only at f7 f8 f10;have vQ:qs 6=false->Ext bS wo w3:=by
      intro h6;have h8:qs 8=false:=by
       cases h:qs 8 with
       |false=>rfl
       |true=>exact absurd (hT.cl 8 h 6 (by decide)) (by rw[h6];decide)
      rcases hT.wd with⟨h,_⟩|⟨_,h,_⟩|⟨_,_,h,hf⟩|⟨_,_,h,hf⟩|⟨_,h⟩
      ·rw[h8]at h;cases h
      ·rw[h6]at h;cases h
      ·rw[h];exact((ub g).1 hf).2.1.trans (Ext.tV _ _ _)
      ·rw[h];exact((ub g).1 hf).2.1
      ·rw[h];exact⟨rfl,rfl,rfl,Kac _,fun _ _ _=>rfl⟩
     match j,hj with
     |0,_=>refine mO.of (hT.val (w':=w3) dq (by rfl) rfl rfl rfl (fun c h=>by cases h) ?_ (by simpa using hT.wd));simp[execOp,go_sem,f8]
     |2,_=>refine mO.of (hT.val (w':=w3) dq (by rfl) rfl rfl rfl (fun c h=>by cases h) ?_ (by simpa using hT.wd));simp[execOp,go_sem,f10]
     |7,_=>refine mO.of (hT.val (w':=w3) dq (by rfl) rfl rfl rfl (fun c h=>by cases h) ?_ (by simpa using hT.wd));simp[execOp,go_sem,f8]
     | 1,_=>
      have h6:qs 6=false:=by
       cases h:qs 6 with
       |false=>rfl
       |true=>exact absurd (hT.cl 6 h 1 (by decide)) (by rw[hq];decide)
      have hO3:=((vQ h6).block _ AP id).trans hO;refine mO.of (hT.val (w':=w3) dq (by rfl) rfl rfl rfl (fun c h=>by cases h) ?_ (by simpa[h6]using hT.wd));have e24:a3.tmps[24]?.getD undef= .pointer (some ⟨w1.heap.size+1,1,none⟩):=hT.slot 0 _ 24 (dq 0 (by decide)) rfl rfl;simp[execOp,go_sem,e24,World.cell?,hO3]
     | 3,_=>
      have h6:qs 6=false:=by
       cases h:qs 6 with
       |false=>rfl
       |true=>exact absurd (hT.cl 4 (hT.cl 5 (hT.cl 6 h 5 (by decide)) 4 (by decide)) 3 (by decide)) (by rw[hq];decide)
      have hA3:=((vQ h6).block _ LR id).trans hI.ab;refine mO.of (hT.val (w':=w3) dq (by rfl) rfl rfl rfl (fun c h=>by cases h) ?_ (by simpa[h6]using hT.wd));simp[execOp,go_sem,f7,World.cell?,hA3]
     | 4,_=>
      have h5:qs 5=false:=by
       cases h:qs 5 with
       |false=>rfl
       |true=>exact absurd (hT.cl 5 h 4 (by decide)) (by rw[hq];decide)
      have h6:qs 6=false:=by
       cases h:qs 6 with
       |false=>rfl
       |true=>exact absurd (hT.cl 6 h 5 (by decide)) (by rw[h5];decide)
      have h8:qs 8=false:=by
       cases h:qs 8 with
       |false=>rfl
       |true=>exact absurd (hT.cl 8 h 6 (by decide)) (by rw[h6];decide)
      have hw:w3=wo.drew:=by
       rcases hT.wd with⟨h,_⟩|⟨_,h,_⟩|⟨_,h,_⟩|⟨_,h,_⟩|⟨_,h⟩
       ·rw[h8]at h;cases h
       ·rw[h6]at h;cases h
       ·rw[h5]at h;cases h
       ·rw[hq]at h;cases h
       ·exact h
      have e26:a3.tmps[26]?.getD undef=ui:=hT.slot 2 _ 26 (dq 2 (by decide)) rfl rfl;have e27:a3.tmps[27]?.getD undef= .agg #[.bool (decide (a.num<0)),.slice a1 (ah a.num.natAbs).length c1,.slice a2 (ah a.den).length c2]:=hT.slot 3 _ 27 (dq 3 (by decide)) rfl rfl;subst hw;have hED:Ext bS wo wo.drew:=⟨rfl,rfl,rfl,Kac _,fun _ _ _=>rfl⟩
      have fR:W.heap.size<=wo.heap.size:=qV.size;refine hT.alV dq rfl (by rfl) rfl rfl rfl rfl (vs:= #[ui,.agg #[.bool (decide (a.num<0)),.slice a1 (ah a.num.natAbs).length c1,.slice a2 (ah a.den).length c2]]) (by simp[Act.eval,e26,e27]) trivial (fun _ _=>rfl)
       (zM (vT i m9) rfl (fun x=>X x∨x=w1.heap.size+1∨vo.ownBlock=some x∨x=W.heap.size∨x=w1.heap.size) (fun x hx=>?_) (fun k x hx=>?_) 0) ?_
      ·show x<wo.heap.size;rcases hx with hx|rfl|hx|rfl|rfl
       ·exact KaN (hX x hx) fR
       ·exact AP
       ·exact(fQ.lt x hx).2
       ·exact uc
       ·exact LR
      ·have ho:∀b,vo.ownBlock=some b->w1.heap.size+2<=b:=fun b h=>(fQ.lt b h).1
       match k,hx with
       |0,hx=>
        simp at hx;subst hx;refine a9.mono (p:=PV.aj cs[i]) rl (fun b hb _=>qV.block b hb id) (fun b hb h h'=>?_) qV.size;rcases h' with h'|rfl|h'|rfl|rfl
        ·exact h h'
        ·omega
        ·have:=ho b h';omega
        ·omega
        ·omega
       | 1,hx=>
        simp at hx;subst hx;refine a9.mono (p:=PV.rat a) (w:=w1) (X:=fun b=>X b∨b=W.heap.size) ⟨_,rfl,rfl,fun k x hk=>?_⟩ (fun b hb _=>hI.ex.block b hb id) (fun b hb h h'=>?_) hI.ex.size
        ·match k,hk with
         |0,hk=>cases hk;exact .bool _
         |1,hk=>cases hk;simpa using BA
         |2,hk=>cases hk;simpa using wA
        ·rcases h' with h'|rfl|h'|rfl|rfl
         ·exact h (.inl h')
         ·omega
         ·have:=ho b h';omega
         ·exact h (.inr rfl)
         ·omega
       |k+2,hx=>simp at hx
      ·rintro e w' ⟨v,r,rfl,hE,cN,rfl⟩;refine⟨(v,w',g.2.2),rfl,fun j hj=>?_,.inr (.inr (.inr (.inl ⟨by simp[h5],by simp,rfl,(ub _).2 ⟨?_,hED.trans hE,cN⟩⟩)))⟩
       ·match j,hj with
        |0,_=>rfl
        |1,_=>rfl
        |2,_=>rfl
        |3,_=>rfl
        |4,h=>rw[hq]at h;cases h
        |5,h=>rw[h5]at h;cases h
        |6,h=>rfl
        |7,_=>rfl
        |j+8,_=>rfl
       ·obtain⟨x,c,h⟩:=xg cN;exact⟨x,_,c,h⟩
     | 5,_=>
      have h6:qs 6=false:=by
       cases h:qs 6 with
       |false=>rfl
       |true=>exact absurd (hT.cl 6 h 5 (by decide)) (by rw[hq];decide)
      have h4:qs 4=true:=dq 4 (by decide);have e28:a3.tmps[28]?.getD undef=g.1:=hT.slot 4 _ 28 h4 rfl rfl;have h8:qs 8=false:=by
       cases h:qs 8 with
       |false=>rfl
       |true=>exact absurd (hT.cl 8 h 6 (by decide)) (by rw[h6];decide)
      have hw:w3=g.2.1/\F4 g:=by
       rcases hT.wd with⟨h,_⟩|⟨_,h,_⟩|⟨_,h,_⟩|⟨_,_,h,hf⟩|⟨h,_⟩
       ·rw[h8]at h;cases h
       ·rw[h6]at h;cases h
       ·rw[hq]at h;cases h
       ·exact⟨h,hf⟩
       ·rw[h4]at h;cases h
      obtain⟨rfl,sD⟩:=hw;refine mO.of (hT.val (w':=g.2.1.alloc (.cells #[g.1] 32)) dq (by rfl) rfl rfl rfl (fun c h=>by cases h) ?_ (.inr (.inr (.inl ⟨by simp[h6],by simp,rfl,sD⟩))));obtain⟨a4,n4,c4,h1⟩:=((ub g).1 sD).1;simp[execOp,go_sem,e28,h1]
     | 6,_=>
      have h5:qs 5=true:=dq 5 (by decide);have h4:qs 4=true:=hT.cl 5 h5 4 (by decide);have h8:qs 8=false:=by
       cases h:qs 8 with
       |false=>rfl
       |true=>exact absurd (hT.cl 8 h 6 (by decide)) (by rw[hq];decide)
      have e25:a3.tmps[25]?.getD undef=vo:=hT.slot 1 _ 25 (dq 1 (by decide)) rfl rfl;have e29:a3.tmps[29]?.getD undef= .slice (some ⟨g.2.1.heap.size,0,none⟩) 1 1:=hT.slot 5 _ 29 h5 rfl rfl;have hw:w3=g.2.1.alloc (.cells #[g.1] 32)/\F4 g:=by
       rcases hT.wd with⟨h,_⟩|⟨_,h,_⟩|⟨_,_,h,hf⟩|⟨h,_⟩|⟨h,_⟩
       ·rw[h8]at h;cases h
       ·rw[hq]at h;cases h
       ·exact⟨h,hf⟩
       ·rw[h5]at h;cases h
       ·rw[h4]at h;cases h
      obtain⟨rfl,sD⟩:=hw;have f4:=(ub g).1 sD;obtain⟨a4,n4,c4,h1⟩:=f4.1;have aoB:(g.2.1.alloc (.cells #[g.1] 32)).ownsRow (w1.heap.size+2) 32 1 vo i vs:=by rw[VA]at fQ;exact(fQ.kept (row:=none) ⟨f4.2.1.os,f4.2.1.tape,f4.2.1.output,f4.2.1.size,fun k hk _=>f4.2.1.block k hk id⟩ (by cases vo.ownBlock<;>simp)).alloc _
      obtain⟨v',w',bo,wm,hg',_,ax⟩:=run_append_own_at (P:=Tryz.prog) (w:=g.2.1.alloc (.cells #[g.1] 32)) (w1.heap.size+2) 22 22 32 i0 (.slice none 0 0) 1 24 (by kernel_rfl) pY z0 z1 z2 rfl (by omega) vo i vs aoB
       ⟨g.2.1.heap.size,0,none⟩ 1 1 [g.1] rfl (fun j u hj=>by
        match j,hj with
        |0,hj=>simp at hj;subst hj;have hn:=World.alloc_heap_new g.2.1 (.cells #[g.1] 32);rw[Kbz];simp only[World.cell?,hn];rfl
        |j+1,hj=>simp at hj) (fun u hu=>by simp at hu;subst hu;rw[h1];rfl) (by simp only[maxLen];omega) (by omega) (by have:=hI.ex.size;have:=f4.2.1.size;simp;omega)
      have vU:iC _ _ ((fun(g:Value×World×Value×World) (j:Nat)=>match j with|0=>.pointer (some ⟨w1.heap.size+1,1,none⟩)|1=>vo|2=>ui|3=>.agg #[.bool (decide (a.num<0)),.slice a1 (ah a.num.natAbs).length c1,.slice a2 (ah a.den).length c2]|4=>g.1|5=>.slice (some ⟨g.2.1.heap.size,0,none⟩) 1 1|6=>g.2.2.1|7=>.pointer (some ⟨w1.heap.size+1,1,none⟩)|_=>undef) (g.1,g.2.1,v',w')) _ (fun k w=>k 6=false∨(k 8=false/\k 6=true/\w=w'/\F4 (g.1,g.2.1,v',w')/\F6 (g.1,g.2.1,v',w'))) qs a3 (g.2.1.alloc (.cells #[g.1] 32)):=
       ⟨hT.d0,hT.sz,hT.fixed,fun j o d hj ho hd=>(hT.slot j o d hj ho hd).trans (by
        match j,hj with
        |6,h=>rw[hq]at h;cases h
        |0,_=>rfl
        |1,_=>rfl
        |2,_=>rfl
        |3,_=>rfl
        |4,_=>rfl
        |5,_=>rfl
        |7,_=>rfl
        |j+8,_=>rfl),hT.cl,.inl hq⟩
      refine wpOpIn_mono ?_ (vU.app (w':=w') dq (by rfl) rfl rfl rfl (v:=vo) (u:=.slice (some ⟨g.2.1.heap.size,0,none⟩) 1 1) (by simp[Act.eval,e25]) (by simp[Act.eval,e29]) bo (.inr ⟨by simp[h8],by simp,rfl,(ub _).2 f4,(jo _).2 ⟨wm,hg',by simpa using ax⟩⟩));intro a5 w5 h;refine⟨(g.1,g.2.1,v',w'),h.d0,h.sz,h.fixed,h.slot,h.cl,?_⟩;rcases h.wd with h|h
      ·simp at h
      ·exact .inr (.inl h)
     | 8,_=>
      have h6:qs 6=true:=dq 6 (by decide);have e30:a3.tmps[30]?.getD undef=g.2.2.1:=hT.slot 6 _ 30 h6 rfl rfl;have e31:a3.tmps[31]?.getD undef= .pointer (some ⟨w1.heap.size+1,1,none⟩):=hT.slot 7 _ 31 (dq 7 (by decide)) rfl rfl;have hw:w3=g.2.2.2/\F4 g/\F6 g:=by
       rcases hT.wd with⟨h,_⟩|⟨_,_,h,hf⟩|⟨h,_⟩|⟨h,_⟩|⟨h,_⟩
       ·rw[hq]at h;cases h
       ·exact⟨h,hf⟩
       ·rw[h6]at h;cases h
       ·exact absurd (hT.cl 6 h6 5 (by decide)) (by rw[h];decide)
       ·exact absurd (hT.cl 5 (hT.cl 6 h6 5 (by decide)) 4 (by decide)) (by rw[h];decide)
      obtain⟨rfl,sD,EV⟩:=hw;have f4:=(ub g).1 sD;have f6:=(jo g).1 EV;have hO2:g.2.2.2.heap[w1.heap.size+1]? =some (.cells #[.slice aq q.length cq,vo] 34 (0,0)):=by have gm:=KaN AP f4.2.1.size;refine(f6.2.1.block _ (by simp;omega) (fun h=>?_)).trans ((Below.heap_alloc _ _ _ gm).trans ((f4.2.1.block _ AP id).trans hO));have:=(fQ.lt _ h.symm).1;omega
      refine mO.of (hT.sto (w':=g.2.2.2.setCell ⟨w1.heap.size+1,1,none⟩ g.2.2.1) dq (by rfl) rfl rfl rfl (fun c h=>by cases h) ?_ (.inl ⟨by simp,rfl,sD,EV⟩));obtain⟨gb,gc,pQ⟩:∃gb gc,g.2.2.1= .slice (some ⟨gb,0,none⟩) (i+1) gc:=by
       rcases f6.1.2 with⟨_,h⟩|⟨gb,gc,_,h,_⟩
       ·omega
       ·exact⟨gb,gc,h⟩
      simp[execOp,go_sem,e30,e31,pQ,storeCells,World.cell?,World.frozen?,hO2]
     |j+9,hj=>exact absurd hj (by simp)
    ·rintro qs a3 w3 hq ⟨g,hT⟩;refine hK0 a3 w3 ?_;have q8:qs 8=true:=hq 8 (by simp);have hw:w3=g.2.2.2.setCell ⟨w1.heap.size+1,1,none⟩ g.2.2.1/\F4 g/\F6 g:=by
      rcases hT.wd with⟨_,h⟩|⟨h,_⟩|⟨h,_⟩|⟨h,_⟩|⟨h,_⟩
      ·exact h
      ·rw[q8]at h;cases h
      ·rw[hq 6 (by simp)]at h;cases h
      ·rw[hq 5 (by simp)]at h;cases h
      ·rw[hq 4 (by simp)]at h;cases h
     obtain⟨rfl,sD,EV⟩:=hw;have f4:=(ub g).1 sD;have f6:=(jo g).1 EV;have LX:FN X (w1.heap.size+1) w1.heap.size W.heap.size (w1.heap.size+2) (.slice aq q.length cq) [.bool (decide (a.num<0)),.slice a1 (ah a.num.natAbs).length c1,.slice a2 (ah a.den).length c2] (ds.take (i+1)) w1 (g.2.2.2.setCell ⟨w1.heap.size+1,1,none⟩ g.2.2.1):=by
      have VB:(ds.take (i+1)).length=i+1:=by rw[KaF];omega
      have sz1:=f4.2.1.size;have sz2:=f6.2.1.size;simp only[World.size_alloc]at sz2;have Wz:∀k,k<wo.heap.size->vo.ownBlock≠some k->g.2.2.2.heap[k]? =wo.heap[k]? :=fun k hk hv=>by have na:=KaN hk sz1;exact(f6.2.1.block k (by simp;omega) (fun h=>hv h.symm)).trans ((Below.heap_alloc _ _ _ na).trans (f4.2.1.block k hk id))
      have Fm:∀k,k<wo.heap.size->vo.ownBlock≠some k->k≠w1.heap.size+1->(g.2.2.2.setCell ⟨w1.heap.size+1,1,none⟩ g.2.2.1).heap[k]? =wo.heap[k]? :=fun k hk hv aO=>(Below.heap_setCell _ _ _ k aO).trans (Wz k hk hv);have ho:∀b,vo.ownBlock=some b->w1.heap.size+2<=b/\b<wo.heap.size:=fun b h=>fQ.lt b h;have rn:∀k,k<w1.heap.size+2->vo.ownBlock≠some k:=fun k hk h=>by have:=(ho k h).1;omega
      have Nx:(g.2.2.2.setCell ⟨w1.heap.size+1,1,none⟩ g.2.2.1).heap.size=g.2.2.2.heap.size:=by simp
      have Ve:=(Wz _ AP (rn _ (by omega))).trans hO;have iez:=hI.ex.size;refine⟨⟨?_,?_,?_,by rw[Nx];omega,fun k hk _=>?_⟩,?_,?_,g.2.2.1,vs++[g.1],?_,?_,?_⟩
      ·exact f6.2.1.os.trans (f4.2.1.os.trans hI.ex.os)
      ·exact f6.2.1.tape.trans (f4.2.1.tape.trans hI.ex.tape)
      ·exact f6.2.1.output.trans (f4.2.1.output.trans hI.ex.output)
      ·exact(Fm k (by omega) (rn k (by omega)) (by omega)).trans (hI.ex.block k hk id)
      ·exact(Fm _ uc (rn _ (by omega)) (by omega)).trans hI.rb
      ·exact(Fm _ LR (rn _ (by omega)) (by omega)).trans hI.ab
      ·have ar:=(KaH.1 Ve).1;have h':g.2.2.2.heap[w1.heap.size+1]= .cells #[.slice aq q.length cq,vo] 34 (0,0):=by simpa[Kbh ar]using Ve
       show(g.2.2.2.heap.modify (w1.heap.size+1) _)[w1.heap.size+1]? =_;rw[Kbh (by simpa using ar),Array.getElem_modify_self,h'];rfl
      ·rw[VB];exact ownsRow_setCell_below f6.1 (by simp) _
      ·intro j hj;rw[VB]at hj;have re:∀b,g.2.2.1.ownBlock=some b->vo.ownBlock=some b∨b=g.2.1.heap.size+1:=fun b hb=>by
        rcases f6.2.2 with h|h
        ·exact .inl (h.symm.trans hb)
        ·rw[hb]at h;cases h;exact .inr rfl
       have kd:vs.length=i:=by have:=fQ.1;rw[VA]at this;omega
       by_cases eh:j<i
       ·have e1:(vs++[g.1]).getD j undef=vs.getD j undef:=by simp[List.getD,Kb7 (show j<vs.length by omega)]
        have e2:(ds.take (i+1))[j]'(by omega)=(ds.take i)[j]'(by omega):=by simp
        rw[e1,e2];refine Qu.mono (MV j (by omega)) (fun b hb h=>Fm b hb (fun h'=>h (.inr (.inr (.inl h')))) (fun h'=>h (.inr (.inl h')))) (fun b hb h h'=>?_) (by rw[Nx];omega);rcases h' with h'|h'|h'|h'|h'
        ·exact h (.inl h')
        ·exact h (.inr (.inl h'))
        ·rcases re b h' with h'|h'
         ·exact h (.inr (.inr (.inl h')))
         ·omega
        ·exact h (.inr (.inr (.inr (.inl h'))))
        ·exact h (.inr (.inr (.inr (.inr h'))))
       ·obtain rfl:j=i:=by omega
        have e1:(vs++[g.1]).getD j undef=g.1:=by simp[List.getD,<-kd]
        have e2:(ds.take (j+1))[j]'(by omega)=ds.getD j []:=by simp[List.getD,Kam (show j<ds.length by omega)]
        rw[e1,e2];refine Qu.mono f4.2.2 (fun b hb h=>?_) (fun b hb h h'=>?_) (by rw[Nx];omega)
        ·exact(Below.heap_setCell _ _ _ b (fun h'=>h (.inr (.inl h')))).trans ((f6.2.1.block b (by simp;omega) (fun h'=>h (.inr (.inr (.inl h'.symm))))).trans (Below.heap_alloc _ _ _ hb))
        ·rcases h' with h'|h'|h'|h'|h'
         ·exact h (.inl h')
         ·exact h (.inr (.inl h'))
         ·rcases re b h' with h'|h'
          ·exact h (.inr (.inr (.inl h')))
          ·omega
         ·exact h (.inr (.inr (.inr (.inl h'))))
         ·exact h (.inr (.inr (.inr (.inr h'))))
     obtain⟨y,hy⟩:∃y:Nat->Value,a3.tmps= #[vp,.slice (some ⟨b,off,none⟩) cs.length cc,undef,undef,.pointer (some ⟨W.heap.size,0,none⟩),.int .i64 0,.slice aq q.length cq,.pointer (some ⟨w1.heap.size,0,none⟩),.pointer (some ⟨w1.heap.size+1,0,none⟩),undef,y 10,.tuple #[.slice aq q.length cq,.agg #[.bool (decide (a.num<0)),.slice a1 (ah a.num.natAbs).length c1,.slice a2 (ah a.den).length c2]],vp,.tuple #[.slice aq q.length cq,.agg #[.bool (decide (a.num<0)),.slice a1 (ah a.num.natAbs).length c1,.slice a2 (ah a.den).length c2]],.slice aq q.length cq,.agg #[.bool (decide (a.num<0)),.slice a1 (ah a.num.natAbs).length c1,.slice a2 (ah a.den).length c2],.slice aq q.length cq,.agg #[.slice aq q.length cq,.slice none 0 0],.slice (some ⟨b,off,none⟩) cs.length cc,.int .i64 (cs.length:Nat),.int .i64 i,y 21,y 22,y 23,y 24,y 25,y 26,y 27,y 28,y 29,y 30,y 31,y 32,undef,undef,undef,undef,undef,undef,undef,undef,undef,undef,undef,undef,undef,undef,undef,undef,undef,undef,undef]:=by
      refine⟨fun k=>a3.tmps[k]?.getD undef,Array.ext (by simp[hT.sz]) (fun k hk na=>?_)⟩;have e:a3.tmps[k]=a3.tmps[k]?.getD undef:=by simp[hk]
      rw[e];have hk3:k<52:=by rw[<-hT.sz];exact hk
      match k,hk3 with
      |0,_=>exact hT.fixed (0,_) (by simp)
      |1,_=>exact hT.fixed (1,_) (by simp)
      |2,_=>exact hT.fixed (2,_) (by simp)
      |3,_=>exact hT.fixed (3,_) (by simp)
      |4,_=>exact hT.fixed (4,_) (by simp)
      |5,_=>exact hT.fixed (5,_) (by simp)
      |6,_=>exact hT.fixed (6,_) (by simp)
      |7,_=>exact hT.fixed (7,_) (by simp)
      |8,_=>exact hT.fixed (8,_) (by simp)
      |9,_=>exact hT.fixed (9,_) (by simp)
      |10,_=>rfl
      |11,_=>exact hT.fixed (11,_) (by simp)
      |12,_=>exact hT.fixed (12,_) (by simp)
      |13,_=>exact hT.fixed (13,_) (by simp)
      |14,_=>exact hT.fixed (14,_) (by simp)
      |15,_=>exact hT.fixed (15,_) (by simp)
      |16,_=>exact hT.fixed (16,_) (by simp)
      |17,_=>exact hT.fixed (17,_) (by simp)
      |18,_=>exact hT.fixed (18,_) (by simp)
      |19,_=>exact hT.fixed (19,_) (by simp)
      |20,_=>exact hT.fixed (20,_) (by simp)
      |21,_=>rfl
      |22,_=>rfl
      |23,_=>rfl
      |24,_=>rfl
      |25,_=>rfl
      |26,_=>rfl
      |27,_=>rfl
      |28,_=>rfl
      |29,_=>rfl
      |30,_=>rfl
      |31,_=>rfl
      |32,_=>rfl
      |33,_=>exact hT.fixed (33,_) (by simp)
      |34,_=>exact hT.fixed (34,_) (by simp)
      |35,_=>exact hT.fixed (35,_) (by simp)
      |36,_=>exact hT.fixed (36,_) (by simp)
      |37,_=>exact hT.fixed (37,_) (by simp)
      |38,_=>exact hT.fixed (38,_) (by simp)
      |39,_=>exact hT.fixed (39,_) (by simp)
      |40,_=>exact hT.fixed (40,_) (by simp)
      |41,_=>exact hT.fixed (41,_) (by simp)
      |42,_=>exact hT.fixed (42,_) (by simp)
      |43,_=>exact hT.fixed (43,_) (by simp)
      |44,_=>exact hT.fixed (44,_) (by simp)
      |45,_=>exact hT.fixed (45,_) (by simp)
      |46,_=>exact hT.fixed (46,_) (by simp)
      |47,_=>exact hT.fixed (47,_) (by simp)
      |48,_=>exact hT.fixed (48,_) (by simp)
      |49,_=>exact hT.fixed (49,_) (by simp)
      |50,_=>exact hT.fixed (50,_) (by simp)
      |51,_=>exact hT.fixed (51,_) (by simp)
      |k+52,h=>exact absurd h (by omega)
     have jI:=hT.d0;clear hT;rcases a3 with⟨tm,df⟩
     simp only at hy jI;subst hy jI
     gi_wp2
     have anf:((i+1:Nat):Int)=(i:Int)+1:=by simp
     refine⟨⟨y 10,.int .i64 ((i:Int)+1),y 21,y 22,y 23,y 24,y 25,y 26,y 27,y 28,y 29,y 30,y 31,.int .i64 ((i:Int)+1),⟨i+1,by rw[anf],by omega,LX⟩,by simp⟩,?_⟩;simp[intOf];omega
  ·have hic:i=cs.length:=by omega
   have d1:¬((i:Int)<((cs.map PV.aj).length:Int)):=by rw[kG];omega
   gi_wp2
   refine⟨trivial,qX _,(zM su rfl X (fun b hb=>KaN (hX b hb) qV.size) (fun k x hx=>?_) _).mono ?_⟩
   ·match k,hx with
    |0,hx=>simp at hx;subst hx;exact a9.mono (p:=PV.aj q) (w:=w1) (X:=fun b=>X b∨b=W.heap.size) (show Qu w1 _ (PV.aj q) _ by simpa using hq) (fun b hb _=>hI.ex.block b hb id) (fun b hb h h'=>h (.inl h')) hI.ex.size
    |k+1,hx=>simp at hx
   rintro e w4 ⟨v,r,rfl,oe,cN,rfl⟩;cases cN;cases b1 with
   |true=>
    obtain⟨z1,z2,z3,z4,z5,z6⟩:=Hk (((oe).block _ (KaH.1 hI.rb).1 id).trans hI.rb);have BG:=Iv (qV.trans (oe)) (Kac _) (.slice none 0 0) (.slice none 0 0)
    gi_wp2
    refine⟨trivial,?_⟩
    gi_wp2
    refine bodyPost_ret (Cl rfl _ _ W.heap.size _ _ _ _ rfl z6 Tryz.underlying34 rfl (by kernel_rfl)) rfl ⟨_,rfl,BG,?_⟩;simp only[oH,Kda,KcM,Bool.or_false,Kcn,if_true,KaK,if_false,Kdj];exact Iw
   |false=>
   have cO:w4.cell? ⟨w1.heap.size+1,1,none⟩=some vo:=by have hO4:=(oe.block _ (KaH.1 hO).1 id).trans hO;simp only[World.cell?,hO4];rfl
   gi_wp2
   have hdt:ds.take i=ds:=Kae (by omega);have Vn:∀b,X b->b<w4.heap.size:=fun b hb=>KaN (KaN (hX b hb) qV.size) oe.size;have Wl:Qu wo (fun b=>X b∨b=W.heap.size) (PV.bX ds) vo:=by
    rw[hdt]at fQ MV;refine aeI fQ (by simp) (fun b hb h=>?_) (fun p hp=>by obtain⟨y,_,rfl⟩:=KaE.1 hp;rfl) (fun j hj=>?_)
    ·have Vt:=(fQ.lt b hb).1;rcases h with h|h
     ·have:=hX b h;omega
     ·omega
    ·have v9:j<ds.length:=by simpa using hj
     have hh:=MV j v9;rw[KcB];exact hh.mono (fun _ _ _=>rfl) (fun b _ hn hm=>hm.elim (fun h=>hn (.inl h)) (fun h=>hn (.inr (.inr (.inr (.inl h)))))) (Kac _)
   have Wo:Qu w4 (fun b=>X b∨b=W.heap.size) (PV.bX ds) vo:=Wl.mono (fun b hb _=>oe.block b hb id) (fun _ _ h=>h) oe.size;refine⟨trivial,qX _,(zM AL rfl X Vn (fun k x hx=>?_) _).mono ?_⟩
   ·match k,hx with
    |0,hx=>simp at hx;subst hx;exact a9.mono (p:=PV.bX ds) Wo (fun _ _ _=>rfl) (fun b _ h h'=>h (.inl h')) (Kac _)
    |1,hx=>simp at hx;subst hx;exact .fn _ [] [] #[] #[] rfl rfl (fun k x h=>by simp at h) (fun k x h=>by simp at h)
    |k+2,hx=>simp at hx
   rintro e w5 ⟨v,r,rfl,qU,cN,rfl⟩;cases cN;cases b2 with
   |true=>
    obtain⟨z1,z2,z3,z4,z5,z6⟩:=Hk (((oe.trans qU).block _ (KaH.1 hI.rb).1 id).trans hI.rb);have BG:=Iv (qV.trans (oe.trans qU)) (Kac _) (.slice none 0 0) (.slice none 0 0)
    gi_wp2
    refine bodyPost_ret (Cl rfl _ _ W.heap.size _ _ _ _ rfl z6 Tryz.underlying34 rfl (by kernel_rfl)) rfl ⟨_,rfl,BG,?_⟩;simp only[oH,Kda,KcM,Bool.or_false,Kcn,if_true,KaK,if_false,Kdj];exact Iw
   |false=>
   refine(Kc1 q.length).elim (fun iH=> ?qz) (fun iH=> ?qp)
   case' qz=>
    have d2:¬(0:Int)<(q.length:Int):=by omega
    obtain⟨w6,WH⟩:∃w6,w6=w5:=⟨_,rfl⟩
    have vQ:Ext bS w5 w6:=WH▸Ext.refl _ _;have dw:oH false false b3 q ds= .aw [.agg [PV.aj q,PV.bX ds],.int .i64 0]:=by simp[oH,iH]
    subst WH;clear iH
    gi_wp2
    refine⟨trivial,?_⟩
   case' qp=>
    have d2:(0:Int)<(q.length:Int):=by omega
    gi_wp2
    refine⟨trivial,qX _,(zM AM rfl X (fun b hb=>KaN (Vn b hb) qU.size) (fun k x hx=>?_) _).mono ?_⟩
    ·match k,hx with
     |0,hx=>simp at hx;subst hx;exact a9.mono (p:=PV.aj q) (w:=w1) (X:=fun b=>X b∨b=W.heap.size) (show Qu w1 _ (PV.aj q) _ by simpa using hq) (fun b hb _=>((hI.ex.trans oe).trans qU).block b hb id) (fun b hb h h'=>h (.inl h')) ((hI.ex.trans oe).trans qU).size
     |k+1,hx=>simp at hx
    rintro e w6 ⟨v,r,rfl,vQ,cN,rfl⟩;cases cN;have dw:b3=false->oH false false b3 q ds= .aw [.agg [PV.aj q,PV.bX ds],.int .i64 0]:=fun h=>by simp[oH,h]
    cases b3
    rotate_left
    ·obtain⟨z1,z2,z3,z4,z5,z6⟩:=Hk ((((oe.trans qU).trans vQ).block _ (KaH.1 hI.rb).1 id).trans hI.rb);have BG:=Iv (qV.trans ((oe.trans qU).trans vQ)) (Kac _) (.slice none 0 0) (.slice none 0 0)
     gi_wp2
     refine bodyPost_ret (Cl rfl _ _ W.heap.size _ _ _ _ rfl z6 Tryz.underlying34 rfl (by kernel_rfl)) rfl ⟨_,rfl,BG,?_⟩;simp only[oH,Kda,KcM,Bool.or_false,Kcn,if_true,KaK,if_false,Kdj,decide_eq_true iH];exact Iw
    replace dw:=dw rfl
   all_goals
    have ss:=(oe.trans qU).trans vQ;have Vf:=(ss.block _ (KaH.1 hO).1 id).trans hO;have EH:=(ss.block _ (KaH.1 hI.rb).1 id).trans hI.rb;have cO1:w6.cell? ⟨w1.heap.size+1,0,none⟩=some (.slice aq q.length cq):=by simp only[World.cell?,Vf];rfl
    have cO2:w6.cell? ⟨w1.heap.size+1,1,none⟩=some vo:=by simp only[World.cell?,Vf];rfl
    have cR1:w6.cell? ⟨W.heap.size,0,none⟩=some (.slice none 0 0):=by simp only[World.cell?,EH];rfl
    have cR2:w6.cell? ⟨W.heap.size,1,none⟩=some (.slice none 0 0):=by simp only[World.cell?,EH];rfl
    have L7:=heap_setCell_same w6 W.heap.size 0 _ _ (.slice aq q.length cq) EH;have cR3:(w6.setCell ⟨W.heap.size,0,none⟩ (.slice aq q.length cq)).cell? ⟨W.heap.size,1,none⟩=some (.slice none 0 0):=by simp only[World.cell?,L7];rfl
    have fR1:w6.frozen? ⟨W.heap.size,0,none⟩=false:=by simp only[World.frozen?,EH];rfl
    have fR2:(w6.setCell ⟨W.heap.size,0,none⟩ (.slice aq q.length cq)).frozen? ⟨W.heap.size,1,none⟩=false:=by simp only[World.frozen?,L7];rfl
    have Vg:=heap_setCell_same (w6.setCell ⟨W.heap.size,0,none⟩ (.slice aq q.length cq)) W.heap.size 1 _ _ vo L7;obtain⟨ao,co,rfl⟩:=xg Wo;have fg:(ds.map PV.aj).length=cs.length:=by rw[KaT,hlen]
    rw[fg]at Vg
    gi_wp2
    have amq:=(qV.trans ss)
    have hEs:Ext bS W ((w6.setCell ⟨W.heap.size,0,none⟩ (.slice aq q.length cq)).setCell ⟨W.heap.size,1,none⟩ (.slice ao cs.length co)):=by have e1:=Ext.setCell (Y:=fun b=>b=W.heap.size) w6 ⟨W.heap.size,0,none⟩ (.slice aq q.length cq) rfl;have e2:=Ext.setCell (Y:=fun b=>b=W.heap.size) (w6.setCell ⟨W.heap.size,0,none⟩ (.slice aq q.length cq)) ⟨W.heap.size,1,none⟩ (.slice ao cs.length co) rfl;exact(amq.trans' e1 (fun i hi h=>by omega)).trans' e2 (fun i hi h=>by omega)
    have EC:Ext (fun b=>b=W.heap.size) w6 ((w6.setCell ⟨W.heap.size,0,none⟩ (.slice aq q.length cq)).setCell ⟨W.heap.size,1,none⟩ (.slice ao cs.length co)):=
     (Ext.setCell (Y:=fun b=>b=W.heap.size) w6 ⟨W.heap.size,0,none⟩ (.slice aq q.length cq) rfl).trans (Ext.setCell (Y:=fun b=>b=W.heap.size) _ ⟨W.heap.size,1,none⟩ (.slice ao cs.length co) rfl)
    refine bodyPost_ret (Cl rfl _ _ W.heap.size _ _ _ _ rfl Vg Tryz.underlying34 rfl (by kernel_rfl)) rfl ⟨_,rfl,hEs,?_⟩;rw[dw];refine⟨_,rfl,rfl,fun k x hk=>?_⟩
    match k,hk with
    | 0,hk=>
     cases hk;refine⟨_,rfl,rfl,fun k x hk=>?_⟩
     match k,hk with
     |0,hk=>
      cases hk;refine Qu.mono (w:=w1) (X:=fun b=>X b∨b=W.heap.size) (show Qu w1 _ (PV.aj q) (.slice aq q.length cq)by simpa using hq) (fun b hb hn=>?_) (fun b _ h h'=>h (.inl h')) ?_
      ·exact(EC.block b (KaN hb ((hI.ex.trans ss).size)) (fun h=>hn (.inr h))).trans ((hI.ex.trans ss).block b hb id)
      ·exact Kaw (hI.ex.trans ss).size EC.size
     |1,hk=>
      cases hk;refine Qu.mono (w:=wo) (X:=fun b=>X b∨b=W.heap.size) (by simpa[hlen]using Wl) (fun b hb hn=>?_) (fun b _ h h'=>h (.inl h')) ?_
      ·exact(EC.block b (KaN hb ss.size) (fun h=>hn (.inr h))).trans (ss.block b hb id)
      ·exact Kaw ss.size EC.size
     |k+2,hk=>simp at hk
    |1,hk=>cases hk;exact .int _ _
    |k+2,hk=>simp at hk
theorem R0{p q:List Tm}{cs ds:List (List Tm)}{a:Rat}{b1 b2 b3:Bool}(hlen:ds.length=cs.length)(hl:cs.length<=100)
  (vS:Qc Tryz.prog 120 [PV.aj p] (· = .aw [PV.aj q,PV.rat a])) (vT:∀i (h:i<cs.length),Qc Tryz.prog 121 [PV.aj cs[i],PV.rat a] (· =PV.aj (ds.getD i [])))
  (su:Qc Tryz.prog 61 [PV.aj q] (· = .bool b1))
  (AL:Qc Tryz.prog 122 [PV.bX ds,.fn 61 [] []] (· = .bool b2)) (AM:Qc Tryz.prog 123 [PV.aj q] (· = .bool b3)):
  Qc Tryz.prog 66 [PV.aj p,PV.bX cs] (· =oH b1 b2 b3 q ds):=by
 refine⟨by unfold oO;kernel_rfl,fun w X bn hX hs hr=>?_⟩;obtain⟨v0,v1,rfl⟩:∃v0 v1,bn= #[v0,v1]:=by
  obtain⟨l⟩:=bn
  match l,hs with
  | [x,y],_=>exact⟨x,y,rfl⟩
 refine(callsIn_wide.1 (Zw hlen hl X hX (hr 0 _ rfl) (hr 1 _ rfl) vS vT su AL AM 0)).mono ?_;rintro e w' ⟨v,rfl,h1,h2⟩;exact⟨v,_,rfl,h1,h2,rfl⟩
theorem YD{p q:List Tm}{cs ds:List (List Tm)}{a:Rat}(hlen:ds.length=cs.length)(hl:cs.length<=100)
  (vS:Qc Tryz.prog 120 [PV.aj p] (· = .aw [PV.aj q,PV.rat a])) (vT:∀i (h:i<cs.length),Qc Tryz.prog 121 [PV.aj cs[i],PV.rat a] (· =PV.aj (ds.getD i [])))
  (su:Qc Tryz.prog 61 [PV.aj q] (· = .bool false)) (apP:0<q.length)
  (AL:Qc Tryz.prog 122 [PV.bX ds,.fn 61 [] []] (· = .bool false)) (AM:Qc Tryz.prog 123 [PV.aj q] (· = .bool false)):
  Qc Tryz.prog 66 [PV.aj p,PV.bX cs] (· = .aw [.agg [PV.aj q,PV.bX ds],.int .i64 0]):=by
 have h:=R0 hlen hl vS vT su AL AM;simpa[oH]using h
end Go.Proofs.YtdjoomkeehihmaaGreat
namespace Go.Proofs.YtdjoomkeehihmaaGreat
open Go Go.FW Go.RowKit Go.Shelf Go.Maps
theorem CR{w:World}{X:Nat->Prop}{e:Nat}{xs:List PV}{v:Value}(h:Qu w X (.sl e xs) v):∃a c,v= .slice a xs.length c:=by
 generalize hY:PV.sl e xs=Y at h;cases h with
 |gK _ a cap=>cases hY;exact⟨_,_,rfl⟩
 |sl _ _ b off cap=>cases hY;exact⟨_,_,rfl⟩
 |_=>cases hY
abbrev aB:=List Tm×List (List Tm)
abbrev PV.em(x:aB):PV:=.agg [PV.aj x.1,PV.bX x.2]
abbrev PV.cg(l:List aB):PV:=.sl 2 (l.map PV.em)
abbrev pg:Value:=.agg #[.slice none 0 0,.slice none 0 0]
def RZ(v:Value):Option (DataW Value×List MemPlace):=some (.held v,[])
theorem M':Keyed Tryz.prog 3:=int_keyed Tryz.underlying3
def uM(W:World)(X:Nat->Prop):Option aB->Value->Prop
 |none,v=>v=pg
 |some e,v=>∃u1 u2,v= .agg #[u1,u2]/\Qu W X (PV.aj e.1) u1/\Qu W X (PV.bX e.2) u2
theorem uM.mono{w w':World}{X X':Nat->Prop}{p:Option aB}{v:Value}(h:uM w X p v)
  (hb:∀b,b<w.heap.size->¬X b->w'.heap[b]? =w.heap[b]?) (hx:∀b,b<w.heap.size->¬X b->¬X' b) (hs:w.heap.size<=w'.heap.size):uM w' X' p v:=by
 cases p with
 |none=>exact h
 |some e=>obtain⟨u1,u2,rfl,h1,h2⟩:=h;exact⟨u1,u2,rfl,h1.mono hb hx hs,h2.mono hb hx hs⟩
inductive jj(v:Nat):List aB->List aB->Option aB->Nat->Prop
 |none (L:List aB) (at_:Int):Qc Tryz.prog 28 [PV.cg L,.int .i64 v] (· = .aw [.int .i64 at_,.int .i64 0])->jj v L L none 0
 |one (L:List aB) (i:Nat) (h:i<L.length):Qc Tryz.prog 28 [PV.cg L,.int .i64 v] (· = .aw [.int .i64 i,.int .i64 1])->jj v L L (some L[i]) 0
 | more (L L1 L2:List aB) (at_ n:Int) (k:Option aB) (m:Nat):Qc Tryz.prog 28 [PV.cg L,.int .i64 v] (· = .aw [.int .i64 at_,.int .i64 n])->2<=n->
   Qc Tryz.prog 29 [PV.cg L,.int .i64 at_,.int .i64 v] (· = .aw [PV.cg L1,.int .i64 0])->jj v L1 L2 k m->jj v L L2 k (m+1)
inductive nS(v:Nat)(e:Int):List aB->Nat->Prop
 | fail (L:List aB) (at_ n:Int):Qc Tryz.prog 28 [PV.cg L,.int .i64 v] (· = .aw [.int .i64 at_,.int .i64 n])->2<=n->e≠0->
   Qc Tryz.prog 29 [PV.cg L,.int .i64 at_,.int .i64 v] (· = .aw [PV.cg [],.int .i64 e])->nS v e L 0
 | more (L L1:List aB) (at_ n:Int) (m:Nat):Qc Tryz.prog 28 [PV.cg L,.int .i64 v] (· = .aw [.int .i64 at_,.int .i64 n])->2<=n->
   Qc Tryz.prog 29 [PV.cg L,.int .i64 at_,.int .i64 v] (· = .aw [PV.cg L1,.int .i64 0])->nS v e L1 m->nS v e L (m+1)
def Nq(F:Option (Nat×Int))(K:Nat->Option aB):PV:=
 match F with
 |none=>.aw [PV.cg ((List.range 64).filterMap K),.int .i64 0]
 |some p=>.aw [PV.cg [],.int .i64 p.2]
structure lF(X:Nat->Prop)(B:Nat)(K:Nat->Option aB)(g:Nat)(W0 W:World):Prop where
 ex:Ext (fun b=>b=B) W0 W
 mp:∃D n,n+g<=64/\W.ownsMap Tryz.prog 3 RZ B n D/\IsMap D/\∀u,u<64->∃val,D.atKey (.int .i64 (u:Nat)) (.held pg)= .held val/\uM W (fun b=>X b∨b=B) (if g<=u then K u else none) val
theorem z7{w:World}{X:Nat->Prop}{a b:Int}{v:Value}(h:dF w X (.aw [.int .i64 a,.int .i64 b]) v):v= .tuple #[.int .i64 a,.int .i64 b]:=by
 obtain⟨vs,rfl,gI,hr⟩:=h;obtain⟨x,y,rfl⟩:∃x y,vs= #[x,y]:=by
  obtain⟨l⟩:=vs
  match l,gI with
  | [x,y],_=>exact⟨x,y,rfl⟩
 have h0:Qu w X (.int .i64 a) x:=hr 0 _ rfl;have h1:Qu w X (.int .i64 b) y:=hr 1 _ rfl;cases h0;cases h1;rfl
theorem Ix{w:World}{X:Nat->Prop}{L:List aB}{b:Int}{v:Value}(h:dF w X (.aw [PV.cg L,.int .i64 b]) v):∃vl,v= .tuple #[vl,.int .i64 b]/\Qu w X (PV.cg L) vl:=by
 obtain⟨vs,rfl,gI,hr⟩:=h;obtain⟨x,y,rfl⟩:∃x y,vs= #[x,y]:=by
  obtain⟨l⟩:=vs
  match l,gI with
  | [x,y],_=>exact⟨x,y,rfl⟩
 have h0:Qu w X (PV.cg L) x:=hr 0 _ rfl;have h1:Qu w X (.int .i64 b) y:=hr 1 _ rfl;cases h1;exact⟨x,rfl,h0⟩
theorem lF.ext{X:Nat->Prop}{B:Nat}{K:Nat->Option aB}{g:Nat}{W0 W W':World}(h:lF X B K g W0 W)(hE:Ext bS W W'):lF X B K g W0 W':=by obtain⟨D,n,hn,hm,hi,hu⟩:=h.mp;refine⟨h.ex.trans' hE (fun i hi h=>h.elim),D,n,hn,hm.kept (row:=none) ⟨hE.os,hE.tape,hE.output,hE.size,fun k hk _=>hE.block k hk id⟩ (by simp),hi,fun u jb=>?_⟩;obtain⟨val,h1,h2⟩:=hu u jb;exact⟨val,h1,h2.mono (fun b hb _=>hE.block b hb id) (fun b _ h=>h) hE.size⟩
theorem lF.skip{X:Nat->Prop}{B:Nat}{K:Nat->Option aB}{g:Nat}{W0 W:World}(h:lF X B K (g+1) W0 W)(hK:K g=none):lF X B K g W0 W:=by
 obtain⟨D,n,hn,hm,hi,hu⟩:=h.mp;refine⟨h.ex,D,n,by omega,hm,hi,fun u jb=>?_⟩;obtain⟨val,h1,h2⟩:=hu u jb;refine⟨val,h1,?_⟩;by_cases e:u=g
 ·subst e;rw[if_neg (by omega)]at h2;rw[if_pos (Kac _),hK];exact h2
 ·by_cases e2:g<=u
  ·rw[if_pos e2];rwa[if_pos (by omega)]at h2
  ·rw[if_neg e2];rwa[if_neg (by omega)]at h2
theorem lF.put{X:Nat->Prop}{B:Nat}{K:Nat->Option aB}{g:Nat}{W0 W W':World}(h:lF X B K (g+1) W0 W){x:aB}(hK:K g=some x){D:DataW Value}{n:Nat}(hn:n+(g+1)<=64)
  (hi:IsMap D) (hu:∀u,u<64->∃val,D.atKey (.int .i64 (u:Nat)) (.held pg)= .held val/\uM W (fun b=>X b∨b=B) (if g+1<=u then K u else none) val) {u1 u2:Value}
  (h1:Qu W (fun b=>X b∨b=B) (PV.aj x.1) u1) (h2:Qu W (fun b=>X b∨b=B) (PV.bX x.2) u2)
  (hm:W'.ownsMap Tryz.prog 3 RZ B (n+1) (D.put (.int .i64 (g:Nat)) (.held (.agg #[u1,u2])))) (hg:W.grownBy W' (some B)):lF X B K g W0 W':=by
 have hE:Ext (fun b=>b=B) W W':=⟨hg.os,hg.tape,hg.output,hg.size,fun b hb hn=>hg.block b hb (by simpa using hn)⟩
 refine⟨h.ex.trans hE,_,n+1,by omega,hm,hi.put _ _,fun u jb=>?_⟩;by_cases e:u=g
 ·subst e;refine⟨_,atKey_put_same hi (by trivial) _ _,?_⟩;rw[if_pos (Kac _),hK];exact⟨u1,u2,rfl,h1.mono (fun b hb hn=>hE.block b hb (fun e=>hn (.inr e))) (fun _ _ h=>h) hE.size,h2.mono (fun b hb hn=>hE.block b hb (fun e=>hn (.inr e))) (fun _ _ h=>h) hE.size⟩
 ·obtain⟨val,e1,e2⟩:=hu u jb;refine⟨val,by rw[atKey_put_other (fun h=>e (by injection h with _ h;omega))];exact e1,?_⟩;have e3:=e2.mono (w':=W') (X':=fun b=>X b∨b=B) (fun b hb hn=>hE.block b hb (fun e=>hn (.inr e))) (fun _ _ h=>h) hE.size;by_cases e4:g<=u
  ·rw[if_pos e4];rwa[if_pos (by omega)]at e3
  ·rw[if_neg e4];rwa[if_neg (by omega)]at e3
theorem Rs(w:World):(zeroValue 34).run Tryz.prog w= .ok pg w:=by kernel_rfl
theorem akE:(Tryz.prog.info? 34).map (fun i=>(i.zero,i.size,i.bytes))=some (some pg,2,48):=by kernel_rfl
theorem Rz{P:Program}(w:World){ops:Array Oper}{rest:List Oper}{o:Oper}{a:Act}{Q:Exit->Act->World->Prop}
  (hg:o.guard=none) (m x:Operand) (t:TypeId) (hop:o.op=Op.lookup t m x false)
  (k e:TypeId) (K:Keyed P k) (ht:P.underlying t=some (.map k e)) (z:Value) (hz:(zeroValue e).run P w= .ok z w) (b n:Nat) (D:DataW Value)
  (hm:a.eval m= .map (some b)) (bm:w.ownsMap P k RZ b n D) (key:Value) (kl:Lit) (hx:a.eval x=key) (ur:keyOf P k key=some kl) (val:Value) (bz:D.atKey kl (.held z)= .held val)
  (hK:wpList P ops Q rest (a.put o.dst val) w):
  wpList P ops Q (o::rest) a w:=by
 refine wpList_plain hg fun K' hK'=>?_;obtain⟨v,ps,bo,hv⟩:=bm.lookup (e:=e) K ht hz (zd:=.held z) (zp:=[]) rfl ur;obtain rfl:v=val:=by rw[bz]at hv;simp only[RZ,KaB,KcO,DataW.held.injEq]at hv;exact hv.1
 unfold Oper.wp;simp[execOp,hop,hm,hx,bo,Result.andThen];exact hK' _ _ hK
theorem X2(w:World)(x y:Value)(t:TypeId){g:Nat}(hg:g=w.heap.size):∀j u,[x,y][j]? =some u->(w.alloc (.cells #[x,y] t)).cell? ((⟨g,0,none⟩:Addr).add j)=some u:=by
 intro j u hj;subst hg;have hn:=World.alloc_heap_new w (.cells #[x,y] t)
 match j,hj with
 |0,hj=>simp at hj;subst hj;rw[Kbz];simp only[World.cell?,hn];rfl
 |1,hj=>simp at hj;subst hj;rw[Kbz];simp only[World.cell?,hn];rfl
 |j+2,hj=>simp at hj
theorem abE{a1 a2:Option Addr}{n1 n2 c1 c2:Nat}:∀u∈[Value.slice a1 n1 c1,.slice a2 n2 c2],u.oneCell'=true:=fun u hu=>by simp at hu;rcases hu with rfl|rfl<;>rfl
def iQ(K:Nat->Option aB)(j:Nat):List aB:=(List.range j).filterMap K
theorem Ux(K:Nat->Option aB)(j:Nat):iQ K (j+1)=iQ K j++(K j).toList:=by unfold iQ;rw[Kb0,KcN];cases h:K j<;>simp[h]
theorem adv(K:Nat->Option aB)(j:Nat):(iQ K j).length<=j:=by unfold iQ;exact Kaw (Kcb _ _) (by simp)
set_option maxHeartbeats 2000000 in
theorem Zx {list:List (List Tm)} {Ls:Nat->List aB} {K:Nat->Option aB} {F:Option (Nat×Int)} (aG:Qc Tryz.prog 27 [PV.bX list] (· = .aw [PV.cg (Ls 64),.int .i64 0]))
  (hT:∀v,v<64->(∀p,F=some p->p.1<v)->∃m,jj v (Ls (v+1)) (Ls v) (K v) m) (hF:∀p,F=some p->p.1<64/\∃m,nS p.1 p.2 (Ls (p.1+1)) m) (hK:∀v e,K v=some e->0<e.1.length) {vp:Value} {W:World} (X:Nat->Prop) (hX:∀b,X b->b<W.heap.size) (hp:Qu W X (PV.bX list) vp):
  Calls Tryz.prog 8 #[vp] W fun e w'=>∃v,e= .returned v/\Ext bS W w'/\dF w' X (Nq F K) v:=by
 have uv:= @run_makeMap Tryz.prog;have LI:=aG.2 W X #[vp] hX rfl (fun i x hx=>by
  match i,hx with
  |0,hx=>simp at hx;subst hx;exact hp
  |i+1,hx=>simp at hx)
 go_enter Tryz.func8,Tryz.ntmps8
 go_wp2
 go_step3
 go_wp2_with (first|(go_at_call 27;refine LI.mono ?_))
 rintro e w1 ⟨v,r,rfl,fq,cN,rfl⟩;obtain⟨vs,rfl,gI,hr⟩:=cN;obtain⟨vl,ve,rfl⟩:∃vl ve,vs= #[vl,ve]:=by
  obtain⟨l⟩:=vs
  match l,gI with
  | [x,y],_=>exact⟨x,y,rfl⟩
 have hl:Qu w1 X (PV.cg (Ls 64)) vl:=hr 0 _ rfl;have M3:Qu w1 X (.int .i64 0) ve:=hr 1 _ rfl;cases M3;dsimp only
 go_wp2
 go_step3
 go_wp2
 clear uv;have MY:=fq.size;have L9:∀b,X b->b<w1.heap.size:=fun b hb=>KaN (hX b hb) MY;have od:Ext bS w1 (w1.alloc (.map #[] 0)):=Ext.tV _ _ _;have gm:Qu (w1.alloc (.map #[] 0)) (fun b=>X b∨b=w1.heap.size) (PV.cg (Ls 64)) vl:=hl.mono (fun b hb _=>od.block b hb id) (fun b hb h h'=>h'.elim h (fun h=>by omega)) od.size;have hM0:lF X w1.heap.size K 64 (w1.alloc (.map #[] 0)) (w1.alloc (.map #[] 0)):=
  ⟨Ext.refl _ _,.map [],0,by omega,World.ownsMap_made _ _ _ _,isMap_empty,fun u hu=>⟨pg,rfl,by rw[if_neg (by omega)];rfl⟩⟩
 have HT:Aside (∀v,v<64->(∀p,F=some p->p.1<v)->∃m,jj v (Ls (v+1)) (Ls v) (K v) m):=hT;have HF:Aside (∀p,F=some p->p.1<64/\∃m,nS p.1 p.2 (Ls (p.1+1)) m):=hF;have Xq:Aside (∀p,F=some p->p.1<64):=fun p h=>(hF p h).1;have HK:Aside (∀v e,K v=some e->0<e.1.length):=hK;have HS:Aside (Qu w1 X (PV.cg (Ls 64)) vl):=hl;clear hT hF hK hl;generalize Vm:w1.alloc (.map #[] 0)=Wm at *
 have fi:w1.heap.size<Wm.heap.size:=by rw[<-Vm];simp
 clear Vm
 go_loopg [4,7] 64 (fun g s4 s7 wx=>∃v:Int,s7= .int .i64 v/\v=(g:Int)-1/\g<=64/\Qu wx (fun b=>X b∨b=w1.heap.size) (PV.cg (Ls g)) s4/\lF X w1.heap.size K g Wm wx/\Aside (∀p,F=some p->p.1<g))
 case atStart=>exact⟨63,rfl,rfl,Kac _,gm,hM0,Xq⟩
 case round=>
  obtain⟨v,rfl,hv,hg,hl,hM,ND⟩:=hrel;cases gk with
  | zero =>
   have hFn:F=none:=by
    cases hf:F with
    |none=>rfl
    |some p=>exact absurd (ND.out p hf) (by omega)
   subst hFn;obtain rfl:v= -1:=by simpa using hv
   clear hv
   go_wp2
   obtain⟨D,n,hn,Bm,UW,EA⟩:=hM.mp;have HD:Aside (∀u,u<64->∃val,D.atKey (.int .i64 (u:Nat)) (.held pg)= .held val/\uM wr (fun b=>X b∨b=w1.heap.size) (K u) val):=fun u hu=>by obtain⟨val,h1,h2⟩:=EA u hu;exact⟨val,h1,by rwa[if_pos (Kbx _)]at h2⟩
   clear EA;obtain⟨W2,ud⟩:∃W2,W2=wr:=⟨_,rfl⟩
   subst ud;have HM:Aside (lF X w1.heap.size K 0 Wm W2):=hM;have HE:Aside (Ext bS W w1/\Ext bS w1 Wm/\Ext (fun b=>b=w1.heap.size) Wm W2):=⟨fq,od,hM.ex⟩
   clear hM
   go_loopg [10,52] 64 (fun g s10 s52 wx=>∃(j:Nat)(vs:List Value),j+g=64/\s52= .int .i64 (j:Nat)/\Ext bS W2 wx/\wx.ownsRow W2.heap.size 34 2 s10 (iQ K j).length vs/\
    Aside (∀k (h:k<(iQ K j).length),Qu W2 (fun b=>X b∨b=w1.heap.size) (PV.aj (iQ K j)[k].1) (vs.getD (k*2) undef)/\Qu W2 (fun b=>X b∨b=w1.heap.size) (PV.bX (iQ K j)[k].2) (vs.getD (k*2+1) undef)))
   case atStart=>exact⟨0,[],rfl,rfl,Ext.refl _ _,World.ownsRow_nil _ _ _ _,fun k h=>by simp[iQ]at h⟩
   case round=>
    obtain⟨j,vs,hj,rfl,og,fQ,HR⟩:=hrel;cases gk with
    | zero=>
     obtain rfl:j=64:=by omega
     go_wp2
     have hX6:∀b,u10.ownBlock=some b->¬X b:=fun b hb hx=>by have h1:=(fQ.lt b hb).1;have h2:=L9 b hx;have h3:=HE.out.2.2.size;omega
     have dw:Qu wr X (PV.cg (iQ K 64)) u10:=by
      refine acD fQ (by simp) hX6 (fun p hp=>by obtain⟨y,_,rfl⟩:=KaE.1 hp;rfl) (fun k hk c y hy=>?_);have na:k<(iQ K 64).length:=by simpa using hk
      obtain⟨r1,r2⟩:=HR.out k na;rw[KcB]at hy
      match c,hy with
      |0,hy=>cases hy;exact r1.mono (fun b hb _=>og.block b hb id) (fun b _ h h'=>h (.inl h')) og.size
      |1,hy=>cases hy;exact r2.mono (fun b hb _=>og.block b hb id) (fun b _ h h'=>h (.inl h')) og.size
      |c+2,hy=>simp[PV.cells]at hy
     refine bodyPost_ret (by simp[results,go_sem];rfl) rfl ⟨_,rfl,?_,_,rfl,rfl,fun k x hk=>?_⟩
     ·exact((HE.out.1.trans HE.out.2.1).trans' HE.out.2.2 (fun i hi h=>by have:=MY;omega)).trans og
     ·match k,hk with
      |0,hk=>cases hk;exact dw
      |1,hk=>cases hk;exact .int _ _
      |k+2,hk=>simp at hk
    | succ g=>
     have d0:(j:Int)<64:=by omega
     obtain⟨val,bz,LV⟩:=HD.out j (by omega);have VX:wr.ownsMap Tryz.prog 3 RZ w1.heap.size n D:=Bm.kept (row:=none) ⟨og.os,og.tape,og.output,og.size,fun k hk _=>og.block k hk id⟩ (by simp);have ur:keyOf Tryz.prog 3 (.int .i64 (j:Nat))=some (.int .i64 (j:Nat)):=keyOf_int_mk Tryz.underlying3 (WalkArith.wf_i64 (by omega));generalize L4:K j=kj at LV;cases kj with
     | none=>
      obtain rfl:val=pg:=LV
      go_wp2_with (first
       |(at_lookup;refine Rz _ rfl _ _ 63 rfl 3 34 M' Tryz.underlying63 pg (Rs _) w1.heap.size n D rfl VX _ _ rfl ur _ bz ?_))
      have ho:iQ K (j+1)=iQ K j:=by rw[Ux,L4];simp
      go_roundg g
      case measure=>omega
      case rel=>
       refine⟨j+1,vs,by omega,by first|rfl|simp,og.trans (Ext.tV _ _ _),?_,?_⟩
       ·rw[ho];exact fQ.alloc _
       ·rw[ho];exact HR
     | some x=>
      obtain⟨y1,y2,rfl,Nu,Nv⟩:=LV;have bw:=HK.out j x L4;obtain⟨a1,c1,rfl⟩:=CR Nu;obtain⟨a2,c2,rfl⟩:=CR Nv;rw[show(x.1.map PV.term).length=x.1.length from KaT ..]at bz Nu;rw[show(x.2.map PV.aj).length=x.2.length from KaT ..]at bz Nv;have d1:(0:Int)<(x.1.length:Int):=by omega
      have ho:iQ K (j+1)=iQ K j++[x]:=by rw[Ux,L4];simp
      have fE:=adv K j;obtain⟨i0,pY,z0,z1,z2⟩:=info_parts akE;have Mg:W2.heap.size<=wr.heap.size:=og.size
      go_wp2_with (first
       |(at_lookup;refine Rz _ rfl _ _ 63 rfl 3 34 M' Tryz.underlying63 pg (Rs _) w1.heap.size n D rfl VX _ _ rfl ur _ bz ?_)
       |(at_builtin;refine wpList_append_own_at _ rfl _ _ 25 rfl W2.heap.size 34 i0 pg 2 48 Tryz.underlying25 pY z0 z1 z2 rfl (by decide) _ _ _ rfl ((fQ.alloc _).alloc _) ⟨wr.heap.size+1,0,none⟩ 1 1 [.slice a1 x.1.length c1,.slice a2 x.2.length c2] rfl rfl (X2 _ _ _ _ (by simp)) abE (by unfold maxLen;omega) (by omega) (by simp;omega) ?_;intro v' w3 aop Bf Fg aqv))
      have yn:Ext bS W2 w3:=by
       have e1:Ext bS W2 ((wr.alloc (.cells #[.slice a1 x.1.length c1,.slice a2 x.2.length c2] 34)).alloc (.cells #[.slice a1 x.1.length c1,.slice a2 x.2.length c2] 34)):=og.trans ((Ext.tV _ _ _).trans (Ext.tV _ _ _));have e2:Ext (fun b=>W2.heap.size<=b) ((wr.alloc (.cells #[.slice a1 x.1.length c1,.slice a2 x.2.length c2] 34)).alloc (.cells #[.slice a1 x.1.length c1,.slice a2 x.2.length c2] 34)) w3:=
        ⟨Bf.os,Bf.tape,Bf.output,Bf.size,fun b hb hn=>Bf.block b hb (fun e=>hn ((fQ.lt b e.symm).1))⟩
       exact e1.trans' e2 (fun i hi h=>by omega)
      go_roundg g
      case measure=>omega
      case rel=>
       refine⟨j+1,vs++[.slice a1 x.1.length c1,.slice a2 x.2.length c2],by omega,by first|rfl|simp,yn,?_,?_⟩
       ·rw[ho,Kan];exact aop
       ·rw[ho];intro k hk;have kd:vs.length=(iQ K j).length*2:=fQ.1;rw[Kan,List.length_singleton]at hk;by_cases e:k<(iQ K j).length
        ·rw[Kcv e,Kap,Kap,Kb7 (by omega),Kb7 (by omega),<-List.getD_eq_getElem?_getD,<-List.getD_eq_getElem?_getD];exact HR.out k e
        ·obtain rfl:k=(iQ K j).length:=by omega
         rw[List.getElem_append_right (Kac _),Kap,Kap,Kcl (by omega),Kcl (by omega)];simp only[KbP,KcE,kd,show(iQ K j).length*2+1-(iQ K j).length*2=1 by omega];exact⟨Nu,Nv⟩
  | succ g=>
   obtain rfl:v=(g:Int):=by omega
   clear hv;by_cases yp:∃e,F=some (g,e)
   ·obtain⟨er,rfl⟩:=yp;obtain⟨-,m,Vl⟩:=HF.out (g,er) rfl;have NC:Aside (Ext bS W w1/\Ext bS w1 Wm):=⟨fq,od⟩
    go_wp2
    have Xs:Aside (nS g er (Ls (g+1)) m):=Vl;clear Vl
    go_loopg [4] m (fun k s4 wx=>∃L,Aside (nS g er L k)/\Qu wx (fun b=>X b∨b=w1.heap.size) (PV.cg L) s4/\lF X w1.heap.size K (g+1) Wm wx)
    case atStart=>exact⟨_,Xs,hl,hM⟩
    case round=>
     obtain⟨L,HL,nd,hM⟩:=hrel;have pR:∀b,(X b∨b=w1.heap.size)->b<wr.heap.size:=fun b hb=>hb.elim (fun h=>by have:=L9 b h;have:=hM.ex.size;omega) (fun h=>by have:=hM.ex.size;omega);generalize yB:gk=k at *
     have HL:=HL.out;cases HL with
     | fail _ at_ n oo h2 v7 AQ=>
      have cL:=oo.2 wr _ #[u4,.int .i64 (g:Nat)] pR rfl (fun i x hx=>by
       match i,hx with
       |0,hx=>simp at hx;subst hx;exact nd
       |1,hx=>simp at hx;subst hx;exact .int _ _
       |i+2,hx=>simp at hx)
      have cR:=fun w2 (hE:Ext bS wr w2)=>AQ.2 w2 _ #[u4,.int .i64 at_,.int .i64 (g:Nat)] (fun b hb=>KaN (pR b hb) hE.size) rfl (fun i x hx=>by
       match i,hx with
       |0,hx=>simp at hx;subst hx;exact a9.mono (p:=PV.cg L) nd (fun b hb _=>hE.block b hb id) (fun _ _ h=>h) hE.size
       |1,hx=>simp at hx;subst hx;exact .int _ _
       |2,hx=>simp at hx;subst hx;exact .int _ _
       |i+3,hx=>simp at hx)
      have rm:¬n<2:=by omega
      go_wp2_with (first|(go_at_call 28;refine cL.mono ?_;rintro e w2 ⟨v,r,rfl,fq,cN,rfl⟩;obtain rfl:=z7 cN)|(go_at_call 29;refine(cR _ fq).mono ?_;rintro e w3 ⟨v,r,rfl,od,Bt,rfl⟩;obtain⟨Xo,rfl,gm⟩:=Ix Bt))
      rw[Exit.noGoto_ret];refine bodyPost_ret (by simp[results,go_sem];rfl) rfl ⟨_,rfl,?_,_,rfl,rfl,fun k x hk=>?_⟩
      ·exact((NC.out.1.trans NC.out.2).trans' hM.ex (fun i hi h=>by have:=MY;omega)).trans (fq.trans od)
      ·match k,hk with
       |0,hk=>cases hk;exact Qu.gK _ none 0 (Kbx _)
       |1,hk=>cases hk;exact .int _ _
       |k+2,hk=>simp at hk
     | more _ L1 at_ n m oo h2 AQ vU=>
      have cL:=oo.2 wr _ #[u4,.int .i64 (g:Nat)] pR rfl (fun i x hx=>by
       match i,hx with
       |0,hx=>simp at hx;subst hx;exact nd
       |1,hx=>simp at hx;subst hx;exact .int _ _
       |i+2,hx=>simp at hx)
      have cR:=fun w2 (hE:Ext bS wr w2)=>AQ.2 w2 _ #[u4,.int .i64 at_,.int .i64 (g:Nat)] (fun b hb=>KaN (pR b hb) hE.size) rfl (fun i x hx=>by
       match i,hx with
       |0,hx=>simp at hx;subst hx;exact a9.mono (p:=PV.cg L) nd (fun b hb _=>hE.block b hb id) (fun _ _ h=>h) hE.size
       |1,hx=>simp at hx;subst hx;exact .int _ _
       |2,hx=>simp at hx;subst hx;exact .int _ _
       |i+3,hx=>simp at hx)
      have rm:¬n<2:=by omega
      have FL:Aside (nS g er L1 m):=vU;clear vU
      go_wp2_with (first|(go_at_call 28;refine cL.mono ?_;rintro e w2 ⟨v,r,rfl,fq,cN,rfl⟩;obtain rfl:=z7 cN)|(go_at_call 29;refine(cR _ fq).mono ?_;rintro e w3 ⟨v,r,rfl,od,Bt,rfl⟩;obtain⟨Xo,rfl,gm⟩:=Ix Bt))
      go_roundg m
      case measure=>omega
      case rel=>exact⟨L1,FL,gm,(hM.ext fq).ext od⟩
   have FK:Aside (∀p,F=some p->p.1<g):=fun p hp=>by have h1:=ND.out p hp;have h2:p.1≠g:=fun h=>yp ⟨p.2,by rw[hp,<-h]⟩;omega
   clear yp;obtain⟨m,Vk⟩:=HT.out g (by omega) FK.out
   go_wp2
   have Xr:Aside (jj g (Ls (g+1)) (Ls g) (K g) m):=Vk;clear Vk
   go_loopg [4] m (fun k s4 wx=>∃L,Aside (jj g L (Ls g) (K g) k)/\Qu wx (fun b=>X b∨b=w1.heap.size) (PV.cg L) s4/\lF X w1.heap.size K (g+1) Wm wx)
   case atStart=>exact⟨_,Xr,hl,hM⟩
   case round=>
    obtain⟨L,HL,nd,hM⟩:=hrel;have pR:∀b,(X b∨b=w1.heap.size)->b<wr.heap.size:=fun b hb=>hb.elim (fun h=>by have:=L9 b h;have:=hM.ex.size;omega) (fun h=>by have:=hM.ex.size;omega);generalize yB:gk=k at *
    have HL:=HL.out;generalize EE:K g=kg at HL;generalize su:Ls g=lg at HL;cases HL with
    | none _ at_ oo=>
     have cL:=oo.2 wr _ #[u4,.int .i64 (g:Nat)] pR rfl (fun i x hx=>by
      match i,hx with
      |0,hx=>simp at hx;subst hx;exact nd
      |1,hx=>simp at hx;subst hx;exact .int _ _
      |i+2,hx=>simp at hx)
     go_wp2_with (first|(go_at_call 28;refine cL.mono ?_;rintro e w2 ⟨v,r,rfl,fq,cN,rfl⟩;obtain rfl:=z7 cN))
     go_roundg g
     case measure=>omega
     case rel=>
      subst su;exact⟨(g:Int)-1,rfl,rfl,by omega,nd.mono (fun b hb _=>fq.block b hb id) (fun _ _ h=>h) fq.size,(hM.skip EE).ext fq,FK⟩
    | one _ i hi oo=>
     have cL:=oo.2 wr _ #[u4,.int .i64 (g:Nat)] pR rfl (fun i x hx=>by
      match i,hx with
      |0,hx=>simp at hx;subst hx;exact nd
      |1,hx=>simp at hx;subst hx;exact .int _ _
      |i+2,hx=>simp at hx)
     obtain⟨b,off,cap,x1,x2,rfl,LM,LN,Ns,Nt,EL,qW⟩:=nd.AB (i:=i) (by simpa using hi) (by rw[KcB]);obtain⟨a1,c1,rfl⟩:=CR Ns;obtain⟨a2,c2,rfl⟩:=CR Nt;have d1:(i:Int)<(L.length:Int):=by omega
     rw[KaT]at cL;have d2:(0:Int)<=(i:Int):=by omega
     have ur:keyOf Tryz.prog 3 (.int .i64 (g:Nat))=some (.int .i64 (g:Nat)):=keyOf_int_mk Tryz.underlying3 (WalkArith.wf_i64 (by omega));have key:∀w2,Ext bS wr w2->∃D n,n+(g+1)<=64/\w2.ownsMap Tryz.prog 3 RZ w1.heap.size n D/\Aside (IsMap D/\∀u,u<64->∃val,D.atKey (.int .i64 (u:Nat)) (.held pg)= .held val/\uM w2 (fun b=>X b∨b=w1.heap.size) (if g+1<=u then K u else none) val)/\
       w2.cell? ⟨b,off+i*2,none⟩=some (.slice a1 (L[i].1.map PV.term).length c1)/\w2.cell? ⟨b,off+i*2+1,none⟩=some (.slice a2 (L[i].2.map PV.aj).length c2):=fun w2 hE=>by
      obtain⟨D,n,hn,Bm,UW,EA⟩:=(hM.ext hE).mp;exact⟨D,n,hn,Bm,⟨UW,EA⟩,(World.cell?_of_block (w:=wr) (w':=w2) (a:=⟨b,off+i*2,none⟩) (hE.block b qW id)).trans LM,(World.cell?_of_block (w:=wr) (w':=w2) (a:=⟨b,off+i*2+1,none⟩) (hE.block b qW id)).trans LN⟩
     clear LM LN
     go_wp2_with (first
      |(go_at_call 28;refine cL.mono ?_;rintro e w2 ⟨v,r,rfl,fq,cN,rfl⟩;obtain rfl:=z7 cN;obtain⟨D,n,hn,Bm,HD,LM,LN⟩:=key w2 fq)
      |(at_mapUpdate;refine wpList_mapUpdate_own _ rfl _ _ _ 63 rfl 3 34 M' Tryz.underlying63 RZ w1.heap.size n D rfl Bm (by unfold maxLen;omega) _ _ _ rfl rfl ur _ [] rfl ?_;intro w3 aoq yC))
     have yn:Ext (fun b=>b=w1.heap.size) wr w3:=(fq.mono (fun _ _ h=>h.elim)).trans ⟨yC.os,yC.tape,yC.output,yC.size,fun b hb hn=>yC.block b hb (by simpa using hn)⟩;have Bj:Qu w3 (fun b=>X b∨b=w1.heap.size) (PV.cg L) (.slice (some ⟨b,off,none⟩) L.length cap):=by rw[KaT]at nd;exact nd.mono (fun b hb hn=>yn.block b hb (fun e=>hn (.inr e))) (fun _ _ h=>h) yn.size
     have Fq:Qu w2 (fun b=>X b∨b=w1.heap.size) (PV.aj L[i].1) (.slice a1 L[i].1.length c1):=by rw[show(L[i].1.map PV.term).length=L[i].1.length from KaT ..]at Ns;exact Ns.mono (fun b hb _=>fq.block b hb id) (fun _ _ h=>h) fq.size
     have ma:Qu w2 (fun b=>X b∨b=w1.heap.size) (PV.bX L[i].2) (.slice a2 L[i].2.length c2):=by rw[show(L[i].2.map PV.aj).length=L[i].2.length from KaT ..]at Nt;exact Nt.mono (fun b hb _=>fq.block b hb id) (fun _ _ h=>h) fq.size
     go_roundg g
     case measure=>omega
     case rel=>
      subst su;exact⟨(g:Int)-1,rfl,rfl,by omega,Bj,lF.put (hM.ext fq) EE hn HD.out.1 HD.out.2 Fq ma aoq yC,FK⟩
    | more _ L1 _ at_ n _ m oo h2 AQ vU=>
     have cL:=oo.2 wr _ #[u4,.int .i64 (g:Nat)] pR rfl (fun i x hx=>by
      match i,hx with
      |0,hx=>simp at hx;subst hx;exact nd
      |1,hx=>simp at hx;subst hx;exact .int _ _
      |i+2,hx=>simp at hx)
     have cR:=fun w2 (hE:Ext bS wr w2)=>AQ.2 w2 _ #[u4,.int .i64 at_,.int .i64 (g:Nat)] (fun b hb=>KaN (pR b hb) hE.size) rfl (fun i x hx=>by
      match i,hx with
      |0,hx=>simp at hx;subst hx;exact a9.mono (p:=PV.cg L) nd (fun b hb _=>hE.block b hb id) (fun _ _ h=>h) hE.size
      |1,hx=>simp at hx;subst hx;exact .int _ _
      |2,hx=>simp at hx;subst hx;exact .int _ _
      |i+3,hx=>simp at hx)
     have rm:¬n<2:=by omega
     have FL:Aside (jj g L1 lg kg m):=vU;clear vU
     go_wp2_with (first|(go_at_call 28;refine cL.mono ?_;rintro e w2 ⟨v,r,rfl,fq,cN,rfl⟩;obtain rfl:=z7 cN)|(go_at_call 29;refine(cR _ fq).mono ?_;rintro e w3 ⟨v,r,rfl,od,Bt,rfl⟩;obtain⟨Xo,rfl,gm⟩:=Ix Bt))
     go_roundg m
     case measure=>omega
     case rel=>
      subst su EE;exact⟨L1,FL,gm,(hM.ext fq).ext od⟩
theorem PD{list:List (List Tm)}{Ls:Nat->List aB}{K:Nat->Option aB}{F:Option (Nat×Int)}(aG:Qc Tryz.prog 27 [PV.bX list] (· = .aw [PV.cg (Ls 64),.int .i64 0]))
  (hT:∀v,v<64->(∀p,F=some p->p.1<v)->∃m,jj v (Ls (v+1)) (Ls v) (K v) m) (hF:∀p,F=some p->p.1<64/\∃m,nS p.1 p.2 (Ls (p.1+1)) m) (hK:∀v e,K v=some e->0<e.1.length):Qc Tryz.prog 8 [PV.bX list] (· =Nq F K):=by
 refine⟨by unfold oO;kernel_rfl,fun w X bn hX hs hr=>?_⟩;obtain⟨v0,rfl⟩:∃v0,bn= #[v0]:=by
  obtain⟨l⟩:=bn
  match l,hs with
  | [x],_=>exact⟨x,rfl⟩
 refine(Zx aG hT hF hK X hX (hr 0 _ rfl)).mono ?_;rintro e w' ⟨v,rfl,h1,h2⟩;exact⟨v,_,rfl,h1,h2,rfl⟩
theorem ahH{list:List (List Tm)}{Ls:Nat->List aB}{K:Nat->Option aB}(aG:Qc Tryz.prog 27 [PV.bX list] (· = .aw [PV.cg (Ls 64),.int .i64 0]))
  (hT:∀v,v<64->∃m,jj v (Ls (v+1)) (Ls v) (K v) m) (hK:∀v e,K v=some e->0<e.1.length):Qc Tryz.prog 8 [PV.bX list] (· = .aw [PV.cg ((List.range 64).filterMap K),.int .i64 0]):=
 PD (F:=none) aG (fun v hv _=>hT v hv) (fun p h=>by cases h) hK
theorem Qye{list:List (List Tm)}{er:Int}(he:er≠0)(aG:Qc Tryz.prog 27 [PV.bX list] (· = .aw [PV.cg [],.int .i64 er])){vp:Value}{W:World}(X:Nat->Prop)(hX:∀b,X b->b<W.heap.size)(hp:Qu W X (PV.bX list) vp):
  Calls Tryz.prog 8 #[vp] W fun e w'=>∃v,e= .returned v/\Ext bS W w'/\dF w' X (.aw [PV.cg [],.int .i64 er]) v:=by
 have LI:=aG.2 W X #[vp] hX rfl (fun i x hx=>by
  match i,hx with
  |0,hx=>simp at hx;subst hx;exact hp
  |i+1,hx=>simp at hx)
 go_enter Tryz.func8,Tryz.ntmps8
 go_wp2
 go_step3
 go_wp2_with (first|(go_at_call 27;refine LI.mono ?_))
 rintro e w1 ⟨v,r,rfl,fq,cN,rfl⟩;obtain⟨vs,rfl,gI,hr⟩:=cN;obtain⟨vl,ve,rfl⟩:∃vl ve,vs= #[vl,ve]:=by
  obtain⟨l⟩:=vs
  match l,gI with
  | [x,y],_=>exact⟨x,y,rfl⟩
 have M3:Qu w1 X (.int .i64 er) ve:=hr 1 _ rfl;cases M3;dsimp only
 go_wp2
 rw[Exit.noGoto_ret];refine bodyPost_ret (by simp[results,go_sem];rfl) rfl ⟨_,rfl,fq,_,rfl,rfl,fun k x hk=>?_⟩
 match k,hk with
 |0,hk=>cases hk;exact Qu.gK _ none 0 (Kbx _)
 |1,hk=>cases hk;exact .int _ _
 |k+2,hk=>simp at hk
theorem Zy{list:List (List Tm)}{er:Int}(he:er≠0)(aG:Qc Tryz.prog 27 [PV.bX list] (· = .aw [PV.cg [],.int .i64 er])):Qc Tryz.prog 8 [PV.bX list] (· = .aw [PV.cg [],.int .i64 er]):=by
 refine⟨by unfold oO;kernel_rfl,fun w X bn hX hs hr=>?_⟩;obtain⟨v0,rfl⟩:∃v0,bn= #[v0]:=by
  obtain⟨l⟩:=bn
  match l,hs with
  | [x],_=>exact⟨x,rfl⟩
 refine(Qye he aG X hX (hr 0 _ rfl)).mono ?_;rintro e w' ⟨v,rfl,h1,h2⟩;exact⟨v,_,rfl,h1,h2,rfl⟩
end Go.Proofs.YtdjoomkeehihmaaGreat
namespace Go.FW
open Go
structure aZ where
 n:Bool
 a:List Nat
 d:List Nat
 m:List Int
abbrev PV.qv(t:aZ):PV:=.agg [.bool t.n,PV.nat t.a,PV.nat t.d,PV.mono t.m]
abbrev PV.kp(l:List aZ):PV:=.sl 4 (l.map PV.qv)
def aZ.q(t:aZ):Rat:=rv t.n t.a t.d
def aZ.tm(t:aZ):Tm:=(t.q,t.m)
structure RB(k:Nat)(t:aZ):Prop where
 r:Qq t.a/\Qq t.d/\t.a.length<=k/\t.d.length<=k
 l:t.m.length<2^40
def fG(t:aZ):Bool:=pI t.n t.a t.d&&(decide (t.q≠0)&&fy t.m)
def eg:List aZ->Bool
 | []=>true
 | [t]=>fG t
 |s::t::l=>fG s&&(decide (0<aR s.m t.m)&&eg (t::l))
theorem HY:∀(l:List aZ),eg l=true↔(∀i (h:i<l.length),fG l[i]=true)/\(∀i (h:i+1<l.length),0<aR l[i].m l[i+1].m)
 | []=>by simp[eg]
 | [t]=>by
  rw[eg];constructor
  ·intro h;exact⟨fun i hi=>by have:i=0:=(by simp at hi;omega);subst this;exact h,fun i hi=>by simp at hi⟩
  ·intro h;exact h.1 0 (by simp)
 | s::t::l=>by
  rw[eg,Kat,Kat,decide_eq_true_eq,HY (t::l)];constructor
  ·rintro⟨h1,h2,h3,h4⟩;refine⟨fun i hi=>?_,fun i hi=>?_⟩
   ·cases i with
    |zero=>exact h1
    |succ i=>exact h3 i (by simpa using hi)
   ·cases i with
    |zero=>exact h2
    |succ i=>exact h4 i (by simpa using hi)
  ·rintro⟨h1,h2⟩;exact⟨h1 0 (by simp),h2 0 (by simp),fun i hi=>h1 (i+1) (by simpa using hi),fun i hi=>h2 (i+1) (by simpa using hi)⟩
theorem abF{s:aZ}{l:List aZ}(h:eg (s::l)=true):fG s=true/\eg l=true:=by
 cases l with
 |nil=>exact⟨h,rfl⟩
 |cons t l=>rw[eg,Kat,Kat]at h;exact⟨h.1,h.2.2⟩
structure TV(t:Tm):Prop where
 c:t.1≠0
 m:fy t.2=true
def e9:List Tm->Prop
 | []=>True
 |s::p=>(∀t∈p,0<aR s.2 t.2)/\e9 p
structure rE(p:List Tm):Prop where
 t:∀t∈p,TV t
 s:e9 p
theorem adw{t:aZ}{k:Nat}(hb:RB k t)(h:fG t=true):PV.qv t=PV.term t.tm/\TV t.tm:=by simp only[fG,Kat,decide_eq_true_eq]at h;obtain⟨h1,h2,h3⟩:=h;obtain⟨e1,e2,e3⟩:=adr hb.r.1 hb.r.2.1 h1;refine⟨?_,h2,h3⟩;rw[PV.qv,PV.term,aZ.tm,aZ.q,<-e1,PV.num,PV.num,<-e2,<-e3]
theorem wT{a b c:List Int}(h1:0<aR a b)(h2:0<aR b c):0<aR a c:=by have e1:=vh a b;have e2:=vh b c;have e3:=vh a c;have:=ZT (a:=c) (b:=b) (c:=a) (by omega) (by omega);omega
theorem Hl{k:Nat}:∀ {l:List aZ},(∀t∈l,RB k t)->eg l=true->PV.kp l=PV.aj (l.map aZ.tm)/\rE (l.map aZ.tm):=by
 intro l;induction l with
 |nil=>intro _ _;exact⟨rfl,⟨by simp,trivial⟩⟩
 | cons s l ih=>
  intro hb h;obtain⟨h1,h2⟩:=abF h;obtain⟨e1,v1⟩:=adw (hb s (by simp)) h1;obtain⟨e2,v2⟩:=ih (fun t ht=>hb t (by simp[ht])) h2;refine⟨?_,⟨fun t ht=>?_,?_,v2.s⟩⟩
  ·have e2':l.map PV.qv=(l.map aZ.tm).map PV.term:=by injection e2
   show PV.sl 4 (PV.qv s::l.map PV.qv)=PV.sl 4 (PV.term s.tm::(l.map aZ.tm).map PV.term);rw[e1,e2']
  ·simp only[Kba,KaQ]at ht;rcases ht with rfl|ht
   ·exact v1
   ·exact v2.t t ht
  ·cases l with
   |nil=>intro t ht;simp at ht
   |cons u l=>
    rw[eg,Kat,Kat,decide_eq_true_eq]at h;intro t ht;rw[Kba]at ht v2;rcases KaQ.1 ht with rfl|ht
    ·exact h.2.1
    ·exact wT h.2.1 (v2.s.1 t ht)
theorem Su{a:List Int}(h:fy a=true):a.getLast? ≠some 0:=by simp only[fy,Kat,decide_eq_true_eq]at h;exact h.2.1
variable {C : Ctx} {ρ : Nat -> Option Nat} {fr : Fr} {hp : HP} {w : World} {K R : Qg}
theorem O2(s:Nat)(hd:(aK hp (fr s)).aE=true):Wk fr hp (af fr s (aK hp (fr s))) (FW.cf hp (fr s).refs):=by
 rintro C tmps w ⟨ρ,hs⟩;have hf:=hs.freeze (fr s).refs;refine⟨ρ,hf.sz,hf.ext,hf.gY,hf.own,hf.inj,fun i=>?_⟩;unfold af;split
 ·rename_i hi;subst hi;exact Qt.lE (qF hs (hs.eZ i) (fun β h=>h) hd)
 ·exact hf.eZ i
def vF(W:List (Nat×Nat))(F:Fr)(I:Nat->Fr->HP->Prop)(n:Nat):Qg:=fun az an=>∃J fh m,Wk az an (aQ W J F) fh/\m<n/\I m J fh
theorem adx{W:List (Nat×Nat)}{F:Fr}{I:Nat->Fr->HP->Prop}{n:Nat}:KM (vF W F I n) (vF W F I n):=by rintro f f' hp hf ⟨J,fh,m,h1,h2,h3⟩;exact⟨J,fh,m,hf.wk.trans h1,h2,h3⟩
theorem Q2{sk:List It}{W:List (Nat×Nat)}{F:Fr}{I:Nat->Fr->HP->Prop}{n:Nat}(h:gd R sk):gd R (.el (vF W F I n)::sk):=⟨h.1,.el adx h.2⟩
theorem u9{W:List (Nat×Nat)}{F J:Fr}{I:Nat->Fr->HP->Prop}{n:Nat}(m:Nat)(hl:m<n)(h:I m J hp):vF W F I n (aQ W J F) hp:=⟨J,hp,m,Wk.refl _ _,hl,h⟩
theorem GX{W:List (Nat×Nat)}{F J:Fr}{I:Nat->Fr->HP->Prop}{n:Nat}(s m:Nat)(hs:lC W s=true)(hd:(aK hp (J s)).aE=true)(hl:m<n)(h:I m (af J s (aK hp (J s))) (FW.cf hp (J s).refs)):vF W F I n (aQ W J F) hp:=by
 have e:aQ W J F s=J s:=by rw[P9,if_pos hs]
 have hw:=O2 (fr:=aQ W J F) (hp:=hp) s (by rw[e];exact hd);rw[e,Pr hs]at hw;exact⟨_,_,m,hw,hl,h⟩
theorem HZ{sk:List It}{x:SC}(cz:gd R sk)(W:List (Nat×Nat))(B:List Nat)(I:Nat->Fr->HP->Prop)(m0:Nat)(h0:I m0 fr hp)
  (h:∀m J hp,I m J hp->vc C R (.c x:: .el (vF W (bF B fr) I m)::sk) (aQ W J (bF B fr)) hp):vc C R (.c (.loop x)::sk) fr hp:=by
 refine zG (fun m az an=>∃J,az=aQ W J (bF B fr)/\I m J an) m0 (HW W B).wk ⟨fr,rfl,h0⟩ ?_;rintro m _ an ⟨J,rfl,hI⟩;refine rW cz.1 _ _ _ _ _ _ (Kac _) (.c x (.el ?_ cz.2)) (ch.refl _) (h m J an hI);rintro f f' fh hf ⟨J2,sI,m2,e2,hl,h2⟩;exact HN hl (hf.wk.trans e2) ⟨J2,rfl,h2⟩
abbrev dg(a:List Nat)(i:Nat):Nat:=a.getD i 0
theorem vG{a:List Nat}(h:Qq a)(i:Nat):dg a i<65536:=by
 by_cases hi:i<a.length
 ·rw[dg,gu hi];exact eF h hi
 ·rw[dg,gw hi];omega
theorem xh(a:List Nat)(i:Nat):val (a.drop i)=dg a i+65536*val (a.drop (i+1)):=by
 by_cases hi:i<a.length
 ·rw[lK hi,dg,gu hi]
 ·rw[dg,gw hi,Kal (by omega),Kal (by omega)];rfl
theorem GY(a:List Nat)(i:Nat):val a=val (a.take i)+65536^i*val (a.drop i):=by
 by_cases hi:i<=a.length
 ·exact pz a i hi
 ·rw[Kae (by omega),Kal (by omega)];simp[val]
theorem X3{a:List Nat}(h:Qq a)(i:Nat):val (a.take i)<65536^i:=by
 by_cases hi:i<=a.length
 ·exact s8 h i hi
 ·rw[Kae (by omega)];exact KaN (oI h) (KbD (by omega) (by omega))
theorem RH(a:List Nat)(i:Nat):val (a.take (i+1))=val (a.take i)+65536^i*dg a i:=by
 by_cases hi:i<a.length
 ·rw[zb hi,dg,gu hi]
 ·rw[dg,gw hi,Kae (by omega),Kae (by omega)];simp
theorem Sv{a b:List Nat}(ha:Qq a){i:Nat}(h:val (a.drop i)<val (b.drop i)):val a<val b:=by rw[GY a i,GY b i];have h1:=X3 ha i;have:65536^i*(val (a.drop i)+1)<=65536^i*val (b.drop i):=Ka7 _ h;rw[Ka2]at this;omega
theorem O3{l:List Nat}{j v:Nat}(h:j<l.length):val (l.set j v)+65536^j*l[j]=val l+65536^j*v:=by have e:l.set j v=l.take j++v::l.drop (j+1):=List.set_eq_take_append_cons_drop.trans (by rw[if_pos h]);have e2:=pz l j (by omega);rw[lK h]at e2;rw[e,mA,KaF,KbZ (by omega),val,e2,Ka2,Ka2];omega
theorem DD(l:List Nat)(x:Nat):val (l++[x])=val l+65536^l.length*x:=by rw[mA];simp[val]
theorem ZA{l:List Nat}{j:Nat}(h:val (l.drop j)=0):dg l j=0:=by have:=xh l j;omega
theorem ahI{bt:Bool}{n d:Nat}:cm .rem bt (.int .u64 (n:Int)) (.int .u64 65536) d fr hp K=K (af fr d (.int .u64 ((n%65536:Nat):Int))) hp:=by rw[show(65536:Int)=((65536:Nat):Int)from rfl,qJ (by omega)]
theorem ahJ{bt:Bool}{n d:Nat}(h:n<18446744073709551616):cm .quo bt (.int .u64 (n:Int)) (.int .u64 65536) d fr hp K=K (af fr d (.int .u64 ((n/65536:Nat):Int))) hp:=by rw[show(65536:Int)=((65536:Nat):Int)from rfl,Ah (by omega) h]
theorem afc{bt:Bool}{n d:Nat}:cm .rem bt (.int .i64 (n:Int)) (.int .i64 65536) d fr hp K=K (af fr d (.int .i64 ((n%65536:Nat):Int))) hp:=by rw[show(65536:Int)=((65536:Nat):Int)from rfl,qJ (by omega)]
theorem afd{bt:Bool}{n d:Nat}(h:n<9223372036854775808):cm .quo bt (.int .i64 (n:Int)) (.int .i64 65536) d fr hp K=K (af fr d (.int .i64 ((n/65536:Nat):Int))) hp:=by rw[show(65536:Int)=((65536:Nat):Int)from rfl,Ie (by omega) h]
theorem ahK(n:Nat):(n:Int)*65536=((n*65536:Nat):Int):=by omega
end Go.FW
namespace Go.FW
theorem Uy{P x y V ai c q r M S T:Nat}(h1:S+P*x=M+P*r)(h2:M+P*(c+ai*(y+65536*V))=T)(h3:65536*q+r=x+ai*y+c):S+P*65536*(q+ai*V)=T:=by
 have e:P*(65536*q+r)=P*(x+ai*y+c):=by rw[h3]
 have a1:P*(c+ai*(y+65536*V))=P*c+P*(ai*y)+65536*(P*(ai*V)):=by rw[Ka2 ai,Ka2,Ka2,Kby ai 65536,Kby P 65536];omega
 have a2:P*65536*(q+ai*V)=65536*(P*q)+65536*(P*(ai*V)):=by rw[KaS P,Kbi,Ka2,Ka2]
 have a3:P*(65536*q+r)=65536*(P*q)+P*r:=by rw[Ka2,Kby]
 have a4:P*(x+ai*y+c)=P*x+P*(ai*y)+P*c:=by rw[Ka2,Ka2]
 omega
theorem UA{l:List Nat}{i j v:Nat}(h:i≠j):dg (l.set i v) j=dg l j:=by simp[dg,Kap,List.getElem?_set_ne h]
open Go
variable {C : Ctx} {ρ : Nat -> Option Nat} {fr : Fr} {hp : HP} {w : World} {K R : Qg}
theorem Tq{x V d q:Nat}(hd:0<d)(h:q=V/d):(V%d*65536+x)/d+65536*q=(x+65536*V)/d/\(V%d*65536+x)%d=(x+65536*V)%d:=by
 subst h;have e:x+65536*V=(V%d*65536+x)+d*(65536*(V/d)):=by
  have:=Kbr V d
  calc x+65536*V=x+65536*(d*(V/d)+V%d):=by rw[this]
   _=_:=by rw[Ka2,Kby];omega
 rw[e,Kcs _ _ hd,Kcp];exact⟨rfl,rfl⟩
theorem afe(i e:Nat)(hi:fr i= .aa):Wk fr hp (af fr i (.sl e [])) hp:=by
 rintro C tmps w ⟨ρ,hs⟩;refine⟨ρ,hs.sz,hs.ext,hs.gY,hs.own,hs.inj,fun j=>?_⟩;unfold af;split
 ·rename_i hj;subst hj;have:=hs.eZ j;rw[hi]at this;rw[Qt.wJ this];exact Qu.gK _ _ _ (Kbx _)
 ·exact hs.eZ j
theorem qK{sk:List It}{x:SC}(i e:Nat)(hi:fr i= .aa)(h:vc C R (.c (.loop x)::sk) (af fr i (.sl e [])) hp):vc C R (.c (.loop x)::sk) fr hp:=by rw[u7]at h⊢;obtain⟨I,μ,⟨bG,aF,h1,lW⟩,h2⟩:=h;exact⟨I,μ,⟨bG,aF,(afe i e hi).trans h1,lW⟩,h2⟩
end Go.FW
namespace Go.FW
open Go Go.ChangeShapes Go.WideShapes
section
variable {H : Type} {enc : TypeId × Value -> H} {P : Program} {w : World} {base : Nat} {spare : Nat -> Bool} {held : Bool}
structure FI(eH:DataW H->Nat):Prop where
 len:∀(elems spare:List (DataW H)),elems.length<=eH (.slice elems spare)
 sl:∀(elems spare:List (DataW H))(d:DataW H),d∈elems->eH d<=eH (.slice elems spare)
 ag:∀(parts:List (DataW H))(d:DataW H),d∈parts->eH d<=eH (.agg parts)
def lN(enc:TypeId×Value->H)(P:Program)(eH:DataW H->Nat)(N:Nat)(t:TypeId)(Q:List PV->Prop):Prop:=
 ∀(w:World)(base:Nat)(spare:Nat->Bool)(held:Bool)(fuel:Nat)(cs:List Value)(x:DataW H×List MemPlace),DataW.trod enc P w base spare held fuel t cs=some x->eH x.1<=N->
  ∃ps,Q ps/\ps.length=cs.length/\∀(i:Nat)(p:PV),ps[i]? =some p->Qu w bS p (cs.getD i undef)
variable {eH : DataW H -> Nat} {N : Nat}
theorem DE{w:World}{p:PV}{v:Value}(h:Qu w bS p v):∀(i:Nat)(q:PV),[p][i]? =some q->Qu w bS q ([v].getD i undef):=by
 intro i q hq
 match i,hq with
 |0,hq=>simp at hq;subst hq;exact h
 |i+1,hq=>simp at hq
theorem lN.mono{t:TypeId}{Q Q':List PV->Prop}(h:lN enc P eH N t Q)(hQ:∀ps,Q ps->Q' ps):lN enc P eH N t Q':=
 fun w base spare held fuel cs x hx hn=>let⟨ps,h1,h2,h3⟩:=h w base spare held fuel cs x hx hn;⟨ps,hQ ps h1,h2,h3⟩
theorem UB{t:TypeId}{k:IntKind}(ht:P.underlying t=some (.int k)):lN enc P eH N t fun ps=>∃n,ps=[.int k n]/\(Lit.int k n).wf=true:=by intro w base spare held fuel cs x hx _;obtain⟨n,rfl,rfl,hw⟩:=DataW.trod_int ht hx;exact⟨_,⟨n,rfl,hw⟩,rfl,DE (.int k n)⟩
theorem ZB{t:TypeId}(ht:P.underlying t=some .bool):lN enc P eH N t fun ps=>∃b,ps=[.bool b]:=by intro w base spare held fuel cs x hx _;obtain⟨b,rfl,rfl⟩:=DataW.trod_bool ht hx;exact⟨_,⟨b,rfl⟩,rfl,DE (.bool b)⟩
theorem abG{t:TypeId}(ht:P.underlying t=some (.int .u16)):lN enc P eH N t fun ps=>∃n:Nat,ps=[.int .u16 n]/\n<65536:=by refine(UB ht).mono ?_;rintro ps ⟨n,rfl,hw⟩;simp[Lit.wf,IntKind.min,IntKind.max,IntKind.signed,IntKind.bits]at hw;obtain⟨m,rfl⟩:=Int.eq_ofNat_of_zero_le hw.1;exact⟨m,rfl,by omega⟩
theorem abH{t:TypeId}(ht:P.underlying t=some (.int .i64)):lN enc P eH N t fun ps=>∃n:Int,ps=[.int .i64 n]/\ -9223372036854775808<=n/\n<=9223372036854775807:=by refine(UB ht).mono ?_;rintro ps ⟨n,rfl,hw⟩;simp[Lit.wf,IntKind.min,IntKind.max,IntKind.signed,IntKind.bits]at hw;exact⟨n,rfl,by omega⟩
theorem CG{α:Type}[Inhabited α]{f:α->PV}{G:α->Prop}{t e:TypeId}(hB:FI eH)(ht:P.underlying t=some (.slice e))(gW:0<P.cellsOf e)
  (he:lN enc P eH N e fun ps=>∃a:α,ps=(f a).cells/\G a):lN enc P eH N t fun ps=>∃l:List α,ps=[.sl (P.cellsOf e) (l.map f)]/\l.length<=N/\∀a∈l,G a:=by
 intro w base spare held fuel cs x hx hn;rcases Deep.open_slice ht hx with⟨rfl,rfl⟩|⟨a,len,cap,m,n,D,Pl,rfl,_,hl,hm,uv,rfl,cw⟩
 ·exact⟨_,⟨[],rfl,Kbx _,fun _ h=>by cases h⟩,rfl,DE (.gK _ none 0 (Kbx _))⟩
 have Bl:len<=m:=by rw[uv];split<;>omega
 obtain⟨A,hA⟩:=Deep.choose_lt (α:=α×List Value) (n:=len) (p:=fun i y=>w.cells? base (a.add (i*P.cellsOf e)) (P.cellsOf e)=some y.2/\G y.1/\(f y.1).cells.length=y.2.length/\∀(j:Nat)(p:PV),(f y.1).cells[j]? =some p->Qu w bS p (y.2.getD j undef)) (fun i hi=>by obtain⟨cs',h1,h2⟩:=cw i (by omega);have hd:D i∈(List.range len).map D:=Kcz (Kch.2 hi);obtain⟨_,⟨b,rfl,hG⟩,h3,h4⟩:=he w base spare held n cs' _ h2 (Kaw (hB.sl _ _ _ hd) hn);exact⟨(b,cs'),h1,hG,h3,h4⟩);have hlen:=hB.len ((List.range len).map D) ((List.range (m-len)).map fun j=>D (len+j));simp only[KaT,List.length_range]at hlen hn;refine⟨_,⟨(List.range len).map fun i=>(A i).1,rfl,by simp;omega,fun b hb=>?_⟩,rfl,DE ?_⟩
 ·obtain⟨i,hi,rfl⟩:=KaE.1 hb;exact(hA i (Kch.1 hi)).2.1
 ·rcases Kc1 len with rfl|hp
  ·exact .gK _ _ _ hm
  have sp:a.spot=none:=by obtain⟨_,h2,h3⟩:=World.cells?_some (hA 0 hp).1;have h4:=h3 0 gW;rw[Kam (by omega)]at h4;simpa[Addr.add]using World.cell?_spot h4
  obtain⟨b,off,spot⟩:=a;have sp':spot=none:=sp;subst sp';have pT:∀i,i<len->∀j,j<P.cellsOf e->w.cell? ⟨b,off+i*P.cellsOf e+j,none⟩=some ((A i).2.getD j undef):=fun i hi j hj=>by obtain⟨_,h2,h3⟩:=World.cells?_some (hA i hi).1;have h4:=h3 j hj;rw[Kam (by omega),add_plain,add_plain]at h4;rw[h4];simp[Kap,Kam (show j<(A i).2.length by omega)]
  have e1:((List.range len).map fun i=>(A i).1).map f=(List.range len).map fun i=>f (A i).1:=by simp
  have e2:((List.range len).map fun i=>f (A i).1).length=len:=by simp
  have get:∀(i:Nat)(x:PV),((List.range len).map fun i=>f (A i).1)[i]? =some x->i<len/\x=f (A i).1:=fun i x hx=>by obtain⟨hi,h⟩:=Kad.1 hx;rw[e2]at hi;exact⟨hi,by simpa using h.symm⟩
  rw[e1];have:=Qu.sl (w:=w) (X:=bS) (P.cellsOf e) ((List.range len).map fun i=>f (A i).1) b off cap (fun i j=>(A i).2.getD j undef) (fun h=>h) (Zt (pT 0 hp 0 gW)) (by rw[e2];exact hl) hm
   (fun i x hx=>by obtain⟨hi,rfl⟩:=get i x hx;rw[(hA i hi).2.2.1];exact(World.cells?_some (hA i hi).1).2.1)
   (fun i hi j hj=>pT i (by rwa[e2]at hi) j hj)
   (fun i x hx j y hy=>by obtain⟨hi,rfl⟩:=get i x hx;exact(hA i hi).2.2.2 j y hy)
  rwa[e2]at this
theorem Gm{t:TypeId}{f0 f1:Field}{Q0 Q1:List PV->Prop}(hB:FI eH)(ht:P.underlying t=some (.struct #[f0,f1]))(h0:f0.offset=0)(h1:f1.offset=P.cellsOf f0.type)(hc:P.cellsOf t=P.cellsOf f0.type+P.cellsOf f1.type)
  (r0:lN enc P eH N f0.type Q0) (r1:lN enc P eH N f1.type Q1):lN enc P eH N t fun ps=>∃p q,ps=p++q/\Q0 p/\Q1 q:=by
 intro w base spare held fuel cs x hx hn;obtain⟨y0,y1,n,rfl,hl,g0,g1⟩:=trod_struct2 ht hx;obtain⟨p,hp,fh,sI⟩:=r0 _ _ _ _ _ _ _ g0 (Kaw (hB.ag _ _ (by simp)) hn);obtain⟨q,hq,uw,Wg⟩:=r1 _ _ _ _ _ _ _ g1 (Kaw (hB.ag _ _ (by simp)) hn);rw[h0]at fh sI;rw[h1]at uw Wg;simp only[Kbp,KaF,Ka5]at fh uw;have lp:p.length=P.cellsOf f0.type:=by omega
 have lq:q.length=P.cellsOf f1.type:=by omega
 refine⟨_,⟨p,q,rfl,hp,hq⟩,by rw[Kan];omega,fun i v hv=>?_⟩;by_cases hi:i<p.length
 ·rw[Kb7 hi]at hv;have:=sI i v hv;rw[Kbp,Kap,Kca,if_pos (by omega)]at this;rw[Kap];exact this
 ·rw[Kcl (by omega)]at hv;have:=Wg _ v hv;have iG:i-p.length<q.length:=(Kad.1 hv).1;rw[Kap,Kca,if_pos (by omega),Ka9,show P.cellsOf f0.type+(i-p.length)=i by omega]at this;rw[Kap];exact this
theorem aff{r:Reach}{b0:Nat}{t:TypeId}{v:Value}{d:DataW H}{ps:List MemPlace}{Q:List PV->Prop}(hr:lN enc P eH N t Q)(hd:DataW.Trod enc P w base spare held t v d ps)(hn:eH d<=N)
  (hv:v.cells= #[v]):∃p,Q [p]/\a9 w bS p v:=by
 obtain⟨fuel,hf⟩:=hd;obtain⟨qs,h1,h2,h3⟩:=hr _ _ _ _ _ _ _ hf hn;rw[hv]at h2 h3
 match qs,h2 with
 | [p],_=>exact⟨p,h1,a9.qu (by simpa using h3 0 p rfl)⟩
theorem abI{r:Reach}{b0:Nat}{t e:TypeId}{v:Value}{d:DataW H}{ps:List MemPlace}{Q:List PV->Prop}(ht:P.underlying t=some (.slice e))(gS:Value.okWide P w r b0 t v)(hr:lN enc P eH N t Q)(hd:DataW.Trod enc P w base spare held t v d ps)(hn:eH d<=N):
  ∃p,Q [p]/\a9 w bS p v:=by
 obtain⟨a,len,cap,rfl⟩:=okWide_slice ht gS;exact aff (r:=r) (b0:=b0) hr hd hn rfl
theorem Ext.sameAt{W W':World}(h:Ext bS W W'){p:MemPlace}(hp:p.block<W.heap.size):W.sameAt W' p:=by
 cases p with
 |cell b off=>exact uV (h.block b hp (fun h=>h))
 |map b=>exact h.block b hp (fun h=>h)
theorem Ext.keptBut{W W':World}(h:Ext bS W W')(may:MemPlace->Prop):W.keptBut W' may:=by
 refine⟨h.os,h.output,fun i hi=>?_⟩;rw[h.block i hi (fun h=>h)];cases hh:W.heap[i]? with
 |none=>rfl
 |some o=>cases o with
  |cells c t fr=>exact⟨rfl,rfl,rfl,fun _ _=>rfl⟩
  |map es clock=>exact Or.inr ⟨rfl,rfl⟩
  |_=>rfl
theorem Ext.frozen{W W':World}(h:Ext bS W W'){a:Addr}(ha:a.block<W.heap.size):W'.frozen? a=W.frozen? a:=by unfold World.frozen?;rw[h.block _ ha (fun h=>h)]
theorem UC(hl:laidOutB P=true)(hm:mapsRowed P=true)(fR:∀ {t e:TypeId},t<P.types.size->P.underlying t=some (.slice e)->0<P.cellsOf e){W W':World}(hx:Ext bS W W')(sp:Nat->Bool):
  ∀ {ts:List TypeId} {vs:List Value} {ds:List (DataW H)} {ps:List MemPlace},(∀t∈ts,t<P.types.size)->DataW.TrodAll enc P W 0 (fun _=>true) true ts vs ds ps->(∀p∈ps,sp p.block=true)->DataW.TrodAll enc P W' 0 sp true ts vs ds ps
 | [],_,_,_,_,h,_=>by obtain⟨rfl,rfl,rfl⟩:=trodAll_nil h;rfl
 |t::ts,_,_,_,lA,h,hs=>by obtain⟨v,vs,d,ds,p,q,rfl,rfl,rfl,⟨fuel,h1⟩,h2⟩:=trodAll_cons h;refine⟨p,q,⟨fuel,?_⟩,UC hl hm fR hx sp (fun t ht=>lA t (by simp[ht])) h2 (fun x aT=>hs x (by simp[aT])),rfl⟩;exact DataW.trod_stays (kids_rows hl hm) fR (fun h=>by cases h) (lA t (by simp)) h1 (fun x aT=>hx.sameAt (DataW.trod_lt _ _ _ _ h1 x aT)) (fun x aT=>hs x (by simp[aT]))
theorem X4{f:FuncId}{fn:Func}{s:ChangeSpec}{ap fresh handsOn xL:Bool}{W:World}{args:Array Value}{ds gs:List (DataW H)}{before:List MemPlace}{di:List PV}{tb:TypeId}
  (hW:DataW.Whole enc P fn.params.toList s.vars ap W args.toList ds gs before) (BC:s.vars=[]) (dw:fn.resultTypes= #[tb]) (Wy:P.underlying tb=some .bool)
  (hl:laidOutB P=true) (hm:mapsRowed P=true) (fR:∀ {t e:TypeId},t<P.types.size->P.underlying t=some (.slice e)->0<P.cellsOf e) (Fj:∀t∈fn.params.toList,t<P.types.size)
  (Bd:s.fn H (ds++gs)={ results:=[.lit (.bool true)],args:=ds })
  (hF:Qc P f di (· = .bool true)) (MW:args.size=di.length) (cN:∀(i:Nat)(x:PV),di[i]? =some x->a9 W bS x (args.getD i undef)):
  Calls P f args W fun e W'=>∃v,e= .returned v/\s.post enc P fn ap fresh handsOn xL W args v W':=by
 refine(hF.2 W bS args (fun _ h=>h.elim) MW cN).mono ?_;rintro e W' ⟨v,r,rfl,hx,hr,rfl⟩;have hv:v= .bool true:=by cases hr;rfl
 subst hv;refine⟨_,rfl,?_⟩;have AS:=hW;obtain⟨p,q,hA,hV,rfl,hz,hn⟩:=hW;rw[BC]at hV;obtain⟨rfl,rfl⟩:=trodVars_none hV;simp only[Kak]at AS hz hn;have ar:∀x∈p,x.block<W.heap.size:=fun x aT=>by simpa using AS.lt x aT
 have US:∀sp:Nat->Bool,(∀x∈p,sp x.block=true)->DataW.TrodAll enc P W' 0 sp true fn.params.toList args.toList ds p:=fun sp hs=>UC hl hm fR hx sp Fj hA hs;have hR:∀(b:Nat)(sp:Nat->Bool)(hd:Bool),DataW.TrodAll enc P W' b sp hd fn.resultTypes.toList ((Value.bool true).resultList fn.resultTypes.size) [.lit (.bool true)] []:=fun b sp hd=>by rw[dw];exact trodAll_mk1 ⟨1,by simp[DataW.trod,Value.cells,Wy]⟩
 have hold:∀x∈p,(fun b=>decide (b<W.heap.size)) x.block=true:=fun x aT=>by simpa using ar x aT
 refine⟨ds,[],p,[],p,[],AS,?_,?_,?_,hx.keptBut _,fun _=>⟨?_,?_⟩⟩
 ·rw[Bd];exact hR _ _ _
 ·rw[Bd];simpa using US _ hold
 ·rw[Bd,BC];rfl
 ·exact RowKit.ok_one dw rfl (RowKit.okWide_bool_mk Wy _)
 ·refine⟨[.lit (.bool true)]++ds,[],p,⟨[]++p,[],trodAll_append (US _ (fun _ _=>rfl)) (hR _ _ _),?_,by simp,?_,?_⟩,?_⟩
  ·rw[BC];rfl
  ·intro b off hp;rw[hx.frozen (ar _ hp)];exact hz b off hp
  ·exact hn
  ·intro x aT _;exact aT
end
end Go.FW
namespace Go.FW
open Go
attribute [go_sem ↓] vcs apl
attribute [go_sem] apm apn apo apq ah6 acS acT ah7 ah8 ahD ahE acU acV akz akA ZP acW ae4 alN alO alP alQ abA ZQ List.drop_succ_cons List.drop_zero List.take_succ_cons List.take_zero List.headD_cons List.cons_append List.nil_append abc ami amh acX ae5 ae6 and_true List.length_cons List.length_nil ahW ahX ahY B0 aep abi aeW acO acP acQ acR aeX ahR ahS ac8 aeZ ae0 ajT ahT ahU ahV QC QD ahN bs1 bs2 ahP aeT aeU aeV ahQ Nat.add_zero RK abj Ui Int.toNat_natCast Nat.zero_add Option.map_some Option.map_none akv ah3 aky true_and P9 adi aa7 XJ ks Hc Dk ae1 Bool.and_true Bool.true_and Bool.and_false Bool.false_and decide_true decide_false List.contains_cons List.contains_nil Bool.or_false Bool.false_or Bool.or_true Bool.true_or List.any_cons List.any_nil Bool.false_eq_true cB.dst vg acY rQ Di aem Bool.not_true Bool.not_false List.length_map List.map_cons List.map_nil akx Option.some.injEq jS List.getElem?_cons_zero List.getElem?_cons_succ Option.getD_some
attribute [go_sem] ahI ahJ afc afd ahK adu akC YC ahG PA
theorem Dz0{p:Prop}(h:p:=by first|omega|rfl|(simp+decide only[go_sem]<;>rfl)|fail):p:=h
theorem Dz1{p A0:Prop}(x0:A0)(h:A0->p:=by intro x0;first|omega|rfl|(simp+decide only[go_sem,x0]<;>rfl)|fail):p:=h x0
theorem Dz2{p A0 A1:Prop}(x0:A0)(x1:A1)(h:A0->A1->p:=by intro x0 x1;first|omega|rfl|(simp+decide only[go_sem,x0,x1]<;>rfl)|fail):p:=h x0 x1
theorem Dz3{p A0 A1 A2:Prop}(x0:A0)(x1:A1)(x2:A2)(h:A0->A1->A2->p:=by intro x0 x1 x2;first|omega|rfl|(simp+decide only[go_sem,x0,x1,x2]<;>rfl)|fail):p:=h x0 x1 x2
theorem Dz4{p A0 A1 A2 A3:Prop}(x0:A0)(x1:A1)(x2:A2)(x3:A3)(h:A0->A1->A2->A3->p:=by intro x0 x1 x2 x3;first|omega|rfl|(simp+decide only[go_sem,x0,x1,x2,x3]<;>rfl)|fail):p:=h x0 x1 x2 x3
theorem Dz5{p A0 A1 A2 A3 A4:Prop}(x0:A0)(x1:A1)(x2:A2)(x3:A3)(x4:A4)(h:A0->A1->A2->A3->A4->p:=by intro x0 x1 x2 x3 x4;first|omega|rfl|(simp+decide only[go_sem,x0,x1,x2,x3,x4]<;>rfl)|fail):p:=h x0 x1 x2 x3 x4
theorem Dz6{p A0 A1 A2 A3 A4 A5:Prop}(x0:A0)(x1:A1)(x2:A2)(x3:A3)(x4:A4)(x5:A5)(h:A0->A1->A2->A3->A4->A5->p:=by intro x0 x1 x2 x3 x4 x5;first|omega|rfl|(simp+decide only[go_sem,x0,x1,x2,x3,x4,x5]<;>rfl)|fail):p:=h x0 x1 x2 x3 x4 x5
theorem Dz7{p A0 A1 A2 A3 A4 A5 A6:Prop}(x0:A0)(x1:A1)(x2:A2)(x3:A3)(x4:A4)(x5:A5)(x6:A6)(h:A0->A1->A2->A3->A4->A5->A6->p:=by intro x0 x1 x2 x3 x4 x5 x6;first|omega|rfl|(simp+decide only[go_sem,x0,x1,x2,x3,x4,x5,x6]<;>rfl)|fail):p:=h x0 x1 x2 x3 x4 x5 x6
theorem Dz8{p A0 A1 A2 A3 A4 A5 A6 A7:Prop}(x0:A0)(x1:A1)(x2:A2)(x3:A3)(x4:A4)(x5:A5)(x6:A6)(x7:A7)(h:A0->A1->A2->A3->A4->A5->A6->A7->p:=by intro x0 x1 x2 x3 x4 x5 x6 x7;first|omega|rfl|(simp+decide only[go_sem,x0,x1,x2,x3,x4,x5,x6,x7]<;>rfl)|fail):p:=h x0 x1 x2 x3 x4 x5 x6 x7
theorem Dz9{p A0 A1 A2 A3 A4 A5 A6 A7 A8:Prop}(x0:A0)(x1:A1)(x2:A2)(x3:A3)(x4:A4)(x5:A5)(x6:A6)(x7:A7)(x8:A8)(h:A0->A1->A2->A3->A4->A5->A6->A7->A8->p:=by intro x0 x1 x2 x3 x4 x5 x6 x7 x8;first|omega|rfl|(simp+decide only[go_sem,x0,x1,x2,x3,x4,x5,x6,x7,x8]<;>rfl)|fail):p:=h x0 x1 x2 x3 x4 x5 x6 x7 x8
theorem Dz10{p A0 A1 A2 A3 A4 A5 A6 A7 A8 A9:Prop}(x0:A0)(x1:A1)(x2:A2)(x3:A3)(x4:A4)(x5:A5)(x6:A6)(x7:A7)(x8:A8)(x9:A9)(h:A0->A1->A2->A3->A4->A5->A6->A7->A8->A9->p:=by intro x0 x1 x2 x3 x4 x5 x6 x7 x8 x9;first|omega|rfl|(simp+decide only[go_sem,x0,x1,x2,x3,x4,x5,x6,x7,x8,x9]<;>rfl)|fail):p:=h x0 x1 x2 x3 x4 x5 x6 x7 x8 x9
theorem Dz11{p A0 A1 A2 A3 A4 A5 A6 A7 A8 A9 g9:Prop}(x0:A0)(x1:A1)(x2:A2)(x3:A3)(x4:A4)(x5:A5)(x6:A6)(x7:A7)(x8:A8)(x9:A9)(dZ:g9)(h:A0->A1->A2->A3->A4->A5->A6->A7->A8->A9->g9->p:=by intro x0 x1 x2 x3 x4 x5 x6 x7 x8 x9 dZ;first|omega|rfl|(simp+decide only[go_sem,x0,x1,x2,x3,x4,x5,x6,x7,x8,x9,dZ]<;>rfl)|fail):p:=h x0 x1 x2 x3 x4 x5 x6 x7 x8 x9 dZ
theorem Dz13{p A0 A1 A2 A3 A4 A5 A6 A7 A8 A9 g9 mq mu:Prop}(x0:A0)(x1:A1)(x2:A2)(x3:A3)(x4:A4)(x5:A5)(x6:A6)(x7:A7)(x8:A8)(x9:A9)(dZ:g9)(iK:mq)(iL:mu)(h:A0->A1->A2->A3->A4->A5->A6->A7->A8->A9->g9->mq->mu->p:=by intro x0 x1 x2 x3 x4 x5 x6 x7 x8 x9 dZ iK iL;first|omega|rfl|(simp+decide only[go_sem,x0,x1,x2,x3,x4,x5,x6,x7,x8,x9,dZ,iK,iL]<;>rfl)|fail):p:=h x0 x1 x2 x3 x4 x5 x6 x7 x8 x9 dZ iK iL
theorem Dz14{p A0 A1 A2 A3 A4 A5 A6 A7 A8 A9 g9 mq mu y3:Prop}(x0:A0)(x1:A1)(x2:A2)(x3:A3)(x4:A4)(x5:A5)(x6:A6)(x7:A7)(x8:A8)(x9:A9)(dZ:g9)(iK:mq)(iL:mu)(uL:y3)(h:A0->A1->A2->A3->A4->A5->A6->A7->A8->A9->g9->mq->mu->y3->p:=by intro x0 x1 x2 x3 x4 x5 x6 x7 x8 x9 dZ iK iL uL;first|omega|rfl|(simp+decide only[go_sem,x0,x1,x2,x3,x4,x5,x6,x7,x8,x9,dZ,iK,iL,uL]<;>rfl)|fail):p:=h x0 x1 x2 x3 x4 x5 x6 x7 x8 x9 dZ iK iL uL
theorem Sz0{p q:Prop}(h:q)(e:p=q:=by conv=>lhs;simp+decide (disch:=try exact Dz0) only[go_sem]):p:=e▸h
theorem Tz0{p:Prop}(h:p:=by simp+decide (disch:=try exact Dz0) only[go_sem]):p:=h
theorem cC{p:Prop}(h:p:=by simp+decide (disch:=try exact Dz0) only[go_sem]<;>rfl):p:=h
theorem Sz1{p q A0:Prop}(x0:A0)(h:q)(e:A0->p=q:=by intro x0;conv=>lhs;simp+decide (disch:=try exact Dz1 @x0) only[go_sem,x0]):p:=(e x0)▸h
theorem Tz1{p A0:Prop}(x0:A0)(h:A0->p:=by intro x0;simp+decide (disch:=try exact Dz1 @x0) only[go_sem,x0]):p:=h x0
theorem Tzr1{p A0:Prop}(x0:A0)(h:A0->p:=by intro x0;simp+decide (disch:=try exact Dz1 @x0) only[go_sem,x0]<;>rfl):p:=h x0
theorem Sz2{p q A0 A1:Prop}(x0:A0)(x1:A1)(h:q)(e:A0->A1->p=q:=by intro x0 x1;conv=>lhs;simp+decide (disch:=try exact Dz2 @x0 @x1) only[go_sem,x0,x1]):p:=(e x0 x1)▸h
theorem Tz2{p A0 A1:Prop}(x0:A0)(x1:A1)(h:A0->A1->p:=by intro x0 x1;simp+decide (disch:=try exact Dz2 @x0 @x1) only[go_sem,x0,x1]):p:=h x0 x1
theorem Sz3{p q A0 A1 A2:Prop}(x0:A0)(x1:A1)(x2:A2)(h:q)(e:A0->A1->A2->p=q:=by intro x0 x1 x2;conv=>lhs;simp+decide (disch:=try exact Dz3 @x0 @x1 @x2) only[go_sem,x0,x1,x2]):p:=(e x0 x1 x2)▸h
theorem Tz3{p A0 A1 A2:Prop}(x0:A0)(x1:A1)(x2:A2)(h:A0->A1->A2->p:=by intro x0 x1 x2;simp+decide (disch:=try exact Dz3 @x0 @x1 @x2) only[go_sem,x0,x1,x2]):p:=h x0 x1 x2
theorem Sz4{p q A0 A1 A2 A3:Prop}(x0:A0)(x1:A1)(x2:A2)(x3:A3)(h:q)(e:A0->A1->A2->A3->p=q:=by intro x0 x1 x2 x3;conv=>lhs;simp+decide (disch:=try exact Dz4 @x0 @x1 @x2 @x3) only[go_sem,x0,x1,x2,x3]):p:=(e x0 x1 x2 x3)▸h
theorem Tz4{p A0 A1 A2 A3:Prop}(x0:A0)(x1:A1)(x2:A2)(x3:A3)(h:A0->A1->A2->A3->p:=by intro x0 x1 x2 x3;simp+decide (disch:=try exact Dz4 @x0 @x1 @x2 @x3) only[go_sem,x0,x1,x2,x3]):p:=h x0 x1 x2 x3
theorem Sz5{p q A0 A1 A2 A3 A4:Prop}(x0:A0)(x1:A1)(x2:A2)(x3:A3)(x4:A4)(h:q)(e:A0->A1->A2->A3->A4->p=q:=by intro x0 x1 x2 x3 x4;conv=>lhs;simp+decide (disch:=try exact Dz5 @x0 @x1 @x2 @x3 @x4) only[go_sem,x0,x1,x2,x3,x4]):p:=(e x0 x1 x2 x3 x4)▸h
theorem Tz5{p A0 A1 A2 A3 A4:Prop}(x0:A0)(x1:A1)(x2:A2)(x3:A3)(x4:A4)(h:A0->A1->A2->A3->A4->p:=by intro x0 x1 x2 x3 x4;simp+decide (disch:=try exact Dz5 @x0 @x1 @x2 @x3 @x4) only[go_sem,x0,x1,x2,x3,x4]):p:=h x0 x1 x2 x3 x4
theorem Sz6{p q A0 A1 A2 A3 A4 A5:Prop}(x0:A0)(x1:A1)(x2:A2)(x3:A3)(x4:A4)(x5:A5)(h:q)(e:A0->A1->A2->A3->A4->A5->p=q:=by intro x0 x1 x2 x3 x4 x5;conv=>lhs;simp+decide (disch:=try exact Dz6 @x0 @x1 @x2 @x3 @x4 @x5) only[go_sem,x0,x1,x2,x3,x4,x5]):p:=(e x0 x1 x2 x3 x4 x5)▸h
theorem Sz7{p q A0 A1 A2 A3 A4 A5 A6:Prop}(x0:A0)(x1:A1)(x2:A2)(x3:A3)(x4:A4)(x5:A5)(x6:A6)(h:q)(e:A0->A1->A2->A3->A4->A5->A6->p=q:=by intro x0 x1 x2 x3 x4 x5 x6;conv=>lhs;simp+decide (disch:=try exact Dz7 @x0 @x1 @x2 @x3 @x4 @x5 @x6) only[go_sem,x0,x1,x2,x3,x4,x5,x6]):p:=(e x0 x1 x2 x3 x4 x5 x6)▸h
theorem Sz8{p q A0 A1 A2 A3 A4 A5 A6 A7:Prop}(x0:A0)(x1:A1)(x2:A2)(x3:A3)(x4:A4)(x5:A5)(x6:A6)(x7:A7)(h:q)(e:A0->A1->A2->A3->A4->A5->A6->A7->p=q:=by intro x0 x1 x2 x3 x4 x5 x6 x7;conv=>lhs;simp+decide (disch:=try exact Dz8 @x0 @x1 @x2 @x3 @x4 @x5 @x6 @x7) only[go_sem,x0,x1,x2,x3,x4,x5,x6,x7]):p:=(e x0 x1 x2 x3 x4 x5 x6 x7)▸h
theorem Sz9{p q A0 A1 A2 A3 A4 A5 A6 A7 A8:Prop}(x0:A0)(x1:A1)(x2:A2)(x3:A3)(x4:A4)(x5:A5)(x6:A6)(x7:A7)(x8:A8)(h:q)(e:A0->A1->A2->A3->A4->A5->A6->A7->A8->p=q:=by intro x0 x1 x2 x3 x4 x5 x6 x7 x8;conv=>lhs;simp+decide (disch:=try exact Dz9 @x0 @x1 @x2 @x3 @x4 @x5 @x6 @x7 @x8) only[go_sem,x0,x1,x2,x3,x4,x5,x6,x7,x8]):p:=(e x0 x1 x2 x3 x4 x5 x6 x7 x8)▸h
theorem Ce{p q A0 A1 A2 A3 A4 A5 A6 A7 A8 A9:Prop}(x0:A0)(x1:A1)(x2:A2)(x3:A3)(x4:A4)(x5:A5)(x6:A6)(x7:A7)(x8:A8)(x9:A9)(h:q)(e:A0->A1->A2->A3->A4->A5->A6->A7->A8->A9->p=q:=by intro x0 x1 x2 x3 x4 x5 x6 x7 x8 x9;conv=>lhs;simp+decide (disch:=try exact Dz10 @x0 @x1 @x2 @x3 @x4 @x5 @x6 @x7 @x8 @x9) only[go_sem,x0,x1,x2,x3,x4,x5,x6,x7,x8,x9]):p:=(e x0 x1 x2 x3 x4 x5 x6 x7 x8 x9)▸h
theorem Tz10{p A0 A1 A2 A3 A4 A5 A6 A7 A8 A9:Prop}(x0:A0)(x1:A1)(x2:A2)(x3:A3)(x4:A4)(x5:A5)(x6:A6)(x7:A7)(x8:A8)(x9:A9)(h:A0->A1->A2->A3->A4->A5->A6->A7->A8->A9->p:=by intro x0 x1 x2 x3 x4 x5 x6 x7 x8 x9;simp+decide (disch:=try exact Dz10 @x0 @x1 @x2 @x3 @x4 @x5 @x6 @x7 @x8 @x9) only[go_sem,x0,x1,x2,x3,x4,x5,x6,x7,x8,x9]):p:=h x0 x1 x2 x3 x4 x5 x6 x7 x8 x9
theorem Sz11{p q A0 A1 A2 A3 A4 A5 A6 A7 A8 A9 g9:Prop}(x0:A0)(x1:A1)(x2:A2)(x3:A3)(x4:A4)(x5:A5)(x6:A6)(x7:A7)(x8:A8)(x9:A9)(dZ:g9)(h:q)(e:A0->A1->A2->A3->A4->A5->A6->A7->A8->A9->g9->p=q:=by intro x0 x1 x2 x3 x4 x5 x6 x7 x8 x9 dZ;conv=>lhs;simp+decide (disch:=try exact Dz11 @x0 @x1 @x2 @x3 @x4 @x5 @x6 @x7 @x8 @x9 @dZ) only[go_sem,x0,x1,x2,x3,x4,x5,x6,x7,x8,x9,dZ]):p:=(e x0 x1 x2 x3 x4 x5 x6 x7 x8 x9 dZ)▸h
theorem Tz11{p A0 A1 A2 A3 A4 A5 A6 A7 A8 A9 g9:Prop}(x0:A0)(x1:A1)(x2:A2)(x3:A3)(x4:A4)(x5:A5)(x6:A6)(x7:A7)(x8:A8)(x9:A9)(dZ:g9)(h:A0->A1->A2->A3->A4->A5->A6->A7->A8->A9->g9->p:=by intro x0 x1 x2 x3 x4 x5 x6 x7 x8 x9 dZ;simp+decide (disch:=try exact Dz11 @x0 @x1 @x2 @x3 @x4 @x5 @x6 @x7 @x8 @x9 @dZ) only[go_sem,x0,x1,x2,x3,x4,x5,x6,x7,x8,x9,dZ]):p:=h x0 x1 x2 x3 x4 x5 x6 x7 x8 x9 dZ
theorem Sz13{p q A0 A1 A2 A3 A4 A5 A6 A7 A8 A9 g9 mq mu:Prop}(x0:A0)(x1:A1)(x2:A2)(x3:A3)(x4:A4)(x5:A5)(x6:A6)(x7:A7)(x8:A8)(x9:A9)(dZ:g9)(iK:mq)(iL:mu)(h:q)(e:A0->A1->A2->A3->A4->A5->A6->A7->A8->A9->g9->mq->mu->p=q:=by intro x0 x1 x2 x3 x4 x5 x6 x7 x8 x9 dZ iK iL;conv=>lhs;simp+decide (disch:=try exact Dz13 @x0 @x1 @x2 @x3 @x4 @x5 @x6 @x7 @x8 @x9 @dZ @iK @iL) only[go_sem,x0,x1,x2,x3,x4,x5,x6,x7,x8,x9,dZ,iK,iL]):p:=(e x0 x1 x2 x3 x4 x5 x6 x7 x8 x9 dZ iK iL)▸h
theorem Tz13{p A0 A1 A2 A3 A4 A5 A6 A7 A8 A9 g9 mq mu:Prop}(x0:A0)(x1:A1)(x2:A2)(x3:A3)(x4:A4)(x5:A5)(x6:A6)(x7:A7)(x8:A8)(x9:A9)(dZ:g9)(iK:mq)(iL:mu)(h:A0->A1->A2->A3->A4->A5->A6->A7->A8->A9->g9->mq->mu->p:=by intro x0 x1 x2 x3 x4 x5 x6 x7 x8 x9 dZ iK iL;simp+decide (disch:=try exact Dz13 @x0 @x1 @x2 @x3 @x4 @x5 @x6 @x7 @x8 @x9 @dZ @iK @iL) only[go_sem,x0,x1,x2,x3,x4,x5,x6,x7,x8,x9,dZ,iK,iL]):p:=h x0 x1 x2 x3 x4 x5 x6 x7 x8 x9 dZ iK iL
theorem Sz14{p q A0 A1 A2 A3 A4 A5 A6 A7 A8 A9 g9 mq mu y3:Prop}(x0:A0)(x1:A1)(x2:A2)(x3:A3)(x4:A4)(x5:A5)(x6:A6)(x7:A7)(x8:A8)(x9:A9)(dZ:g9)(iK:mq)(iL:mu)(uL:y3)(h:q)(e:A0->A1->A2->A3->A4->A5->A6->A7->A8->A9->g9->mq->mu->y3->p=q:=by intro x0 x1 x2 x3 x4 x5 x6 x7 x8 x9 dZ iK iL uL;conv=>lhs;simp+decide (disch:=try exact Dz14 @x0 @x1 @x2 @x3 @x4 @x5 @x6 @x7 @x8 @x9 @dZ @iK @iL @uL) only[go_sem,x0,x1,x2,x3,x4,x5,x6,x7,x8,x9,dZ,iK,iL,uL]):p:=(e x0 x1 x2 x3 x4 x5 x6 x7 x8 x9 dZ iK iL uL)▸h
theorem Ez0{p:Prop}(h:p:=by first|omega|rfl|(simp+decide only[go_sem,ee,Kav,KaC,Kau,KaA,Kak]<;>rfl)|fail):p:=h
theorem Ez1{p A0:Prop}(x0:A0)(h:A0->p:=by intro x0;first|omega|rfl|(simp+decide only[go_sem,ee,Kav,KaC,Kau,KaA,Kak,x0]<;>rfl)|fail):p:=h x0
theorem Ez2{p A0 A1:Prop}(x0:A0)(x1:A1)(h:A0->A1->p:=by intro x0 x1;first|omega|rfl|(simp+decide only[go_sem,ee,Kav,KaC,Kau,KaA,Kak,x0,x1]<;>rfl)|fail):p:=h x0 x1
theorem Ez3{p A0 A1 A2:Prop}(x0:A0)(x1:A1)(x2:A2)(h:A0->A1->A2->p:=by intro x0 x1 x2;first|omega|rfl|(simp+decide only[go_sem,ee,Kav,KaC,Kau,KaA,Kak,x0,x1,x2]<;>rfl)|fail):p:=h x0 x1 x2
theorem Ez4{p A0 A1 A2 A3:Prop}(x0:A0)(x1:A1)(x2:A2)(x3:A3)(h:A0->A1->A2->A3->p:=by intro x0 x1 x2 x3;first|omega|rfl|(simp+decide only[go_sem,ee,Kav,KaC,Kau,KaA,Kak,x0,x1,x2,x3]<;>rfl)|fail):p:=h x0 x1 x2 x3
theorem Ez5{p A0 A1 A2 A3 A4:Prop}(x0:A0)(x1:A1)(x2:A2)(x3:A3)(x4:A4)(h:A0->A1->A2->A3->A4->p:=by intro x0 x1 x2 x3 x4;first|omega|rfl|(simp+decide only[go_sem,ee,Kav,KaC,Kau,KaA,Kak,x0,x1,x2,x3,x4]<;>rfl)|fail):p:=h x0 x1 x2 x3 x4
theorem Ez6{p A0 A1 A2 A3 A4 A5:Prop}(x0:A0)(x1:A1)(x2:A2)(x3:A3)(x4:A4)(x5:A5)(h:A0->A1->A2->A3->A4->A5->p:=by intro x0 x1 x2 x3 x4 x5;first|omega|rfl|(simp+decide only[go_sem,ee,Kav,KaC,Kau,KaA,Kak,x0,x1,x2,x3,x4,x5]<;>rfl)|fail):p:=h x0 x1 x2 x3 x4 x5
theorem eK{p q:Prop}(h:q)(e:p=q:=by conv=>lhs;simp+decide (disch:=try exact Ez0) only[go_sem,ee,Kav,KaC,Kau,KaA,Kak]):p:=e▸h
theorem yc{p:Prop}(h:p:=by simp+decide (disch:=try exact Ez0) only[go_sem,ee,Kav,KaC,Kau,KaA,Kak]):p:=h
theorem Cg{p:Prop}(h:p:=by simp+decide (disch:=try exact Ez0) only[go_sem,ee,Kav,KaC,Kau,KaA,Kak]<;>rfl):p:=h
theorem sg{p q A0:Prop}(x0:A0)(h:q)(e:A0->p=q:=by intro x0;conv=>lhs;simp+decide (disch:=try exact Ez1 @x0) only[go_sem,ee,Kav,KaC,Kau,KaA,Kak,x0]):p:=(e x0)▸h
theorem Uz1{p A0:Prop}(x0:A0)(h:A0->p:=by intro x0;simp+decide (disch:=try exact Ez1 @x0) only[go_sem,ee,Kav,KaC,Kau,KaA,Kak,x0]):p:=h x0
theorem kF{p q A0 A1:Prop}(x0:A0)(x1:A1)(h:q)(e:A0->A1->p=q:=by intro x0 x1;conv=>lhs;simp+decide (disch:=try exact Ez2 @x0 @x1) only[go_sem,ee,Kav,KaC,Kau,KaA,Kak,x0,x1]):p:=(e x0 x1)▸h
theorem IS{p A0 A1:Prop}(x0:A0)(x1:A1)(h:A0->A1->p:=by intro x0 x1;simp+decide (disch:=try exact Ez2 @x0 @x1) only[go_sem,ee,Kav,KaC,Kau,KaA,Kak,x0,x1]<;>rfl):p:=h x0 x1
theorem Ay{p q A0 A1 A2:Prop}(x0:A0)(x1:A1)(x2:A2)(h:q)(e:A0->A1->A2->p=q:=by intro x0 x1 x2;conv=>lhs;simp+decide (disch:=try exact Ez3 @x0 @x1 @x2) only[go_sem,ee,Kav,KaC,Kau,KaA,Kak,x0,x1,x2]):p:=(e x0 x1 x2)▸h
theorem IT{p q A0 A1 A2 A3:Prop}(x0:A0)(x1:A1)(x2:A2)(x3:A3)(h:q)(e:A0->A1->A2->A3->p=q:=by intro x0 x1 x2 x3;conv=>lhs;simp+decide (disch:=try exact Ez4 @x0 @x1 @x2 @x3) only[go_sem,ee,Kav,KaC,Kau,KaA,Kak,x0,x1,x2,x3]):p:=(e x0 x1 x2 x3)▸h
theorem UG{p q A0 A1 A2 A3 A4:Prop}(x0:A0)(x1:A1)(x2:A2)(x3:A3)(x4:A4)(h:q)(e:A0->A1->A2->A3->A4->p=q:=by intro x0 x1 x2 x3 x4;conv=>lhs;simp+decide (disch:=try exact Ez5 @x0 @x1 @x2 @x3 @x4) only[go_sem,ee,Kav,KaC,Kau,KaA,Kak,x0,x1,x2,x3,x4]):p:=(e x0 x1 x2 x3 x4)▸h
theorem Vz6{p q A0 A1 A2 A3 A4 A5:Prop}(x0:A0)(x1:A1)(x2:A2)(x3:A3)(x4:A4)(x5:A5)(h:q)(e:A0->A1->A2->A3->A4->A5->p=q:=by intro x0 x1 x2 x3 x4 x5;conv=>lhs;simp+decide (disch:=try exact Ez6 @x0 @x1 @x2 @x3 @x4 @x5) only[go_sem,ee,Kav,KaC,Kau,KaA,Kak,x0,x1,x2,x3,x4,x5]):p:=(e x0 x1 x2 x3 x4 x5)▸h
variable {C : Ctx} {fr : Fr} {hp : HP} {R : Qg}
theorem OA{sk:List It}{x:SC}(s:Nat)(hd:(aK hp (fr s)).aE=true)(h:vc C R (.c (.loop x)::sk) (af fr s (aK hp (fr s))) (FW.cf hp (fr s).refs)):vc C R (.c (.loop x)::sk) fr hp:=by rw[u7]at h⊢;obtain⟨I,μ,⟨bG,aF,h1,lW⟩,h2⟩:=h;exact⟨I,μ,⟨bG,aF,(O2 s hd).trans h1,lW⟩,h2⟩
end Go.FW
namespace Go.FW
open Go
variable {C : Ctx} {ρ : Nat -> Option Nat} {fr az : Fr} {hp : HP} {w : World} {K R : Qg}
theorem cV.known{p:PV}{v:Value}(h:cV C ρ hp w p v):∀γ∈p.dT,hp γ≠none:=by
 intro γ ak;cases p with
 |ay β o n=>simp[PV.dT]at ak;subst ak;obtain⟨_,hb,h1,_⟩:=h;simp[h1]
 |aM β o n=>simp[PV.dT]at ak;subst ak;obtain⟨_,hb,b,cap,h1,_⟩:=h;simp[h1]
 |np β o n=>cases h
 |_=>cases ak
theorem cW.known{p:PV}{v:Value}(h:cW C ρ hp w p v):(∀γ∈p.bP,hp γ≠none)/\∀γ∈p.eD,hp γ≠none:=by
 cases p with
 |mp β i o=>obtain⟨b,hb,h1,h2,_⟩:=h;simp[PV.bP,PV.eD,h2]
 |ay β o n=>obtain⟨hb,h1,_⟩:=h;simp[PV.bP,PV.eD,h1]
 |rb β o n=>obtain⟨b,u,_,_,_,_,hb,h1,_⟩:=h;simp[PV.bP,PV.eD,h1]
 |np γ i o=>obtain⟨_,b,hb,h1,h2,_⟩:=h;simp[PV.bP,PV.eD,h2]
 |aM γ o n=>obtain⟨_,hb,b,cap,h1,_⟩:=h;simp[PV.bP,PV.eD,h1]
 |_=>exact⟨(fun γ ak=>by cases ak),(fun γ ak=>by cases ak)⟩
theorem Qt.known{p:PV}{v:Value}(h:Qt C ρ hp w p v):(∀γ∈p.refs,hp γ≠none)/\∀γ∈p.bT,hp γ≠none:=by
 cases p with
 |mp β i o=>obtain⟨b,hb,h1,h2,_⟩:=h;simp[PV.refs,PV.bT,h2]
 |ay β o n=>obtain⟨hb,h1,_⟩:=h;simp[PV.refs,PV.bT,h1]
 |rb β o n=>obtain⟨b,u,_,_,_,_,hb,h1,_⟩:=h;simp[PV.refs,PV.bT,h1]
 |np γ i o=>obtain⟨_,b,hb,h1,h2,_⟩:=h;simp[PV.refs,PV.bT,h2]
 |aM γ o n=>obtain⟨_,hb,b,cap,h1,_⟩:=h;simp[PV.refs,PV.bT,h1]
 |aU cs=>obtain⟨vs,_,_,h2⟩:=h;refine⟨fun γ ak=>(by cases ak),fun γ ak=>?_⟩;obtain⟨x,hx,ak⟩:=Kaq.1 ak;obtain⟨i,hi⟩:=KaG hx;exact(h2 i x hi).known γ ak
 |eX cs=>obtain⟨vs,_,_,h2⟩:=h;refine⟨fun γ ak=>(by cases ak),fun γ ak=>?_⟩;obtain⟨x,hx,ak⟩:=Kaq.1 ak;obtain⟨i,hi⟩:=KaG hx;exact(h2 i x hi).known γ ak
 |eY cs q=>obtain⟨vs,u,_,_,h2,_⟩:=h;refine⟨fun γ ak=>(by cases ak),fun γ ak=>?_⟩;obtain⟨x,hx,ak⟩:=Kaq.1 ak;obtain⟨i,hi⟩:=KaG hx;exact(h2 i x hi).known γ ak
 | aN β e ty xs=>
  obtain⟨_,_,b,hb,cur,cap,_,g2,_,_,_,_,_,_,_,_,ct⟩:=h;refine⟨fun γ ak=>(by cases ak),fun γ ak=>?_⟩;rcases KaQ.1 ak with rfl|ak
  ·simp[g2]
  ·obtain⟨x,hx,ak⟩:=Kaq.1 ak;obtain⟨y,hy,ak⟩:=Kaq.1 ak;obtain⟨i,hi⟩:=KaG hx;obtain⟨j,hj⟩:=KaG hy;exact(ct i x hi j y hj).known γ ak
 | fn f first cap=>
  obtain⟨fv,cv,_,_,_,h3,h4⟩:=h;have g:∀(l:List PV)(u:Array Value),(∀(i:Nat)(x:PV),l[i]? =some x->cW C ρ hp w x (u.getD i undef))->(∀γ∈l.flatMap PV.bP,hp γ≠none)/\∀γ∈l.flatMap PV.eD,hp γ≠none:=by
   intro l u hl;refine⟨fun γ ak=>?_,fun γ ak=>?_⟩<;>
   ·obtain⟨x,hx,ak⟩:=Kaq.1 ak;obtain⟨i,hi⟩:=KaG hx
    first|exact(hl i x hi).known.1 γ ak|exact(hl i x hi).known.2 γ ak
  refine⟨fun γ ak=>?_,fun γ ak=>?_⟩
  ·rcases KaV.1 ak with ak|ak
   ·exact(g first fv h3).1 γ ak
   ·exact(g cap cv h4).1 γ ak
  ·rcases KaV.1 ak with ak|ak
   ·exact(g first fv h3).2 γ ak
   ·exact(g cap cv h4).2 γ ak
 |_=>exact⟨(fun γ ak=>by cases ak),(fun γ ak=>by cases ak)⟩
def kN(β:Nat):Bool:=decide (2000000<=β)
def lD(β:Nat):Bool:=kN β||decide (β<1000000)
theorem akF{β:Nat}(h:lD β=false):kN β=false:=by simp[lD]at h;exact h.1
def iD:PV->PV
 |.aN _ _ _ _| .aU _| .eX _| .eY _ _=>.undef
 |p=>if p.refs.any kN||p.bT.any lD then .undef else p
def fW(F:Fr):Fr:=fun s=>iD (F s)
def rD(p:PV):Prop:=(∀β∈p.refs,kN β=false)/\(∀β∈p.bT,lD β=false)/\(∀γ e ty xs,p≠ .aN γ e ty xs)/\∀cs,p≠ .aU cs/\p≠ .eX cs/\∀q,p≠ .eY cs q
theorem ady(p:PV):rD (iD p):=by
 have h0:rD .undef:=⟨(fun β h=>by cases h),(fun β h=>by cases h),(fun _ _ _ _ h=>by cases h),(fun _=>⟨(fun h=>by cases h),(fun h=>by cases h),fun _ h=>by cases h⟩)⟩
 unfold iD;split
 ·exact h0
 ·exact h0
 ·exact h0
 ·exact h0
 ·rename_i hn rm hn3 MM;split
  ·exact h0
  ·rename_i h;simp only[KbS,not_or,Bool.not_eq_true,KbC]at h;exact⟨fun β al=>by simpa using h.1 β al,fun β al=>by simpa using h.2 β al,fun γ e ty xs=>hn γ e ty xs,fun cs=>⟨rm cs,hn3 cs,MM cs⟩⟩
theorem rD.kill{p:PV}(h:rD p){B:List Nat}:rD (if p.refs.any B.contains then .undef else p):=by
 split
 ·exact⟨(fun β h=>by cases h),(fun β h=>by cases h),(fun _ _ _ _ h=>by cases h),(fun _=>⟨(fun h=>by cases h),(fun h=>by cases h),fun _ h=>by cases h⟩)⟩
 ·exact h
theorem UD{β:Nat}{p:PV}(h:∀γ∈p.refs,γ≠β):bZ β p=p:=by unfold bZ;rw[if_neg];intro hc;exact h β (by simpa using hc) rfl
theorem Hm{β:Nat}{p:PV}(h:∀γ∈p.dT,γ≠β):iz β p=p:=by
 cases p with
 |ay γ o n=>simp only[iz];rw[if_neg (h γ (by simp[PV.dT]))]
 |aM γ o n=>simp only[iz];rw[if_neg (h γ (by simp[PV.dT]))]
 |_=>rfl
theorem abJ{β:Nat}{p:PV}(h:∀γ∈p.refs,γ≠β)(h2:∀γ∈p.bT,γ≠β)(h3:∀γ e ty xs,p≠ .aN γ e ty xs):de β p=p:=by
 cases p with
 |aN γ e ty xs=>exact absurd rfl (h3 _ _ _ _)
 |aU cs=>
  simp only[de];congr 1;conv=>rhs;rw[<-List.map_id cs]
  exact Kbb fun x hx=>Hm fun γ ak=>h2 γ (Kaq.2 ⟨x,hx,ak⟩)
 |eX cs=>
  simp only[de];congr 1;conv=>rhs;rw[<-List.map_id cs]
  exact Kbb fun x hx=>Hm fun γ ak=>h2 γ (Kaq.2 ⟨x,hx,ak⟩)
 |eY cs q=>
  simp only[de];congr 1;conv=>rhs;rw[<-List.map_id cs]
  exact Kbb fun x hx=>Hm fun γ ak=>h2 γ (Kaq.2 ⟨x,hx,ak⟩)
 |aM γ o n=>simp only[de];rw[if_neg (h2 γ (by simp[PV.bT]))]
 |np γ i o=>simp only[de];rw[if_neg (h2 γ (by simp[PV.bT]))]
 |fn f first cap=>simp only[de];rw[if_neg,UD h];intro hc;exact h2 β (by simpa[PV.bT]using hc) rfl
 |_=>exact UD h
theorem QQ{β γ:Nat}(h:2000000<=β)(h2:kN γ=false):γ≠β:=by simp[kN]at h2;omega
abbrev dn(B:List Nat)(F:Fr):Fr:=bF B (fW F)
theorem xB(B:List Nat)(F:Fr)(s:Nat):rD (dn B F s):=(ady (F s)).kill
theorem TS{β:Nat}{B:List Nat}{F:Fr}(h:2000000<=β):fK β (dn B F)=dn B F:=by funext s;have hc:=xB B F s;exact abJ (fun γ ak=>QQ h (hc.1 γ ak)) (fun γ ak=>QQ h (akF (hc.2.1 γ ak))) hc.2.2.1
theorem TT{γ:Nat}{B:List Nat}{F:Fr}:iM γ (dn B F)=dn B F:=by
 funext s;have hc:=xB B F s;show jf γ (dn B F s)=_;generalize dn B F s=p at *
 cases p with
 |aN bE e ty xs=>exact absurd rfl (hc.2.2.1 _ _ _ _)
 |_=>rfl
theorem abK{W:List (Nat×Nat)}{β:Nat}{J F:Fr}:fK β (aQ W J F)=aQ W (fK β J) (fK β F):=by funext s;unfold fK aQ;split<;>rfl
theorem abL{W:List (Nat×Nat)}{β:Nat}{J F:Fr}:iM β (aQ W J F)=aQ W (iM β J) (iM β F):=by funext s;unfold iM aQ;split<;>rfl
theorem abM{β d:Nat}{F:Fr}{v:PV}:fK β (af F d v)=af (fK β F) d (de β v):=by funext s;unfold fK af;split<;>rfl
theorem abN{β d:Nat}{F:Fr}{v:PV}:iM β (af F d v)=af (iM β F) d (jf β v):=by funext s;unfold iM af;split<;>rfl
theorem adz{β:Nat}{F:Fr}{s:Nat}:fK β F s=de β (F s):=rfl
theorem adA{β:Nat}{F:Fr}{s:Nat}:iM β F s=jf β (F s):=rfl
theorem O4(W:List (Nat×Nat))(B:List Nat):ch fr (aQ W fr (dn B fr)):=fun s=>by
 unfold aQ dn bF;split
 ·exact .inl rfl
 ·split
  ·exact .inr rfl
  ·unfold fW iD;split
   ·exact .inr rfl
   ·exact .inr rfl
   ·exact .inr rfl
   ·exact .inr rfl
   ·split
    ·exact .inr rfl
    ·exact .inl rfl
theorem xt{sk:List It}{x:SC}(cz:gd R sk)(W:List (Nat×Nat))(B:List Nat)(I:Nat->Fr->HP->Prop)(m0:Nat)(h0:I m0 fr hp)
  (h:∀m J hp,I m J hp->vc C R (.c x:: .el (vF W (dn B fr) I m)::sk) (aQ W J (dn B fr)) hp):vc C R (.c (.loop x)::sk) fr hp:=by
 refine zG (fun m az an=>∃J,az=aQ W J (dn B fr)/\I m J an) m0 (O4 W B).wk ⟨fr,rfl,h0⟩ ?_;rintro m _ an ⟨J,rfl,hI⟩;refine rW cz.1 _ _ _ _ _ _ (Kac _) (.c x (.el ?_ cz.2)) (ch.refl _) (h m J an hI);rintro f f' fh hf ⟨J2,sI,m2,e2,hl,h2⟩;exact HN hl (hf.wk.trans e2) ⟨J2,rfl,h2⟩
def jQ(l:List (Nat×Nat)):List PV:=l.map fun x=>.ay x.1 0 x.2
def akG(d:Nat)(S:List Nat)(γ n:Nat)(x:PV)(fr:Fr):Fr:=fun s=>if s=γ then x else if S.contains s then .aM γ 0 n else bZ d (fr s)
theorem X5{tmps:Array Value}(h:aI C ρ fr hp tmps w){β b:Nat}{hb:HB}{l:List Nat}(hB:bK β=false)(al:hp β=some hb)(hl:β∈l)(bB:ρ β=some b):¬aH C ρ (cf hp l) b:=by
 have bb:=(h.own β hb al).dV;rw[bB]at bb;rintro(hx|⟨γ,hg,h1,h2,h3⟩)
 ·exact Ctx.LJ bb.1 (Ed hB) hx
 ·obtain⟨im,g1,_,_,_,_,g6⟩:=zf h1;have:=h.inj γ β b (by simp[g1]) (by simp[al]) h3 bB;subst this;exact g6 h2 hl
theorem eQ.snap{tmps:Array Value}(h:aI C ρ fr hp tmps w){β o n:Nat}{v:Value}{l:List Nat}{hb:HB}(hr:eQ ρ hp w β o n v)(hB:bK β=false)(hl:β∈l)(al:hp β=some hb):Qu w (aH C ρ (cf hp l)) (.sl hb.e ((hb.xs.drop o).take n)) v:=by
 obtain⟨ax,g1,g2,g3⟩:=hr;rw[al]at g1;cases g1;rcases g3 with⟨g3,rfl,rfl,rfl⟩|⟨b,cap,g3,rfl,g5,g6⟩
 ·simp only[Kb5];exact .gK _ _ _ (Kbx _)
 ·have bm:=h.own β hb al;have bb:=bm.dV;rw[g3]at bb;obtain⟨_,ar,cur,eT,c1,c2,c3,c4,c5⟩:=bb;obtain⟨cur',ty',d1,d2⟩:=g5;rw[c1]at d1;cases d1;have gj:o+cap=eT:=by rw[c2]at d2;exact(KbB bm.lV d2).symm
  subst gj;have hlen:((hb.xs.drop o).take n).length=n:=by simp;omega
  have eV:∀(i:Nat)(x:PV),((hb.xs.drop o).take n)[i]? =some x->i<n/\hb.xs[o+i]? =some x:=fun i x hx=>by
   have hi:i<n:=by have:=(Kad.1 hx).1;omega
   rw[KaL hi,Ka9]at hx;exact⟨hi,hx⟩
  have:=Qu.sl (w:=w) (X:=aH C ρ (cf hp l)) hb.e ((hb.xs.drop o).take n) b (o*hb.e) cap (fun i j=>cur.getD ((o+i)*hb.e+j) undef) (X5 h hB al hl g3) ar (by omega) (by omega)
   (fun i x hx=>(bm.len _ x (eV i x hx).2).1)
   (fun i hi j hj=>by rw[hlen]at hi;have:=nO (i:=o+i) (e:=hb.e) (o:=0) (j:=j) (n:=hb.e) (cap:=o+cap) (by omega) (by omega) hj;rw[KaU]at this;rw[show o*hb.e+i*hb.e+j=(o+i)*hb.e+j by rw[KaI]];exact lG c1 (by rw[c2];exact this))
   (fun i x hx j y hy=>(c5 _ x (eV i x hx).2 j y hy).freeze)
  rwa[hlen]at this
def se(R:Qg):Qg:=fun fr hp=>∃az an,Wk fr hp az an/\R az an
theorem afg{an:HP}(hw:Wk fr hp az an)(h:R az an):se R fr hp:=⟨az,an,hw,h⟩
theorem tl(h:R fr hp):se R fr hp:=⟨fr,hp,Wk.refl _ _,h⟩
theorem afh:KM (se R) (se R):=by rintro f f' hp hf ⟨az,an,h1,h2⟩;exact⟨az,an,hf.wk.trans h1,h2⟩
theorem Qn:gd (se R) []:=⟨afh,.nil⟩
theorem afi{d γ m i:Nat}{k:IntKind}(h:i<m)(he:(hp γ).map (·.e)=some 1):dM 1 (.aM γ 0 m) (.int k (i:Int)) d fr hp K=K (af fr d (.np γ i 0)) hp:=by
 have e:(0:Int)<=(i:Int):=by omega
 simp[dM,e,h,he]
theorem aeJ{d γ o m:Nat}:oL (.aM γ o m) d fr hp K=K (af fr d (.int .i64 m)) hp:=rfl
theorem aeK{e by_ ty ty' d β γ n:Nat}{xs:List PV}{y:PV}{fz:Bool}(hb:hp β=some ⟨e,ty,xs,false⟩)(hy:hp γ=some ⟨e,ty',[y],fz⟩)(h0:0<e)(hn:n=xs.length)(h1:(n+1)*by_<=140737488355328)(h2:n+1<=9223372036854775807)(hB:2000000<=β):
  iO e by_ ty (.ms β n) (.ms γ 1) d fr hp K=K (af (fK β fr) d (.ms β (n+1))) (Qy hp β ⟨e,ty,xs++[y],false⟩):=by
 subst hn;have b1:cd β=true:=by simp[cd];omega
 have b2:bK β=false:=by simp[bK];omega
 simp[iO,jA,hy,hb,h0,b1,b2,h1,h2]
theorem Sw{α:Type}{f:α->PV}{y:α}{e by_ ty ty' d β γ n:Nat}{xs:List α}{fz:Bool}(hb:hp β=some ⟨e,ty,xs.map f,false⟩)(hy:hp γ=some ⟨e,ty',[f y],fz⟩)(h0:0<e)(hn:n=xs.length)(h1:(n+1)*by_<=140737488355328)(h2:n+1<=9223372036854775807)(hB:2000000<=β):
  iO e by_ ty (.ms β n) (.ms γ 1) d fr hp K=K (af (fK β fr) d (.ms β (n+1))) (Qy hp β ⟨e,ty,(xs++[y]).map f,false⟩):=by
 rw[aeK hb hy h0 (by simp[hn]) h1 h2 hB];simp
theorem abO{β γ o n:Nat}(h:γ≠β):de β (.aM γ o n)= .aM γ o n:=by simp only[de];rw[if_neg h]
theorem adB{β γ o n:Nat}(h:γ≠β):de β (.np γ o n)= .np γ o n:=by simp only[de];rw[if_neg h]
theorem akH:
  (∀(β:Nat)(k:IntKind)(n:Int),de β (.int k n)= .int k n)/\
  (∀(β:Nat)(b:Bool),de β (.bool b)= .bool b)/\
  (∀(β e:Nat)(xs:List PV),de β (.sl e xs)= .sl e xs)/\
  (∀(β:Nat)(cs:List PV),de β (.agg cs)= .agg cs)/\
  (∀(β:Nat)(cs:List PV),de β (.pt cs)= .pt cs)/\
  (∀(β:Nat),de β .aa= .aa)/\
  (∀(β:Nat),de β .undef= .undef)/\
  (∀(γ:Nat)(k:IntKind)(n:Int),jf γ (.int k n)= .int k n)/\
  (∀(γ:Nat)(b:Bool),jf γ (.bool b)= .bool b)/\
  (∀(γ e:Nat)(xs:List PV),jf γ (.sl e xs)= .sl e xs)/\
  (∀(γ:Nat)(cs:List PV),jf γ (.agg cs)= .agg cs)/\
  (∀(γ:Nat)(cs:List PV),jf γ (.pt cs)= .pt cs)/\
  (∀(γ:Nat),jf γ .aa= .aa)/\
  (∀(γ:Nat),jf γ .undef= .undef)/\
  (∀(γ β o n:Nat),jf γ (.ay β o n)= .ay β o n)/\
  (∀(γ β o n:Nat),jf γ (.mp β o n)= .mp β o n)/\
  (∀(γ β o n:Nat),jf γ (.rb β o n)= .rb β o n)/\
  (∀(γ β o n:Nat),jf γ (.aM β o n)= .aM β o n)/\
  (∀(γ β o n:Nat),jf γ (.np β o n)= .np β o n)/\
  (∀(β γ o n:Nat),bZ β (.aM γ o n)= .aM γ o n)/\
  (∀(β γ o n:Nat),bZ β (.np γ o n)= .np γ o n)/\
  (∀(β γ e ty:Nat)(xs:List PV),bZ β (.aN γ e ty xs)= .aN γ e ty xs)/\
  (∀(β:Nat),bZ β .undef= .undef)/\
  (∀(β:Nat)(cs:List PV),bZ β (.pt cs)= .pt cs):=by
 refine⟨?_,?_,?_,?_,?_,?_,?_,?_,?_,?_,?_,?_,?_,?_,?_,?_,?_,?_,?_,?_,?_,?_,?_,?_⟩<;>intros<;>rfl
theorem adC(β γ o n:Nat):de β (.ay γ o n)=if γ=β then .undef else .ay γ o n:=NV β γ o n
theorem adD(β γ o n:Nat):de β (.mp γ o n)=if γ=β then .undef else .mp γ o n:=NW β γ o n
end Go.FW
namespace Go.FW
open Go
variable {C : Ctx} {ρ : Nat -> Option Nat} {fr az : Fr} {hp : HP} {w : World} {K R : Qg}
theorem aeL{F:Fr}{s:Nat}:fW F s=iD (F s):=rfl
theorem akI:
  (∀(k:IntKind)(n:Int),iD (.int k n)= .int k n)/\
  (∀(b:Bool),iD (.bool b)= .bool b)/\
  (∀(e:Nat)(xs:List PV),iD (.sl e xs)= .sl e xs)/\
  (∀(cs:List PV),iD (.agg cs)= .agg cs)/\
  (∀(cs:List PV),iD (.pt cs)= .pt cs)/\
  (iD .aa= .aa)/\(iD .undef= .undef)/\
  (∀(β o n:Nat),iD (.ay β o n)=if kN β then .undef else .ay β o n)/\
  (∀(β o n:Nat),iD (.mp β o n)=if kN β then .undef else .mp β o n)/\
  (∀(β o n:Nat),iD (.rb β o n)=if kN β then .undef else .rb β o n)/\
  (∀(β o n:Nat),iD (.aM β o n)=if lD β then .undef else .aM β o n)/\
  (∀(β o n:Nat),iD (.np β o n)=if lD β then .undef else .np β o n):=by
 refine⟨fun _ _=>rfl,fun _=>rfl,fun _ _=>rfl,fun _=>rfl,fun _=>rfl,rfl,rfl,?_,?_,?_,?_,?_⟩<;>intros<;>simp[iD,PV.refs,PV.bT]
theorem aik{β:Nat}:lD β=(kN β||decide (β<1000000)):=rfl
theorem ail{β:Nat}:kN β=decide (2000000<=β):=rfl
theorem adE{d γ n:Nat}{S:List Nat}{x:PV}{s:Nat}:akG d S γ n x fr s=if s=γ then x else if S.contains s then .aM γ 0 n else bZ d (fr s):=rfl
theorem aeM{by_ ty d:Nat}{k k':IntKind}{n c:Nat}(h2:n<=c)(h3:by_*c<=281474976710656)(h4:c<=9223372036854775807):
  nv 1 by_ ty .aa (.int k (n:Int)) (.int k' (c:Int)) d fr hp K=K (af (cK d fr) d (.ms d n)) (Qy hp d ⟨1,ty,List.replicate n .aa,false⟩):=by
 rw[B8 (e:=1) (by omega) rfl (by omega) (by omega) (by omega) (by omega)];rfl
theorem aim{k c:Nat}(h:c<3000000):(3000000+k=c)=False:=by simp;omega
theorem aeN{k c:Nat}(h:c<3000000):(c=3000000+k)=False:=by simp;omega
theorem ain{k j:Nat}:(3000000+k=3000000+j)=(k=j):=by simp
attribute [go_sem] aim aeN ain aeM adE abK abL abM abN adz adA TS TT akH adC adD abO adB afi aeJ aeL akI aik ail
end Go.FW
namespace Go.FW
open Go
variable {C C' : Ctx} {ρ bf : Nat -> Option Nat} {fr az : Fr} {hp an : HP} {w : World} {K R : Qg}
theorem mL{sk:List It}{r:RT}{bG:Fr}{aF:HP}(hw:Wk fr hp bG aF)(h:vc C R (.o r::sk) bG aF):vc C R (.o (.wk r)::sk) fr hp:=by rw[Eg];exact⟨bG,aF,hw,h⟩
def dH(σ:Nat->Nat):PV->PV
 |.mp β i o=>.mp (σ β) i o
 |.ay β o n=>.ay (σ β) o n
 |.rb β o n=>.rb (σ β) o n
 |.np β i o=>.np (σ β) i o
 |.aM β o n=>.aM (σ β) o n
 |p=>p
def eW(σ:Nat->Nat):PV->PV
 |.fn f a b=>.fn f (a.map (dH σ)) (b.map (dH σ))
 |.aU cs=>.aU (cs.map (dH σ))
 |.eX cs=>.eX (cs.map (dH σ))
 |.eY cs q=>.eY (cs.map (dH σ)) q
 |.aN γ e ty xs=>.aN (σ γ) e ty (xs.map fun x=>gQ (x.bl.map (dH σ)))
 |p=>dH σ p
structure ya(σ:Nat->Nat)(ρ bf:Nat->Option Nat)(hp an:HP)(β:Nat):Prop where
 r:bf (σ β)=ρ β
 h:∀hb,hp β=some hb->∃fb,an (σ β)=some fb/\fb.e=hb.e/\fb.ty=hb.ty/\fb.xs=hb.xs
 b:cd β=true->cd (σ β)=true
theorem Qu.dH{X:Nat->Prop}{σ:Nat->Nat}{p:PV}{v:Value}(h:Qu w X p v):FW.dH σ p=p:=by cases h<;>rfl
theorem eQ.jd{σ:Nat->Nat}{β o n:Nat}{v:Value}(h:eQ ρ hp w β o n v)(hr:ya σ ρ bf hp an β):eQ bf an w (σ β) o n v:=by obtain⟨hb,h1,h2,h3⟩:=h;obtain⟨ax,k1,k2,k3,k4⟩:=hr.h hb h1;refine⟨ax,k1,by rw[k4];exact h2,?_⟩;rw[hr.r,k2];exact h3
theorem nV.jd{σ:Nat->Nat}{γ o n:Nat}{v:Value}(h:nV ρ hp w γ o n v)(hr:ya σ ρ bf hp an γ):nV bf an w (σ γ) o n v:=by obtain⟨h0,hb,b,cap,h1,h2,h3⟩:=h;obtain⟨ax,k1,k2,k3,k4⟩:=hr.h hb h1;exact⟨hr.b h0,ax,b,cap,k1,by rw[hr.r];exact h2,by rw[k2];exact h3⟩
theorem Qu.sub{X X':Nat->Prop}{p:PV}{v:Value}(h:Qu w X p v)(hX:∀b,X' b->X b):Qu w X' p v:=h.mono (fun _ _ _=>rfl) (fun b _ hn hx=>hn (hX b hx)) (Kac _)
theorem cV.jd{σ:Nat->Nat}{p:PV}{v:Value}(h:cV C ρ hp w p v)(hX:∀b,aH C' bf an b->aH C ρ hp b)(hr:∀β∈p.dT,ya σ ρ bf hp an β):cV C' bf an w (dH σ p) v:=by
 cases p with
 |undef=>trivial
 |ay β o n=>exact⟨(hr β (by simp[PV.dT])).b h.1,h.2.jd (hr β (by simp[PV.dT]))⟩
 |aM γ o n=>exact nV.jd h (hr γ (by simp[PV.dT]))
 |mp=>cases h
 |rb=>cases h
 |np=>cases h
 |_=>exact Qu.sub h hX
theorem cW.jd{σ:Nat->Nat}{p:PV}{v:Value}(h:cW C ρ hp w p v)(hX:∀b,aH C' bf an b->aH C ρ hp b)(hr:∀β∈p.bP++p.eD,ya σ ρ bf hp an β):cW C' bf an w (dH σ p) v:=by
 cases p with
 |mp β i o=>have hq:=hr β (by simp[PV.bP]);obtain⟨b,hb,h1,h2,h3⟩:=h;obtain⟨ax,k1,k2,k3,k4⟩:=hq.h hb h2;exact⟨b,ax,by rw[hq.r];exact h1,k1,by rw[k2];exact h3⟩
 |ay β o n=>exact eQ.jd h (hr β (by simp[PV.bP]))
 |rb β o n=>obtain⟨b,u,h1,h2,h3,h4,h5⟩:=h;exact⟨b,u,h1,h2,fun hx=>h3 (hX b hx),h4,h5.jd (hr β (by simp[PV.bP]))⟩
 |np γ i o=>have hq:=hr γ (by simp[PV.bP,PV.eD]);obtain⟨h0,b,hb,h1,h2,h3⟩:=h;obtain⟨ax,k1,k2,k3,k4⟩:=hq.h hb h2;exact⟨hq.b h0,b,ax,by rw[hq.r];exact h1,k1,by rw[k2];exact h3⟩
 |aM γ o n=>exact nV.jd h (hr γ (by simp[PV.bP,PV.eD]))
 |_=>exact Qu.sub h hX
theorem R7{cs:List PV}(h:∀c∈cs,(∀ds,c≠ .agg ds)/\∀ds,c≠ .aU ds):(gQ cs).bl=cs:=by
 match cs,h with
 | [],_=>rfl
 | [c],h=>
  obtain⟨h1,h2⟩:=h c (by simp);cases c with
  |agg ds=>exact absurd rfl (h1 ds)
  |aU ds=>exact absurd rfl (h2 ds)
  |_=>rfl
 |c::d::cs,_=>simp only[gQ,nP];split<;>rfl
theorem cV.one{p:PV}{v:Value}(h:cV C ρ hp w p v):(∀ds,p≠ .agg ds)/\∀ds,p≠ .aU ds:=by refine⟨fun ds e=>?_,fun ds e=>?_⟩<;>subst e<;>cases h
theorem Qt.jd{σ:Nat->Nat}{p:PV}{v:Value}(h:Qt C ρ hp w p v)(hX:∀b,aH C' bf an b->aH C ρ hp b)(hr:∀β∈p.refs++p.bT,ya σ ρ bf hp an β):Qt C' bf an w (eW σ p) v:=by
 have hV:∀q u,Qu w (aH C ρ hp) q u->Qu w (aH C' bf an) q u:=fun q u hq=>Qu.sub hq hX;cases p with
 |undef=>trivial
 |mp β i o=>exact cW.jd (w:=w) (p:=.mp β i o) h hX (by simpa[PV.refs,PV.bT,PV.bP,PV.eD]using hr)
 |ay β o n=>exact cW.jd (w:=w) (p:=.ay β o n) h hX (by simpa[PV.refs,PV.bT,PV.bP,PV.eD]using hr)
 |rb β o n=>exact cW.jd (w:=w) (p:=.rb β o n) h hX (by simpa[PV.refs,PV.bT,PV.bP,PV.eD]using hr)
 |np γ i o=>exact cW.jd (w:=w) (p:=.np γ i o) h hX (by simpa[PV.refs,PV.bT,PV.bP,PV.eD]using hr)
 |aM γ o n=>exact cW.jd (w:=w) (p:=.aM γ o n) h hX (by simpa[PV.refs,PV.bT,PV.bP,PV.eD]using hr)
 |aU cs=>obtain⟨vs,rfl,h1,h2⟩:=h;refine⟨vs,rfl,by simpa using h1,fun i x hi=>?_⟩;simp only[Kax,Kaa]at hi;obtain⟨y,hy,rfl⟩:=hi;exact(h2 i y hy).jd hX fun β al=>hr β (KbG _ (Kaq.2 ⟨y,Kai hy,al⟩))
 |eX cs=>obtain⟨vs,rfl,h1,h2⟩:=h;refine⟨vs,rfl,by simpa using h1,fun i x hi=>?_⟩;simp only[Kax,Kaa]at hi;obtain⟨y,hy,rfl⟩:=hi;exact(h2 i y hy).jd hX fun β al=>hr β (KbG _ (Kaq.2 ⟨y,Kai hy,al⟩))
 |eY cs q=>obtain⟨vs,u,rfl,h1,h2,h3⟩:=h;refine⟨vs,u,rfl,by simpa using h1,fun i x hi=>?_,h3.mono (fun _ _ _=>rfl) (fun b _ hn hx=>hn (hX b hx)) (Kac _)⟩;simp only[Kax,Kaa]at hi;obtain⟨y,hy,rfl⟩:=hi;exact(h2 i y hy).jd hX fun β al=>hr β (KbG _ (Kaq.2 ⟨y,Kai hy,al⟩))
 | aN γ e ty xs=>
  obtain⟨h0,he,b,hb,cur,cap,h1,h2,h3,h4,h5,h6,h7,h8,h9,bI,ct⟩:=h;have hq:=hr γ (by simp[PV.bT]);have key:∀(i:Nat)(x:PV),xs[i]? =some x->∀(j:Nat)(y:PV),x.bl[j]? =some y->cV C' bf an w (dH σ y) (cur.getD (i*e+j) undef):=fun i x hx j y hy=>
   (ct i x hx j y hy).jd hX fun β al=>hr β (KbG _ (Kbm _ (Kaq.2 ⟨x,Kai hx,Kaq.2 ⟨y,Kai hy,al⟩⟩)))
  have kG:∀(i:Nat)(x:PV),xs[i]? =some x->(gQ (x.bl.map (dH σ))).bl=x.bl.map (dH σ):=fun i x hx=>by refine R7 fun c hc=>?_;obtain⟨y,hy,rfl⟩:=KaE.1 hc;obtain⟨j,hj⟩:=KaG hy;exact(key i x hx j y hj).one
  obtain⟨ax,k1,k2,k3,k4⟩:=hq.h hb h2;refine⟨hq.b h0,he,b,ax,cur,cap,by rw[hq.r];exact h1,k1,by rw[k4];exact h3,by rw[k2];exact h4,by rw[k3];exact h5,h6,h7,by simpa using h8,h9,fun i x hx=>?_,fun i x hx j y hy=>?_⟩
  ·simp only[Kax,Kaa]at hx;obtain⟨x0,bw,rfl⟩:=hx;rw[kG i x0 bw,KaT];exact bI i x0 bw
  ·simp only[Kax,Kaa]at hx;obtain⟨x0,bw,rfl⟩:=hx;rw[kG i x0 bw,Kax,Kaa]at hy;obtain⟨y0,cX,rfl⟩:=hy;exact key i x0 bw j y0 cX
 | fn f first cap=>
  obtain⟨fv,cv,rfl,h1,h2,h3,h4⟩:=h;have hm:∀(l:List PV)(x:PV),x∈l->∀β∈x.bP++x.eD,β∈l.flatMap PV.bP++l.flatMap PV.eD:=fun l x hx β al=>by
   rcases KaV.1 al with al|al
   ·exact KcR _ (Kaq.2 ⟨x,hx,al⟩)
   ·exact KbG _ (Kaq.2 ⟨x,hx,al⟩)
  refine⟨fv,cv,rfl,by simpa using h1,by simpa using h2,fun i x hi=>?_,fun i x hi=>?_⟩
  ·simp only[Kax,Kaa]at hi;obtain⟨y,hy,rfl⟩:=hi;refine(h3 i y hy).jd hX fun β al=>hr β ?_;have:=hm first y (Kai hy) β al
   simp only[PV.refs,PV.bT,KaV]at this⊢;rcases this with h|h
   ·exact .inl (.inl h)
   ·exact .inr (.inl h)
  ·simp only[Kax,Kaa]at hi;obtain⟨y,hy,rfl⟩:=hi;refine(h4 i y hy).jd hX fun β al=>hr β ?_;have:=hm cap y (Kai hy) β al;simp only[PV.refs,PV.bT,KaV]at this⊢;rcases this with h|h
   ·exact .inl (.inr h)
   ·exact .inr (.inr h)
 |agg cs=>exact dF.move (p:=.agg cs) h hV
 |aw cs=>exact dF.move (p:=.aw cs) h hV
 |_=>exact hV _ _ h
theorem aio(σ τ:Nat->Nat)(h1:∀β hb,hp β=some hb->an (σ β)=some hb/\τ (σ β)=β)(h2:∀γ hb,an γ=some hb->hp (τ γ)=some hb/\σ (τ γ)=γ)
  (hB:∀β,hp β≠none->cd β=true->cd (σ β)=true) (hY:∀β,hp β≠none->bK (σ β)=bK β/\(bK β=true->σ β=β)) (hf:∀s,az s=eW σ (fr s)∨az s= .undef):Wk fr hp az an:=by
 rintro C tmps w ⟨ρ,hs⟩;obtain⟨bf,bB⟩:∃f:Nat->Option Nat,f=fun γ=>if an γ=none then none else ρ (τ γ):=⟨_,rfl⟩
 have hr:∀β,hp β≠none->ya σ ρ bf hp an β:=fun β al=>by obtain⟨hb,hq⟩:=KcQ.1 al;obtain⟨a1,a2⟩:=h1 β hb hq;refine⟨?_,(fun hb hq=>⟨hb,(h1 β hb hq).1,rfl,rfl,rfl⟩),hB β al⟩;rw[bB];simp only[];rw[if_neg (by rw[a1];simp),a2]
 have ax:∀γ hb,an γ=some hb->bf γ=ρ (τ γ):=fun γ hb hq=>by rw[bB];simp only[];rw[if_neg (by rw[hq];simp)]
 have hX:∀b,aH C bf an b->aH C ρ hp b:=by
  rintro b (hx|⟨γ,hg,g1,g2,g3⟩)
  ·exact .inl hx
  ·rw[ax γ hg g1]at g3;exact .inr ⟨τ γ,hg,(h2 γ hg g1).1,g2,g3⟩
 refine⟨bf,hs.sz,hs.ext,hs.gY,fun γ hb ak=>?_,fun γ δ b g1 g2 g3 g4=>?_,fun i=>?_⟩
 ·obtain⟨a1,a2⟩:=h2 γ hb ak;obtain⟨q1,q2,q3,q4,q5⟩:=hs.own (τ γ) hb a1;obtain⟨y1,y2⟩:=hY (τ γ) (by simp[a1]);rw[a2]at y1 y2;refine⟨q1,q2,?_,fun hy=>?_,fun hR=>?_⟩
  rotate_left
  rotate_left
  ·have hy:bK γ=true:=by simp[jc]at hR;simp[bK];omega
   have e:=y2 (by rw[<-y1];exact hy);exact q5 (by rw[<-e];exact hR)
  ·rw[ax γ hb ak];cases hq:ρ (τ γ)with
   |none=>rw[hq]at q3;exact q3
   |some b=>
    rw[hq]at q3;refine⟨?_,q3.2.1,q3.2.2.move rfl rfl rfl rfl fun q u hq=>Qu.sub hq hX⟩;have:=q3.1;unfold Ctx.cls at this⊢;rw[y1];split at this
    ·rename_i hy;rw[if_pos hy,y2 hy];exact this
    ·rename_i hy;rw[if_neg hy];exact this
  ·rw[ax γ hb ak,q4 (by rw[<-y1];exact hy),<-y2 (by rw[<-y1];exact hy)]
 ·obtain⟨x1,k1⟩:=KcQ.1 g1;obtain⟨x2,k2⟩:=KcQ.1 g2;rw[ax γ x1 k1]at g3;rw[ax δ x2 k2]at g4;have:=hs.inj (τ γ) (τ δ) b (by rw[(h2 γ x1 k1).1];simp) (by rw[(h2 δ x2 k2).1];simp) g3 g4;rw[<-(h2 γ x1 k1).2,<-(h2 δ x2 k2).2,this]
 ·have cJ:=hs.eZ i;rcases hf i with e|e
  ·rw[e];exact cJ.jd hX fun β al=>hr β (by
    rcases KaV.1 al with h|h
    ·exact cJ.known.1 β h
    ·exact cJ.known.2 β h)
  ·rw[e];trivial
def mh(β δ x:Nat):Nat:=if x=β then δ else x
def o6(β δ:Nat)(fr:Fr):Fr:=fun s=>eW (mh β δ) (fr s)
def BN(β δ:Nat)(hp:HP):HP:=fun x=>if x=δ then hp β else if x=β then none else hp x
theorem F3(β δ:Nat)(lB:hp δ=none)(h2:2000000<=δ)(hY:bK β=false)(aO:β≠δ):Wk fr hp (o6 β δ fr) (BN β δ hp):=by
 have bδ:cd δ=true:=by simp[cd];omega
 have yδ:bK δ=false:=by simp[bK];omega
 refine aio (mh β δ) (fun y=>if y=δ then β else y) (fun x hb hx=>?_) (fun y hb hy=>?_) (fun x hx hb=>?_) (fun x hx=>?_) (fun s=>.inl rfl)
 ·unfold mh BN;by_cases e:x=β
  ·subst e;simp[hx]
  ·have e2:x≠δ:=fun e2=>by rw[e2,lB]at hx;cases hx
   simp[e,e2,hx]
 ·unfold BN at hy;unfold mh;by_cases e:y=δ
  ·subst e;simp at hy;simp[hy]
  ·rw[if_neg e]at hy;by_cases e2:y=β
   ·rw[if_pos e2]at hy;cases hy
   ·rw[if_neg e2]at hy;simp[e,e2,hy]
 ·unfold mh;split
  ·exact bδ
  ·exact hb
 ·unfold mh;split
  ·rename_i e;subst e;rw[yδ,hY];simp
  ·simp
theorem aip{β δ x:Nat}:BN β δ hp x=if x=δ then hp β else if x=β then none else hp x:=rfl
theorem aiq{β δ s:Nat}:o6 β δ fr s=eW (mh β δ) (fr s):=rfl
theorem air{β δ x:Nat}:mh β δ x=if x=β then δ else x:=rfl
theorem aeO{β δ d:Nat}{v:PV}:o6 β δ (af fr d v)=af (o6 β δ fr) d (eW (mh β δ) v):=by funext s;unfold o6 af;split<;>rfl
theorem aeP{W:List (Nat×Nat)}{β δ:Nat}{J F:Fr}:o6 β δ (aQ W J F)=aQ W (o6 β δ J) (o6 β δ F):=by funext s;unfold o6 aQ;split<;>rfl
theorem ais{σ:Nat->Nat}{p:PV}(h:∀β∈p.bP++p.eD,σ β=β):dH σ p=p:=by
 cases p with
 |mp β=>simp only[dH];rw[h β (by simp[PV.bP])]
 |ay β=>simp only[dH];rw[h β (by simp[PV.bP])]
 |rb β=>simp only[dH];rw[h β (by simp[PV.bP])]
 |np β=>simp only[dH];rw[h β (by simp[PV.bP,PV.eD])]
 |aM β=>simp only[dH];rw[h β (by simp[PV.bP,PV.eD])]
 |_=>rfl
theorem aeQ{σ:Nat->Nat}{p:PV}(h:rD p)(sS:∀β∈p.refs++p.bT,σ β=β):eW σ p=p:=by
 have hm:∀(l:List PV),(∀β∈l.flatMap PV.bP++l.flatMap PV.eD,σ β=β)->l.map (dH σ)=l:=fun l hl=>by
  conv=>rhs;rw[<-List.map_id l]
  refine Kbb fun x hx=>ais fun β al=>hl β ?_;rcases KaV.1 al with al|al
  ·exact KcR _ (Kaq.2 ⟨x,hx,al⟩)
  ·exact KbG _ (Kaq.2 ⟨x,hx,al⟩)
 cases p with
 |aN γ e ty xs=>exact absurd rfl (h.2.2.1 _ _ _ _)
 |aU cs=>exact absurd rfl (h.2.2.2 _).1
 |eX cs=>exact absurd rfl (h.2.2.2 _).2.1
 |eY cs q=>exact absurd rfl ((h.2.2.2 _).2.2 _)
 | fn f a b=>
  simp only[eW];rw[hm a,hm b]
  ·intro β al;refine sS β ?_;simp only[PV.refs,PV.bT,KaV]at al⊢;rcases al with h|h
   ·exact .inl (.inr h)
   ·exact .inr (.inr h)
  ·intro β al;refine sS β ?_;simp only[PV.refs,PV.bT,KaV]at al⊢;rcases al with h|h
   ·exact .inl (.inl h)
   ·exact .inr (.inl h)
 |mp β=>simp only[eW,dH];rw[sS β (by simp[PV.refs])]
 |ay β=>simp only[eW,dH];rw[sS β (by simp[PV.refs])]
 |rb β=>simp only[eW,dH];rw[sS β (by simp[PV.refs])]
 |np β=>simp only[eW,dH];rw[sS β (by simp[PV.refs,PV.bT])]
 |aM β=>simp only[eW,dH];rw[sS β (by simp[PV.refs,PV.bT])]
 |_=>rfl
theorem adF{B:List Nat}{F:Fr}{s β:Nat}(h:β∈(dn B F s).refs):B.contains β=false:=by
 cases hq:B.contains β with
 |false=>rfl
 |true=>
  unfold dn bF at h;split at h
  ·cases h
  ·rename_i hn;exact absurd (Ka4.2 ⟨β,h,hq⟩) hn
theorem aeR{B:List Nat}{F:Fr}{β δ:Nat}(al:B.contains β=true∨2000000<=β)(aqQ:β<1000000∨2000000<=β):o6 β δ (dn B F)=dn B F:=by
 funext s;have hc:=xB B F s;refine aeQ hc fun x hx=>if_neg fun e=>?_;subst e;rcases al with al|al
 ·rcases KaV.1 hx with h|h
  ·rw[adF h]at al;cases al
  ·have h1:=hc.2.1 x h;simp[lD,kN]at h1;omega
 ·rcases KaV.1 hx with h|h
  ·have:=hc.1 x h;simp[kN]at this;omega
  ·have:=hc.2.1 x h;simp[lD,kN]at this;omega
end Go.FW
namespace Go.FW
open Go
variable {C C' : Ctx} {ρ bf : Nat -> Option Nat} {fr az : Fr} {hp an : HP} {w : World} {K R : Qg}
def fo(γ:Nat):PV->PV
 |.ay β o n=>if β=γ then .aM γ o n else .ay β o n
 |.mp β i o=>if β=γ then .np γ i o else .mp β i o
 |.rb β o n=>if β=γ then .undef else .rb β o n
 |p=>p
def dU(γ:Nat):PV->PV
 |.fn f a b=>bZ γ (.fn f a b)
 |.aU cs=>.aU (cs.map (fo γ))
 |.eX cs=>.eX (cs.map (fo γ))
 |.eY cs q=>.eY (cs.map (fo γ)) q
 |.aN bE e ty xs=>if bE=γ then .undef else .aN bE e ty (xs.map fun x=>gQ (x.bl.map (fo γ)))
 |p=>fo γ p
def xY(γ:Nat)(x:PV)(fr:Fr):Fr:=fun s=>if s=γ then x else dU γ (fr s)
theorem FV {γ e ty:Nat} {xs:List PV} {fz:Bool} (ak:hp γ=some ⟨e,ty,xs,fz⟩) (h0:xs≠[]) (h2:2000000<=γ) (hd:∀x∈xs,x.bl=x.cells):Wk fr hp (xY γ (.aN γ e ty xs) fr) (Qy hp γ ⟨e,ty,[],fz⟩):=by
 rintro C tmps w ⟨ρ,hs⟩;have yf:cd γ=true:=by simp[cd];omega
 have bm:=hs.own γ _ ak;have bb:=bm.dV;obtain⟨b,bB⟩:∃b,ρ γ=some b:=by
  cases hq:ρ γ with
  |none=>rw[hq]at bb;exact absurd bb h0
  |some b=>exact⟨b,rfl⟩
 rw[bB]at bb;obtain⟨b1,b2,cur,cap,c1,c2,c3,c4,c5⟩:=bb;have lV:=bm.lV;obtain⟨an,qc⟩:∃f,f=Qy hp γ ⟨e,ty,[],fz⟩:=⟨_,rfl⟩
 rw[<-qc];have sV:an γ=some ⟨e,ty,[],fz⟩:=by rw[qc];simp[Qy]
 have po:∀β,β≠γ->an β=hp β:=fun β al=>by rw[qc];simp[Qy,al]
 have hX:aH C ρ an=aH C ρ hp:=by
  funext c;apply propext;constructor
  ·rintro(hx|⟨β,hb,g1,g2,g3⟩)
   ·exact .inl hx
   ·by_cases al:β=γ
    ·subst al;rw[sV]at g1;cases g1;exact .inr ⟨β,_,ak,g2,g3⟩
    ·rw[po β al]at g1;exact .inr ⟨β,hb,g1,g2,g3⟩
  ·rintro(hx|⟨β,hb,g1,g2,g3⟩)
   ·exact .inl hx
   ·by_cases al:β=γ
    ·subst al;rw[ak]at g1;cases g1;exact .inr ⟨β,_,sV,g2,g3⟩
    ·exact .inr ⟨β,hb,by rw[po β al];exact g1,g2,g3⟩
 have aG:nX w w (aH C ρ hp) (aH C ρ an):=by rw[hX];exact⟨fun _ _ _=>rfl,fun _ _ hn=>hn,Kac _⟩
 have c0:∀β,β≠γ->qw ρ ρ hp an w w β:=fun β al=>⟨rfl,fun hb hq=>⟨hb,by rw[po β al];exact hq,rfl,Kac _,fun _ _ _ h=>h,fun h=>⟨h,rfl,fun _ _=>rfl⟩⟩⟩
 have Xi:∀ {o n:Nat} {v:Value},eQ ρ hp w γ o n v->nV ρ an w γ o n v:=by
  rintro o n v ⟨hb,g1,g2,g3⟩;rw[ak]at g1;cases g1;rcases g3 with⟨g3,_⟩|⟨b',cp,g3,g4,g5,g6⟩
  ·rw[bB]at g3;cases g3
  ·rw[bB]at g3;cases g3;refine⟨yf,_,b,cp,sV,bB,g4,g5,g6,?_⟩;obtain⟨cur',ty',d1,d2⟩:=g5;rw[c1]at d1;cases d1;have:cap=o+cp:=KbB lV (by rw[<-c2,<-d2]);simp only at g2 c3;omega
 have cell:∀ {p:PV} {v:Value},cV C ρ hp w p v->cV C ρ an w (fo γ p) v:=by
  intro p v h;cases p with
  |ay β o n=>
   by_cases al:β=γ
   ·subst al;simp only[fo,if_true];exact Xi h.2
   ·simp only[fo,if_neg al];exact cV.move (p:=.ay β o n) h aG fun x hx=>by simp[PV.dT]at hx;subst hx;exact(c0 _ al).B3
  | aM β o n=>
   by_cases al:β=γ
   ·obtain⟨_,hb,b',cp,k1,k2,k3,k4,k5,k6⟩:=h;subst al;rw[ak]at k1;cases k1;exact⟨yf,_,b',cp,sV,k2,k3,k4,k5,k6⟩
   ·exact cV.move (p:=.aM β o n) h aG fun x hx=>by simp[PV.dT]at hx;subst hx;exact(c0 _ al).B3
  |mp=>cases h
  |rb=>cases h
  |np=>cases h
  |undef=>trivial
  |_=>exact cV.move h aG (fun x hx=>by cases hx)
 refine⟨ρ,hs.sz,hs.ext,hs.gY,fun β hb al=>?_,fun β δ c g1 g2 g3 g4=>?_,fun i=>?_⟩
 ·by_cases hq:β=γ
  ·subst hq;rw[sV]at al;cases al;refine⟨lV,(fun i x hx=>by simp at hx),?_,bm.fix,bm.ro⟩;rw[bB];exact⟨b1,b2,cur,cap,c1,c2,Kbx _,c4,fun i x hx=>by simp at hx⟩
  ·rw[po β hq]at al;obtain⟨q1,q2,q3,q4,q5⟩:=hs.own β hb al;refine⟨q1,q2,?_,q4,q5⟩;cases hr:ρ β with
   |none=>rw[hr]at q3;exact q3
   |some c=>rw[hr]at q3;exact⟨q3.1,q3.2.1,q3.2.2.move rfl rfl rfl rfl aG.rc⟩
 ·have f:∀β,an β≠none->hp β≠none:=fun β al=>by
   by_cases hq:β=γ
   ·subst hq;simp[ak]
   ·rwa[po β hq]at al
  exact hs.inj β δ c (f β g1) (f δ g2) g3 g4
 ·have cJ:=hs.eZ i;show Qt C ρ an w (xY γ (.aN γ e ty xs) fr i) _;unfold xY;split
  ·refine⟨yf,lV,b,_,cur,cap,bB,sV,rfl,rfl,rfl,c1,c2,c3,c4,fun k x hx=>?_,fun k x hx j y hy=>?_⟩
   ·rw[hd x (Kai hx)];exact(bm.len k x hx).1
   ·rw[hd x (Kai hx)]at hy;have:=c5 k x hx j y hy;have h3:Qu w (aH C ρ an) y (cur.getD (k*e+j) undef):=by rw[hX];exact this
    cases y with
    |undef=>trivial
    |ay=>cases h3
    |aM=>cases h3
    |_=>exact h3
  ·generalize fr i=p at cJ;cases p with
   |ay β o n=>
    by_cases al:β=γ
    ·subst al;simp only[dU,fo,if_true];exact Xi cJ
    ·simp only[dU,fo,if_neg al];exact Qt.qo cJ aG (fun x hx=>by simp[PV.refs]at hx;subst hx;exact(c0 _ al).o) (fun x hx=>by cases hx)
   | mp β k o=>
    by_cases al:β=γ
    ·subst al;simp only[dU,fo,if_true];obtain⟨b',hb,g1,g2,g3⟩:=cJ;rw[ak]at g2;cases g2;exact⟨yf,b',_,g1,sV,g3⟩
    ·simp only[dU,fo,if_neg al];exact Qt.qo cJ aG (fun x hx=>by simp[PV.refs]at hx;subst hx;exact(c0 _ al).o) (fun x hx=>by cases hx)
   |rb β o n=>
    by_cases al:β=γ
    ·simp only[dU,fo,if_pos al];trivial
    ·simp only[dU,fo,if_neg al];exact Qt.qo cJ aG (fun x hx=>by simp[PV.refs]at hx;subst hx;exact(c0 _ al).o) (fun x hx=>by cases hx)
   | np β k o=>
    by_cases al:β=γ
    ·subst al;obtain⟨_,b',hb,g1,g2,g3⟩:=cJ;rw[ak]at g2;cases g2;exact⟨yf,b',_,g1,sV,g3⟩
    ·refine Qt.qo (p:=.np β k o) cJ aG (fun x hx=>by cases hx) (fun x hx=>?_);have e1:x=β:=by simpa[PV.bT]using hx
     rw[e1];exact c0 _ al
   |aM β o n=>exact cell (p:=.aM β o n) cJ
   |aU cs=>obtain⟨vs,e1,h1,h3⟩:=cJ;refine⟨vs,e1,by simpa using h1,fun k x hk=>?_⟩;simp only[Kax,Kaa]at hk;obtain⟨y,hy,rfl⟩:=hk;exact cell (h3 k y hy)
   |eX cs=>obtain⟨vs,e1,h1,h3⟩:=cJ;refine⟨vs,e1,by simpa using h1,fun k x hk=>?_⟩;simp only[Kax,Kaa]at hk;obtain⟨y,hy,rfl⟩:=hk;exact cell (h3 k y hy)
   |eY cs q=>obtain⟨vs,u,e1,h1,h3,h4⟩:=cJ;refine⟨vs,u,e1,by simpa using h1,fun k x hk=>?_,h4.mono aG.dV aG.out aG.size⟩;simp only[Kax,Kaa]at hk;obtain⟨y,hy,rfl⟩:=hk;exact cell (h3 k y hy)
   | aN β e' ty' ys=>
    simp only[dU];split
    ·trivial
    ·rename_i al;obtain⟨k0,he,b',hb,cur',eT,k1,k2,k3,k4,k5,k6,k7,k8,k9,BK,yO⟩:=cJ;have kG:∀(k:Nat)(x:PV),ys[k]? =some x->(gQ (x.bl.map (fo γ))).bl=x.bl.map (fo γ):=fun k x hx=>by refine R7 fun c hc=>?_;obtain⟨y,hy,rfl⟩:=KaE.1 hc;obtain⟨j,hj⟩:=KaG hy;exact(cell (yO k x hx j y hj)).one
     refine⟨k0,he,b',hb,cur',eT,k1,by rw[po β al];exact k2,k3,k4,k5,k6,k7,by simpa using k8,k9,fun k x hx=>?_,fun k x hx j y hy=>?_⟩
     ·simp only[Kax,Kaa]at hx;obtain⟨x0,bw,rfl⟩:=hx;rw[kG k x0 bw,KaT];exact BK k x0 bw
     ·simp only[Kax,Kaa]at hx;obtain⟨x0,bw,rfl⟩:=hx;rw[kG k x0 bw,Kax,Kaa]at hy;obtain⟨y0,cX,rfl⟩:=hy;exact cell (yO k x0 bw j y0 cX)
   | fn f a c=>
    simp only[dU,bZ];split
    ·trivial
    ·rename_i hn;have yE:γ ∉ (PV.fn f a c).refs:=by simpa using hn
     by_cases hm:γ∈(PV.fn f a c).bT
     ·
      obtain⟨fv,cv,g1,g2,g3,g4,g5⟩:=cJ;have En:∀ {x:PV} {v:Value},γ ∉ x.bP->cW C ρ hp w x v->cW C ρ an w x v:=by
       intro x v hx h;cases x with
       | np β k o=>
        by_cases al:β=γ
        ·subst al;obtain⟨_,b',hb,k1,k2,k3⟩:=h;rw[ak]at k2;cases k2;exact⟨yf,b',_,k1,sV,k3⟩
        ·exact cW.move (p:=.np β k o) h aG (fun x hx=>by cases hx) (fun x hx=>by simp[PV.eD]at hx;subst hx;exact(c0 _ al).B3)
       |aM β o n=>exact cell (p:=.aM β o n) h
       |mp β k o=>exact cW.move (p:=.mp β k o) h aG (fun x aT=>by simp[PV.bP]at aT hx;subst aT;exact(c0 _ (fun e=>hx e.symm)).o) (fun x hx=>by cases hx)
       |ay β k o=>exact cW.move (p:=.ay β k o) h aG (fun x aT=>by simp[PV.bP]at aT hx;subst aT;exact(c0 _ (fun e=>hx e.symm)).o) (fun x hx=>by cases hx)
       |rb β k o=>exact cW.move (p:=.rb β k o) h aG (fun x aT=>by simp[PV.bP]at aT hx;subst aT;exact(c0 _ (fun e=>hx e.symm)).o) (fun x hx=>by cases hx)
       |_=>exact cW.move h aG (fun x hx=>by cases hx) (fun x hx=>by cases hx)
      exact⟨fv,cv,g1,g2,g3,fun k x hk=>En (fun hx=>yE (Gh hk γ hx)) (g4 k x hk),fun k x hk=>En (fun hx=>yE (Gr hk γ hx)) (g5 k x hk)⟩
     ·exact Qt.qo cJ aG (fun x hx=>(c0 x (fun e=>yE (e▸hx))).o) (fun x hx=>c0 x (fun e=>hm (e▸hx)))
   |_=>exact Qt.qo cJ aG (fun x hx=>by cases hx) (fun x hx=>by cases hx)
theorem adG{γ e ty:Nat}{xs xs':List PV}(D:Nat->Option (Nat×Nat))(yz:fr γ= .aN γ e ty xs)(hD:∀δ x,D δ=some x->hp δ=none/\2000000<=δ/\0<x.1)(hl:xs'.length=xs.length)
  (hx:∀(i:Nat)(x x':PV),xs[i]? =some x->xs'[i]? =some x'->x'.bl.length=x.bl.length/\∀(j:Nat)(y y':PV),x.bl[j]? =some y->x'.bl[j]? =some y'->y'=y∨(y= .aa/\∃δ z,D δ=some z/\y'= .ay δ 0 0)):
  Wk fr hp (af fr γ (.aN γ e ty xs')) (fun δ=>match D δ with|some x=>some ⟨x.1,x.2,[],false⟩|none=>hp δ):=by
 rintro C tmps w ⟨ρ,hs⟩;obtain⟨an,qc⟩:∃f:HP,f=fun δ=>match D δ with|some x=>some ⟨x.1,x.2,[],false⟩|none=>hp δ:=⟨_,rfl⟩
 obtain⟨bf,WR⟩:∃f:Nat->Option Nat,f=fun δ=>if(D δ).isSome then none else ρ δ:=⟨_,rfl⟩
 rw[<-qc];have pD:∀δ x,D δ=some x->an δ=some ⟨x.1,x.2,[],false⟩/\bf δ=none:=fun δ x lB=>by rw[qc,WR];simp[lB]
 have po:∀δ,D δ=none->an δ=hp δ/\bf δ=ρ δ:=fun δ lB=>by rw[qc,WR];simp[lB]
 have hk:∀β,hp β≠none->D β=none:=fun β al=>by
  cases hq:D β with
  |none=>rfl
  |some x=>exact absurd (hD β x hq).1 al
 have hX:∀c,aH C bf an c->aH C ρ hp c:=by
  rintro c (h|⟨β,hb,g1,g2,g3⟩)
  ·exact .inl h
  ·cases hq:D β with
   |none=>rw[(po β hq).1]at g1;rw[(po β hq).2]at g3;exact .inr ⟨β,hb,g1,g2,g3⟩
   |some x=>rw[(pD β x hq).2]at g3;cases g3
 have aG:nX w w (aH C ρ hp) (aH C bf an):=⟨fun _ _ _=>rfl,fun c _ hn h=>hn (hX c h),Kac _⟩
 have c0:∀β,hp β≠none->qw ρ bf hp an w w β:=fun β al=>⟨(po β (hk β al)).2,fun hb hq=>⟨hb,by rw[(po β (hk β al)).1];exact hq,rfl,Kac _,fun _ _ _ h=>h,fun h=>⟨h,rfl,fun _ _=>rfl⟩⟩⟩
 refine⟨bf,hs.sz,hs.ext,hs.gY,fun β hb al=>?_,fun β δ c g1 g2 g3 g4=>?_,fun i=>?_⟩
 ·cases hq:D β with
  |some x=>rw[(pD β x hq).1]at al;cases al;obtain⟨_,d2,d3⟩:=hD β x hq;refine⟨d3,(fun i x hx=>by simp at hx),?_,(fun h=>by simp[bK]at h;omega),fun h=>by simp[jc]at h;omega⟩;rw[(pD β x hq).2]
  |none=>
   rw[(po β hq).1]at al;obtain⟨q1,q2,q3,q4,q5⟩:=hs.own β hb al;refine⟨q1,q2,?_,(by rw[(po β hq).2];exact q4),q5⟩;rw[(po β hq).2];cases hr:ρ β with
   |none=>rw[hr]at q3;exact q3
   |some c=>rw[hr]at q3;exact⟨q3.1,q3.2.1,q3.2.2.move rfl rfl rfl rfl aG.rc⟩
 ·have f:∀β,an β≠none->∀c,bf β=some c->hp β≠none/\ρ β=some c:=fun β al c hc=>by
   cases hq:D β with
   |none=>rw[(po β hq).1]at al;rw[(po β hq).2]at hc;exact⟨al,hc⟩
   |some x=>rw[(pD β x hq).2]at hc;cases hc
  exact hs.inj β δ c (f β g1 c g3).1 (f δ g2 c g4).1 (f β g1 c g3).2 (f δ g2 c g4).2
 ·have MG:=(hs.eZ i).known;have old:Qt C bf an w (fr i) (tmps.getD i undef):=(hs.eZ i).qo aG (fun β al=>(c0 β (MG.1 β al)).o) (fun β al=>c0 β (MG.2 β al));unfold af;split
  ·rename_i hi;subst hi;rw[yz]at old;obtain⟨k0,he,b',hb,cur',eT,k1,k2,k3,k4,k5,k6,k7,k8,k9,BK,yO⟩:=old;have eV:∀(k:Nat)(x':PV),xs'[k]? =some x'->∃x,xs[k]? =some x:=fun k x' dY=>by
    have:k<xs.length:=by have:=(Kad.1 dY).1;omega
    exact⟨_,Kam this⟩
   refine⟨k0,he,b',hb,cur',eT,k1,k2,k3,k4,k5,k6,k7,by omega,k9,fun k x' dY=>?_,fun k x' dY j y' jK=>?_⟩
   ·obtain⟨x,sO⟩:=eV k x' dY;rw[(hx k x x' sO dY).1];exact BK k x sO
   ·obtain⟨x,sO⟩:=eV k x' dY;obtain⟨l1,l2⟩:=hx k x x' sO dY;have hj:j<x.bl.length:=by have:=(Kad.1 jK).1;omega
    have hy:=Kam hj;have hr:=yO k x sO j _ hy;rcases l2 j _ y' hy jK with e1|⟨e1,δ,z,e2,e3⟩
    ·rw[e1];exact hr
    ·rw[e1]at hr;obtain⟨_,d2,_⟩:=hD δ z e2;rw[e3];have hv:cur'.getD (k*e+j) undef= .slice none 0 0:=by generalize cur'.getD (k*e+j) undef=u at hr;cases hr;rfl
     exact⟨by simp[cd];omega,_,(pD δ z e2).1,Kac _,.inl ⟨(pD δ z e2).2,hv,rfl,rfl⟩⟩
  ·exact old
def BM:List PV->PV
 | [c]=>c
 |cs=>.agg cs
def jW(fr:Fr)(hp:HP):Nat->PV->PV
 |0,p=>p
 | k+1,p=>match p with
  |.ay β o n=>match hp β with
   |some hb=>.sl hb.e ((hb.xs.drop o).take n)
   |none=>.undef
  |.aM γ o n=>match fr γ with
   |.aN _ e _ xs=>.sl e (((xs.drop o).take n).map fun x=>BM (x.bl.map (jW fr hp k)))
   |_=>.undef
  |p=>p
def uJ(fr:Fr):Nat->PV->List Nat
 |0,_=>[]
 | k+1,p=>match p with
  |.ay β _ _=>[β]
  |.aM γ o n=>match fr γ with
   |.aN _ _ _ xs=>γ::(((xs.drop o).take n).flatMap fun x=>x.bl.flatMap (uJ fr k))
   |_=>[]
  |_=>[]
def sT(fr:Fr):Nat->PV->Prop
 |0,p=>match p with
  |.undef| .ay _ _ _| .aM _ _ _=>False
  |_=>True
 | k+1,p=>match p with
  |.undef=>False
  |.ay β _ _=>bK β=false
  |.aM γ o n=>match fr γ with
   |.aN bE _ _ xs=>bE=γ/\bK γ=false/\o+n<=xs.length/\∀x∈(xs.drop o).take n,∀c∈x.bl,sT fr k c
   |_=>False
  |_=>True
theorem aeS{tmps:Array Value}(h:aI C ρ fr hp tmps w){β b:Nat}{hb:HB}{l:List Nat}(hB:bK β=false)(al:hp β=some hb)(hl:β∈l)(bB:ρ β=some b):¬aH C ρ (cf hp l) b:=by
 have bb:=(h.own β hb al).dV;rw[bB]at bb;rintro(hx|⟨γ,hg,h1,h2,h3⟩)
 ·exact Ctx.LJ bb.1 (Ed hB) hx
 ·obtain⟨im,g1,_,_,_,_,g6⟩:=zf h1;have:=h.inj γ β b (by simp[g1]) (by simp[al]) h3 bB;subst this;exact g6 h2 hl
theorem abP{cs:List PV}(h:∀c∈cs,c.cells=[c]):(BM cs).cells=cs:=by
 match cs,h with
 | [],_=>rfl
 | [c],h=>exact h c (by simp)
 |_::_::_,_=>rfl
theorem Iy{tmps:Array Value}(h:aI C ρ fr hp tmps w){l:List Nat}:∀(k:Nat) {p:PV} {v:Value},cV C ρ hp w p v->sT fr k p->(∀β∈uJ fr k p,β∈l)->Qu w (aH C ρ (cf hp l)) (jW fr hp k p) v
 |0,p,v,hr,ho,_=>by
  cases p with
  |undef=>cases ho
  |ay=>cases ho
  |aM=>cases ho
  |_=>exact Qu.freeze hr
 | k +1,p,v,hr,ho,hl=>by
  cases p with
  |undef=>cases ho
  |ay β o n=>
   obtain⟨hb,al⟩:∃hb,hp β=some hb:=by obtain⟨_,hb,h1,_⟩:=hr;exact⟨hb,h1⟩
   have:=eQ.snap h hr.2 ho (hl β (by simp[uJ])) al;simp only[jW,al];exact this
  | aM γ o n=>
   simp only[sT]at ho;split at ho
   ·rename_i bE e ty xs ak;obtain⟨rfl,hY,ho1,MQ⟩:=ho;have cJ:=h.eZ bE;rw[ak]at cJ;obtain⟨k0,he,b,hb,cur,cap,k1,k2,k3,k4,k5,k6,k7,k8,k9,BK,yO⟩:=cJ;obtain⟨_,fb,b2,AI,g1,g2,rfl,g4,g5,g6⟩:=hr;rw[k2]at g1;cases g1;rw[k1]at g2;cases g2;have eC:bE∈l:=hl bE (by simp[uJ,ak]);have hX:=aeS (l:=l) h hY k2 eC k1;have ar:=(KaH.1 k6).1;obtain⟨cur',ty',d1,d2⟩:=g4;rw[k6]at d1;cases d1;rw[k4]at d2;have gj:cap=o+AI:=KbB he (by rw[<-k7,<-d2]);have key:∀i (x:PV),((xs.drop o).take n)[i]? =some x->i<n/\xs[o+i]? =some x:=fun i x hx=>by
     have hi:i<n:=by have:=(Kad.1 hx).1;simp at this;omega
     rw[KaL hi,Ka9]at hx;exact⟨hi,hx⟩
    have UM:∀i (x:PV),((xs.drop o).take n)[i]? =some x->∀j (y:PV),x.bl[j]? =some y->Qu w (aH C ρ (cf hp l)) (jW fr hp k y) (cur.getD ((o+i)*e+j) undef):=fun i x hx j y hy=>by have fj:=Kai hx;refine Iy h k (yO (o+i) x (key i x hx).2 j y hy) (MQ x fj y (Kai hy)) fun β al=>hl β ?_;simp only[uJ,ak];exact Kbm _ (Kaq.2 ⟨x,fj,Kaq.2 ⟨y,Kai hy,al⟩⟩)
    have kG:∀i (x:PV),((xs.drop o).take n)[i]? =some x->(BM (x.bl.map (jW fr hp k))).cells=x.bl.map (jW fr hp k):=fun i x hx=>by refine abP fun c hc=>?_;obtain⟨y,hy,rfl⟩:=KaE.1 hc;obtain⟨j,hj⟩:=KaG hy;exact(UM i x hx j y hj).rA.2.2
    simp only[jW,ak];have hlen:(((xs.drop o).take n).map fun x=>BM (x.bl.map (jW fr hp k))).length=n:=by simp;omega
    have:=Qu.sl (w:=w) (X:=aH C ρ (cf hp l)) e (((xs.drop o).take n).map fun x=>BM (x.bl.map (jW fr hp k))) b (o*hb.e) AI (fun i j=>cur.getD ((o+i)*e+j) undef) hX ar (by omega) (by omega)
     (fun i x hx=>by simp only[Kax,Kaa]at hx;obtain⟨x0,bw,rfl⟩:=hx;rw[kG i x0 bw,KaT];exact BK _ x0 (key i x0 bw).2)
     (fun i hi j hj=>by rw[hlen]at hi;rw[k4];have:=nO (i:=o+i) (e:=e) (o:=0) (j:=j) (n:=e) (cap:=cap) (by omega) (by omega) hj;rw[KaU]at this;rw[show o*e+i*e+j=(o+i)*e+j by rw[KaI]];exact lG k6 (by rw[k7];exact this))
     (fun i x hx j y hy=>by simp only[Kax,Kaa]at hx;obtain⟨x0,bw,rfl⟩:=hx;rw[kG i x0 bw,Kax,Kaa]at hy;obtain⟨y0,cX,rfl⟩:=hy;exact UM i x0 bw j y0 cX)
    rw[hlen]at this;exact this
   ·exact ho.elim
  |_=>exact Qu.freeze hr
def UP(fr:Fr)(hp:HP)(k:Nat):PV->PV
 |.aU cs=>.agg (cs.map (jW fr hp k))
 |p=>jW fr hp k p
def Np(fr:Fr)(k:Nat):PV->List Nat
 |.aU cs=>cs.flatMap (uJ fr k)
 |p=>uJ fr k p
def W3(fr:Fr)(k:Nat):PV->Prop
 |.aU cs=>∀c∈cs,sT fr k c
 |.aM γ o n=>sT fr k (.aM γ o n)
 |_=>False
theorem ait(s k:Nat)(ho:W3 fr k (fr s)):Wk fr hp (af fr s (UP fr hp k (fr s))) (cf hp (Np fr k (fr s))):=by
 rintro C tmps w ⟨ρ,hs⟩;have hf:=hs.freeze (Np fr k (fr s));refine⟨ρ,hf.sz,hf.ext,hf.gY,hf.own,hf.inj,fun i=>?_⟩;unfold af;split
 ·rename_i hi;subst hi;have cJ:=hs.eZ i;generalize aF:fr i=p at *
  cases p with
  |aU cs=>obtain⟨vs,e1,h1,h2⟩:=cJ;refine⟨vs,e1,by simpa using h1,fun j x hj=>?_⟩;simp only[Kax,Kaa]at hj;obtain⟨y,hy,rfl⟩:=hj;exact Iy hs k (h2 j y hy) (ho y (Kai hy)) fun β al=>Kaq.2 ⟨y,Kai hy,al⟩
  |aM γ o n=>have:=Iy (l:=uJ fr k (.aM γ o n)) hs k (p:=.aM γ o n) cJ ho (fun β al=>al);exact Qt.lE (a9.qu this)
  |_=>cases ho
 ·exact hf.eZ i
end Go.FW
namespace Go.FW
open Go
variable {C : Ctx} {ρ : Nat -> Option Nat} {fr az : Fr} {hp an : HP} {w w' : World} {K R : Qg}
def alL(args:List PV)(G:Fr):Fr:=fun s=>if s<1000000 then(args[s]?).getD .undef else G s
def PV.W4:PV->Bool
 |.ay β _ _=>cd β
 |.int .. | .bool _| .aa=>true
 |_=>false
def akJ(fr:Fr)(s n:Nat)(cs:List PV):Prop:=∃γ i o e ty xs,fr s= .np γ i o/\fr γ= .aN γ e ty xs/\∃h:i<xs.length,o+n<=e/\rz true n o (xs[i]'h)= .aU cs
def Nr(rs:List RV)(cj:PV->Fr->HP->Prop):Qg:=fun fr hp=>∃az an,Wk fr hp az an/\
 (fV rs (fun r=>cj r az (cf an (rs.flatMap (lr az)))) az an∨(∃s,rs=[.t s]/\cj (az s) az an)∨(∃s t,rs=[.t s,.t t]/\(az s).W4=true/\(az t).W4=true/\cj (.eX [az s,az t]) az an)∨∃s n b cs,rs=[.cell s n true,b]/\lr az b=[]/\ko az an b/\akJ az s n cs/\cj (.eY cs (jL az an b)) az an)
theorem aft{rs:List RV}{cj:PV->Fr->HP->Prop}:KM (Nr rs cj) (Nr rs cj):=by rintro f f' hp hf ⟨az,an,h1,h2⟩;exact⟨az,an,hf.wk.trans h1,h2⟩
theorem Qo{rs:List RV}{cj:PV->Fr->HP->Prop}:gd (Nr rs cj) []:=⟨aft,.nil⟩
structure Ck(C:Ctx)(hp:HP)(aF:HP)(gv:Nat->Option Nat):Prop where
 g:∀β γ,gv β=some γ->∃hb,hp γ=some hb/\cd β=true/\(jc β=true->aF β=some ⟨hb.e,hb.ty,hb.xs,true⟩)/\(jc β=false->aF β=some hb/\hb.fz=false/\cd γ=true/\(bK β=false->bK γ=false))
 a:∀β,aF β≠none->∃γ,gv β=some γ
 i:∀β dA γ,gv β=some γ->gv dA=some γ->β=dA
def gn(gv:Nat->Option Nat):Nat->Option Nat:=fun β=>if jc β=true then none else gv β
theorem afu{gv:Nat->Option Nat}{β γ:Nat}(h:gn gv β=some γ):jc β=false/\gv β=some γ:=by
 unfold gn at h;split at h
 ·cases h
 ·rename_i hr;exact⟨by simpa using hr,h⟩
theorem Ck.n{C:Ctx}{hp aF:HP}{gv:Nat->Option Nat}(hh:Ck C hp aF gv)(β γ:Nat)(h:gn gv β=some γ):∃hb,aF β=some hb/\hp γ=some hb/\hb.fz=false/\cd β=true/\cd γ=true/\(bK β=false->bK γ=false):=by obtain⟨hr,h⟩:=afu h;obtain⟨hb,h1,h2,_,h4⟩:=hh.g β γ h;obtain⟨k1,k2,k3,k4⟩:=h4 hr;exact⟨hb,k1,h1,k2,h2,k3,k4⟩
theorem Ck.s{C:Ctx}{hp aF:HP}{gv:Nat->Option Nat}(hh:Ck C hp aF gv)(β γ:Nat)(h:gv β=some γ):∃hb ax,hp γ=some hb/\aF β=some ax/\ax.e=hb.e/\ax.ty=hb.ty/\ax.xs=hb.xs/\(ax.fz=false->hb=ax/\jc β=false)/\(jc β=true->ax.fz=true)/\cd β=true:=by
 obtain⟨hb,h1,h2,h3,h4⟩:=hh.g β γ h;cases hr:jc β with
 |true=>exact⟨hb,_,h1,h3 hr,rfl,rfl,rfl,(fun h=>by cases h),fun _=>rfl,h2⟩
 |false=>obtain⟨k1,k2,_⟩:=h4 hr;exact⟨hb,hb,h1,k1,rfl,rfl,rfl,(fun _=>⟨rfl,rfl⟩),(fun h=>by cases h),h2⟩
end Go.FW
namespace Go.FW
open Go
variable {C : Ctx} {R : Qg} {fr : Fr} {hp : HP} {K : Qg}
end Go.FW
