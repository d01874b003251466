/- Part 3 of the proof of TriangularMakes: TPn, TM, FwPC, FwSA, FwSB, FwSC, FwTA, FwSet, FwSt, FwUB, FwNA, FwNB, FwND, FwNE, FwNF, FwSu. Own lemmas; no conditions. -/
import Derived.Test.YtdjoomkeehihmaaGreatTriangularMakesPart2
import Derived.WalkKit
import Derived.Shelf.Abstract
import Derived.OwnWalk
import Derived.OwnWalkIn
import Derived.TacticsInMore
import Derived.LoopNIn
import Derived.LoopIn
import Derived.Laws.EntriesVeiled
import Derived.Laws.Rows
import Derived.Deep.Onto
import Derived.Test.YtdjoomkeehihmaaGreatProg
import Derived.WalkMore
import Derived.Deep.LoopGhost
import Derived.Deep.MidRow
import Derived.Maps.Own
import Derived.Maps.OwnOps
import Derived.Maps.AppendAt
import Derived.Maps.Views
import Derived.ChangeSame
import Derived.ChangeStays
import Derived.Deep.Slices
import Derived.OpenShut
import Derived.RowKit
import Derived.ProofKit
import Derived.JoinedCond
set_option maxHeartbeats 1000000
set_option linter.unusedSimpArgs false
set_option linter.unusedVariables false
set_option linter.unnecessarySimpa false
set_option maxRecDepth 100000
namespace Go.Proofs.YtdjoomkeehihmaaGreat
open Go Go.FW Go.RowKit Go.Shelf
attribute [local go_sem] Oper.semAt_some
theorem aoI:Tryz.prog.follows .mixedOrders=true:=by kernel_rfl
theorem qG(k:Nat):Fence.wide.depth.isSome=true->1<=k:=fun h=>by cases h
theorem zc{f:FuncId}{args:List PV}{R:PV->Prop}(h:Qc Tryz.prog f args R){bl:Array Value}{w:World}(hs:bl.size=args.length)(X:Nat->Prop)(hX:∀b,X b->b<w.heap.size)(hr:∀(i:Nat)(x:PV),args[i]? =some x->aY w X x (bl.getD i undef))(n:Nat):
  CallsIn Fence.wide n Tryz.prog f bl w fun e w'=>∃v r,e= .returned v/\Ext bO w w'/\dB w' X r v/\R r:=callsIn_wide.2 (h.2 w X bl hX hs hr)
theorem aj0:(Tryz.prog.info? 32).map (fun i=>(i.zero,i.size,i.bytes))=some (some (.slice none 0 0),1,24):=by kernel_rfl
theorem wI{w:World}{X:Nat->Prop}{e:Nat}{xs:List PV}{v:Value}(h:Qu w X (.sl e xs) v):∃a c,v= .slice a xs.length c:=by
 generalize hY:PV.sl e xs=Y at h;cases h with
 |gH _ a cap=>cases hY;exact⟨_,_,rfl⟩
 |sl _ _ b off cap=>cases hY;exact⟨_,_,rfl⟩
 |_=>cases hY
structure Fq(X:Nat->Prop)(O Ab R:Nat)(base:Nat)(vq:Value)(ca:List Value)(es:List (List Tm))(W0 W:World):Prop where
 ex:Ext bO W0 W
 rb:W.heap[R]? =some (.cells #[.slice none 0 0,.slice none 0 0] 34 (0,0))
 ab:W.heap[Ab]? =some (.cells ca.toArray 43 (0,0))
 bx:∃(vo:Value)(vs:List Value),W.heap[O]? =some (.cells #[vq,vo] 34 (0,0))/\W.ownsRow base 32 1 vo es.length vs/\
  ∀j (h:j<es.length),Qu W (fun b=>X b∨b=O∨vo.ownBlock=some b∨b=R∨b=Ab) (PV.aj es[j]) (vs.getD j undef)
theorem GL{w:World}{R:Nat}{ty:TypeId}(h:w.heap[R]? =some (.cells #[.slice none 0 0,.slice none 0 0] ty (0,0))):
  w.cell? ⟨R,0,none⟩=some (.slice none 0 0)/\w.cell? ⟨R,1,none⟩=some (.slice none 0 0)/\(w.setCell ⟨R,0,none⟩ (.slice none 0 0)).cell? ⟨R,1,none⟩=some (.slice none 0 0)/\w.frozen? ⟨R,0,none⟩=false/\
   (w.setCell ⟨R,0,none⟩ (.slice none 0 0)).frozen? ⟨R,1,none⟩=false/\((w.setCell ⟨R,0,none⟩ (.slice none 0 0)).setCell ⟨R,1,none⟩ (.slice none 0 0)).heap[R]? =some (.cells #[.slice none 0 0,.slice none 0 0] ty (0,0)):=by
 have h2:=heap_setCell_same w R 0 _ _ (.slice none 0 0) h;have h3:=heap_setCell_same (w.setCell ⟨R,0,none⟩ (.slice none 0 0)) R 1 _ _ (.slice none 0 0) h2;refine⟨?_,?_,?_,?_,?_,h3⟩
 ·simp only[World.cell?,h];rfl
 ·simp only[World.cell?,h];rfl
 ·simp only[World.cell?,h2];rfl
 ·simp only[World.frozen?,h];rfl
 ·simp only[World.frozen?,h2];rfl
theorem HY{W w:World}(hE:Ext bO W w){R:Nat}(hR:W.heap.size<=R)(a b:Value):Ext bO W ((w.setCell ⟨R,0,none⟩ a).setCell ⟨R,1,none⟩ b):=by have e1:=Ext.setCell (Y:=fun b=>b=R) w ⟨R,0,none⟩ a rfl;have e2:=Ext.setCell (Y:=fun b=>b=R) (w.setCell ⟨R,0,none⟩ a) ⟨R,1,none⟩ b rfl;exact(hE.trans' e1 (fun i hi h=>by omega)).trans' e2 (fun i hi h=>by omega)
theorem HZ{w:World}{X:Nat->Prop}{e:Int}:dB w X (.au [.agg [PV.aj [],PV.bZ []],.int .i64 e]) (.tuple #[.agg #[.slice none 0 0,.slice none 0 0],.int .i64 e]):=by
 refine⟨_,rfl,rfl,fun k x hk=>?_⟩
 match k,hk with
 |0,hk=>
  cases hk;refine⟨_,rfl,rfl,fun k x hk=>?_⟩
  match k,hk with
  |0,hk=>cases hk;exact Qu.gH _ none 0 (Kbw _)
  |1,hk=>cases hk;exact Qu.gH _ none 0 (Kbw _)
  |k+2,hk=>simp at hk
 |1,hk=>cases hk;exact .int _ _
 |k+2,hk=>simp at hk
def ot(b1 b2 b3:Bool)(q:List Tm)(ds:List (List Tm)):PV:=
 if b1||b2 then .au [.agg [PV.aj [],PV.bZ []],.int .i64 4]else if decide (0<q.length)&&b3 then .au [.agg [PV.aj [],PV.bZ []],.int .i64 13]else .au [.agg [PV.aj q,PV.bZ ds],.int .i64 0]
set_option maxHeartbeats 4000000 in
theorem YU {p q:List Tm} {cs ds:List (List Tm)} {a:Rat} {b1 b2 b3:Bool} (hlen:ds.length=cs.length) (hl:cs.length<=100) {vp vc:Value} {W:World} (X:Nat->Prop) (hX:∀b,X b->b<W.heap.size) (hp:Qu W X (PV.aj p) vp) (hc:Qu W X (PV.bZ cs) vc)
  (vA:Qc Tryz.prog 120 [PV.aj p] (· = .au [PV.aj q,PV.rat a])) (vB:∀i (h:i<cs.length),Qc Tryz.prog 121 [PV.aj cs[i],PV.rat a] (· =PV.aj (ds.getD i [])))
  (rU:Qc Tryz.prog 61 [PV.aj q] (· = .bool b1))
  (Aq:Qc Tryz.prog 122 [PV.bZ ds,.fn 61 [] []] (· = .bool b2)) (Ar:Qc Tryz.prog 123 [PV.aj q] (· = .bool b3)) (m:Nat):
  CallsIn Fence.wide m Tryz.prog 66 #[vp,vc] W fun e w'=>∃v,e= .returned v/\Ext bO W w'/\dB w' X (ot b1 b2 b3 q ds) v:=by
 refine callsIn_of_wp Tryz.func66 rfl trivial ?_ rfl;simp only[Tryz.ntmps66,KbL,KaX,Kbh,Nat.reduceAdd,Nat.reduceSub,Array.replicate_succ,Array.replicate_zero,List.push_toArray,List.append_toArray,KaN,KaR]
 gi_wp2
 refine⟨trivial,qG _,?_⟩;have Lj:Ext bO W (W.alloc (.cells #[.slice none 0 0,.slice none 0 0] 34)):=Ext.tB _ _ _;have hXR:∀b,(X b∨b=W.heap.size)->b<(W.alloc (.cells #[.slice none 0 0,.slice none 0 0] 34)).heap.size:=by
  rintro b (hb|rfl)
  ·have:=hX b hb;simp;omega
  ·simp
 refine(zc vA rfl (fun b=>X b∨b=W.heap.size) hXR (fun i x hx=>?_) _).mono ?_
 ·match i,hx with
  |0,hx=>simp at hx;subst hx;exact aY.mono (p:=PV.aj p) hp (fun b hb _=>Lj.block b hb id) (fun b hb h h'=>h'.elim h (fun h=>by omega)) Lj.size
  |i+1,hx=>simp at hx
 rintro e w1 ⟨v,r,rfl,fi,cK,rfl⟩;obtain⟨vs,rfl,gF,hr⟩:=cK;obtain⟨vq,va,rfl⟩:∃vq va,vs= #[vq,va]:=by
  obtain⟨l⟩:=vs
  match l,gF with
  | [x,y],_=>exact⟨x,y,rfl⟩
 have hq:Qu w1 (fun b=>X b∨b=W.heap.size) (PV.aj q) vq:=hr 0 _ rfl;obtain⟨us,VN,hus,hu⟩:aY w1 (fun b=>X b∨b=W.heap.size) (PV.rat a) va:=hr 1 _ rfl;obtain rfl:va= .agg us:=VN;obtain⟨u0,u1,u2,rfl⟩:∃u0 u1 u2,us= #[u0,u1,u2]:=by
  obtain⟨l⟩:=us
  match l,hus with
  | [x,y,z],_=>exact⟨x,y,z,rfl⟩
 have Bg:=hu 0 _ rfl;have Bh:Qu w1 (fun b=>X b∨b=W.heap.size) (PV.num a.num.natAbs) u1:=hu 1 _ rfl;have v5:Qu w1 (fun b=>X b∨b=W.heap.size) (PV.num a.den) u2:=hu 2 _ rfl;have Bg:Qu w1 (fun b=>X b∨b=W.heap.size) (.bool (decide (a.num<0))) u0:=Bg;obtain⟨aq,cq,rfl⟩:=wI hq;obtain⟨a1,c1,rfl⟩:=wI Bh;obtain⟨a2,c2,rfl⟩:=wI v5;obtain⟨ac,cc,rfl⟩:=wI hc;cases Bg;dsimp only
 gi_wp2
 obtain⟨W2,tJ⟩:∃W2,W2=(w1.alloc (.cells #[.bool (decide (a.num<0)),.slice a1 (ah a.num.natAbs).length c1,.slice a2 (ah a.den).length c2] 43)).alloc (.cells #[.slice aq q.length cq,.slice none 0 0] 34):=⟨_,rfl⟩
 have gj:=fi.size;simp only[World.size_alloc]at gj;have nN:Ext bO w1 W2:=by rw[tJ];exact(Ext.tB _ _ _).trans (Ext.tB _ _ _)
 have eY:W2.heap.size=w1.heap.size+2:=by rw[tJ];simp
 have hI0:Fq X (w1.heap.size+1) w1.heap.size W.heap.size (w1.heap.size+2) (.slice aq q.length cq) [.bool (decide (a.num<0)),.slice a1 (ah a.num.natAbs).length c1,.slice a2 (ah a.den).length c2] (ds.take 0) w1 W2:=by
  refine⟨nN,?_,?_,.slice none 0 0,[],?_,World.ownsRow_nil _ _ _ _,fun j h=>by simp at h⟩
  ·exact(nN.block _ (by omega) id).trans ((fi.block _ (by simp) id).trans (World.alloc_heap_new W _))
  ·rw[tJ];exact(Below.heap_alloc _ _ _ (by simp)).trans (World.alloc_heap_new w1 _)
  ·rw[tJ];have:=World.alloc_heap_new (w1.alloc (.cells #[.bool (decide (a.num<0)),.slice a1 (ah a.num.natAbs).length c1,.slice a2 (ah a.den).length c2] 43)) (.cells #[.slice aq q.length cq,.slice none 0 0] 34);simp only[World.size_alloc]at this;exact this
 rw[<-tJ];clear tJ;have ks:(cs.map PV.aj).length=cs.length:=by simp
 gi_loopw [20] (fun v wr=>∃i:Nat,v= .int .i64 (i:Nat)/\i<=cs.length/\Fq X (w1.heap.size+1) w1.heap.size W.heap.size (w1.heap.size+2) (.slice aq q.length cq) [.bool (decide (a.num<0)),.slice a1 (ah a.num.natAbs).length c1,.slice a2 (ah a.den).length c2] (ds.take i) w1 wr) (fun v _=>cs.length-(intOf v).toNat)
 case atStart=>exact⟨0,rfl,by omega,hI0⟩
 case round=>
  obtain⟨i,rfl,hi,hI⟩:=hrel;obtain⟨wo,hwo⟩:∃wo,wo=wr:=⟨_,rfl⟩
  subst hwo;obtain⟨vo,vs,hO,fL,Mo⟩:=hI.bx;have qE:=(Lj.trans fi).trans hI.ex;by_cases mU:i<cs.length
  ·have gz:Qu W X (.sl 1 (cs.map PV.aj)) (.slice ac (cs.map PV.aj).length cc):=hc;generalize hY:cs.map PV.aj=Y at gz;cases gz with
   |gH=>rw[List.map_eq_nil_iff]at hY;subst hY;simp at mU
   | sl _ _ b off cap eg xT hb hlc gd he hv oa=>
    subst hY;have cl:=hv i (by rw[ks];exact mU) 0 (by omega);have rl:=oa i (PV.aj cs[i]) (by rw[Kaw,Kam mU];rfl) 0 _ rfl;generalize eg i 0=ui at cl rl;simp only[KbF,KaT]at cl;have cl2:wo.cell? ⟨b,off+i,none⟩=some ui:=(World.cell?_of_block (w:=W) (a:=⟨b,off+i,none⟩) (qE.block b hb id)).trans cl;have d1:(i:Int)<((cs.map PV.aj).length:Int):=by rw[ks];omega
    have d2:(0:Int)<=(i:Int):=by omega
    gi_wp2
    rename_i K0 hK0;have UM:(ds.take i).length=i:=by rw[KaF];omega
    have hXw:∀x,X x->x<W.heap.size:=hX;obtain⟨i0,pE,z0,z1,z2⟩:=info_parts aj0;have Au:=(KaG.1 hO).1;have Lh:=(KaG.1 hI.ab).1;have tI:=(KaG.1 hI.rb).1;obtain⟨F4,tH⟩:∃F4:Value×World×Value×World->Prop,∀g,F4 g↔(∃a4 n4 c4,g.1= .slice a4 n4 c4)/\Ext bO wo g.2.1/\Qu g.2.1 (fun x=>X x∨x=w1.heap.size+1∨vo.ownBlock=some x∨x=W.heap.size∨x=w1.heap.size) (PV.aj (ds.getD i [])) g.1:=⟨_,fun _=>Iff.rfl⟩
    obtain⟨F6,jh⟩:∃F6:Value×World×Value×World->Prop,∀g,F6 g↔g.2.2.2.ownsRow (w1.heap.size+2) 32 1 g.2.2.1 (i+1) (vs++[g.1])/\(g.2.1.alloc (.cells #[g.1] 32)).grownBy g.2.2.2 vo.ownBlock/\(g.2.2.1.ownBlock=vo.ownBlock∨g.2.2.1.ownBlock=some (g.2.1.heap.size+1)):=⟨_,fun _=>Iff.rfl⟩
    refine ZZ (G:=Value×World×Value×World) aoI 52 (fun g j=>match j with|0=>.pointer (some ⟨w1.heap.size+1,1,none⟩)|1=>vo|2=>ui|3=>.agg #[.bool (decide (a.num<0)),.slice a1 (ah a.num.natAbs).length c1,.slice a2 (ah a.den).length c2]|4=>g.1|5=>.slice (some ⟨g.2.1.heap.size,0,none⟩) 1 1|6=>g.2.2.1|7=>.pointer (some ⟨w1.heap.size+1,1,none⟩)|_=>undef)
     [(0,vp),(1,.slice (some ⟨b,off,none⟩) cs.length cc),(2,undef),(3,undef),(4,.pointer (some ⟨W.heap.size,0,none⟩)),(5,.int .i64 0),(6,.slice aq q.length cq),(7,.pointer (some ⟨w1.heap.size,0,none⟩)),(8,.pointer (some ⟨w1.heap.size+1,0,none⟩)),(9,undef),(10,ui),(11,.tuple #[.slice aq q.length cq,.agg #[.bool (decide (a.num<0)),.slice a1 (ah a.num.natAbs).length c1,.slice a2 (ah a.den).length c2]]),(12,vp),(13,.tuple #[.slice aq q.length cq,.agg #[.bool (decide (a.num<0)),.slice a1 (ah a.num.natAbs).length c1,.slice a2 (ah a.den).length c2]]),(14,.slice aq q.length cq),(15,.agg #[.bool (decide (a.num<0)),.slice a1 (ah a.num.natAbs).length c1,.slice a2 (ah a.den).length c2]),(16,.slice aq q.length cq),(17,.agg #[.slice aq q.length cq,.slice none 0 0]),(18,.slice (some ⟨b,off,none⟩) cs.length cc),(19,.int .i64 (cs.length:Nat)),(20,.int .i64 i),(33,undef),(34,undef),(35,undef),(36,undef),(37,undef),(38,undef),(39,undef),(40,undef),(41,undef),(42,undef),(43,undef),(44,undef),(45,undef),(46,undef),(47,undef),(48,undef),(49,undef),(50,undef),(51,undef)]
     (fun g q w=>(q 8=true/\w=g.2.2.2.setCell ⟨w1.heap.size+1,1,none⟩ g.2.2.1/\F4 g/\F6 g)∨(q 8=false/\q 6=true/\w=g.2.2.2/\F4 g/\F6 g)∨(q 6=false/\q 5=true/\w=g.2.1.alloc (.cells #[g.1] 32)/\F4 g)∨(q 5=false/\q 4=true/\w=g.2.1/\F4 g)∨(q 4=false/\w=wo.drew)) (by decide) ?_ ?_ ?_
    ·exact⟨(undef,wo,undef,wo),rfl,rfl,by simp,fun _ _ _ h=>(by cases h),fun _ h=>(by cases h),.inr (.inr (.inr (.inr ⟨rfl,rfl⟩)))⟩
    ·rintro qs j hj hq dz a3 w3 ⟨g,hT⟩;have f7:=hT.fixed (7,.pointer (some ⟨w1.heap.size,0,none⟩)) (by simp);have f8:=hT.fixed (8,.pointer (some ⟨w1.heap.size+1,0,none⟩)) (by simp);have f10:=hT.fixed (10,ui) (by simp);simp only at f7 f8 f10;have vw:qs 6=false->Ext bO wo w3:=by
      intro h6;have h8:qs 8=false:=by
       cases h:qs 8 with
       |false=>rfl
       |true=>exact absurd (hT.cl 8 h 6 (by decide)) (by rw[h6];decide)
      rcases hT.wd with⟨h,_⟩|⟨_,h,_⟩|⟨_,_,h,hf⟩|⟨_,_,h,hf⟩|⟨_,h⟩
      ·rw[h8]at h;cases h
      ·rw[h6]at h;cases h
      ·rw[h];exact((tH g).1 hf).2.1.trans (Ext.tB _ _ _)
      ·rw[h];exact((tH g).1 hf).2.1
      ·rw[h];exact⟨rfl,rfl,rfl,Kac _,fun _ _ _=>rfl⟩
     match j,hj with
     |0,_=>refine mH.of (hT.val (w':=w3) dz (by rfl) rfl rfl rfl (fun c h=>by cases h) ?_ (by simpa using hT.wd));simp[execOp,go_sem,f8]
     |2,_=>refine mH.of (hT.val (w':=w3) dz (by rfl) rfl rfl rfl (fun c h=>by cases h) ?_ (by simpa using hT.wd));simp[execOp,go_sem,f10]
     |7,_=>refine mH.of (hT.val (w':=w3) dz (by rfl) rfl rfl rfl (fun c h=>by cases h) ?_ (by simpa using hT.wd));simp[execOp,go_sem,f8]
     | 1,_=>
      have h6:qs 6=false:=by
       cases h:qs 6 with
       |false=>rfl
       |true=>exact absurd (hT.cl 6 h 1 (by decide)) (by rw[hq];decide)
      have hO3:=((vw h6).block _ Au id).trans hO;refine mH.of (hT.val (w':=w3) dz (by rfl) rfl rfl rfl (fun c h=>by cases h) ?_ (by simpa[h6]using hT.wd));have e24:a3.tmps[24]?.getD undef= .pointer (some ⟨w1.heap.size+1,1,none⟩):=hT.slot 0 _ 24 (dz 0 (by decide)) rfl rfl;simp[execOp,go_sem,e24,World.cell?,hO3]
     | 3,_=>
      have h6:qs 6=false:=by
       cases h:qs 6 with
       |false=>rfl
       |true=>exact absurd (hT.cl 4 (hT.cl 5 (hT.cl 6 h 5 (by decide)) 4 (by decide)) 3 (by decide)) (by rw[hq];decide)
      have hA3:=((vw h6).block _ Lh id).trans hI.ab;refine mH.of (hT.val (w':=w3) dz (by rfl) rfl rfl rfl (fun c h=>by cases h) ?_ (by simpa[h6]using hT.wd));simp[execOp,go_sem,f7,World.cell?,hA3]
     | 4,_=>
      have h5:qs 5=false:=by
       cases h:qs 5 with
       |false=>rfl
       |true=>exact absurd (hT.cl 5 h 4 (by decide)) (by rw[hq];decide)
      have h6:qs 6=false:=by
       cases h:qs 6 with
       |false=>rfl
       |true=>exact absurd (hT.cl 6 h 5 (by decide)) (by rw[h5];decide)
      have h8:qs 8=false:=by
       cases h:qs 8 with
       |false=>rfl
       |true=>exact absurd (hT.cl 8 h 6 (by decide)) (by rw[h6];decide)
      have hw:w3=wo.drew:=by
       rcases hT.wd with⟨h,_⟩|⟨_,h,_⟩|⟨_,h,_⟩|⟨_,h,_⟩|⟨_,h⟩
       ·rw[h8]at h;cases h
       ·rw[h6]at h;cases h
       ·rw[h5]at h;cases h
       ·rw[hq]at h;cases h
       ·exact h
      have e26:a3.tmps[26]?.getD undef=ui:=hT.slot 2 _ 26 (dz 2 (by decide)) rfl rfl;have e27:a3.tmps[27]?.getD undef= .agg #[.bool (decide (a.num<0)),.slice a1 (ah a.num.natAbs).length c1,.slice a2 (ah a.den).length c2]:=hT.slot 3 _ 27 (dz 3 (by decide)) rfl rfl;subst hw;have hED:Ext bO wo wo.drew:=⟨rfl,rfl,rfl,Kac _,fun _ _ _=>rfl⟩
      have fM:W.heap.size<=wo.heap.size:=qE.size;refine hT.alh dz rfl (by rfl) rfl rfl rfl rfl (vs:= #[ui,.agg #[.bool (decide (a.num<0)),.slice a1 (ah a.num.natAbs).length c1,.slice a2 (ah a.den).length c2]]) (by simp[Act.eval,e26,e27]) trivial (fun _ _=>rfl)
       (zc (vB i mU) rfl (fun x=>X x∨x=w1.heap.size+1∨vo.ownBlock=some x∨x=W.heap.size∨x=w1.heap.size) (fun x hx=>?_) (fun k x hx=>?_) 0) ?_
      ·show x<wo.heap.size;rcases hx with hx|rfl|hx|rfl|rfl
       ·exact KaK (hX x hx) fM
       ·exact Au
       ·exact(fL.lt x hx).2
       ·exact tI
       ·exact Lh
      ·have ho:∀b,vo.ownBlock=some b->w1.heap.size+2<=b:=fun b h=>(fL.lt b h).1
       match k,hx with
       |0,hx=>
        simp at hx;subst hx;refine aY.mono (p:=PV.aj cs[i]) rl (fun b hb _=>qE.block b hb id) (fun b hb h h'=>?_) qE.size;rcases h' with h'|rfl|h'|rfl|rfl
        ·exact h h'
        ·omega
        ·have:=ho b h';omega
        ·omega
        ·omega
       | 1,hx=>
        simp at hx;subst hx;refine aY.mono (p:=PV.rat a) (w:=w1) (X:=fun b=>X b∨b=W.heap.size) ⟨_,rfl,rfl,fun k x hk=>?_⟩ (fun b hb _=>hI.ex.block b hb id) (fun b hb h h'=>?_) hI.ex.size
        ·match k,hk with
         |0,hk=>cases hk;exact .bool _
         |1,hk=>cases hk;simpa using Bh
         |2,hk=>cases hk;simpa using v5
        ·rcases h' with h'|rfl|h'|rfl|rfl
         ·exact h (.inl h')
         ·omega
         ·have:=ho b h';omega
         ·exact h (.inr rfl)
         ·omega
       |k+2,hx=>simp at hx
      ·rintro e w' ⟨v,r,rfl,hE,cK,rfl⟩;refine⟨(v,w',g.2.2),rfl,fun j hj=>?_,.inr (.inr (.inr (.inl ⟨by simp[h5],by simp,rfl,(tH _).2 ⟨?_,hED.trans hE,cK⟩⟩)))⟩
       ·match j,hj with
        |0,_=>rfl
        |1,_=>rfl
        |2,_=>rfl
        |3,_=>rfl
        |4,h=>rw[hq]at h;cases h
        |5,h=>rw[h5]at h;cases h
        |6,h=>rfl
        |7,_=>rfl
        |j+8,_=>rfl
       ·obtain⟨x,c,h⟩:=wI cK;exact⟨x,_,c,h⟩
     | 5,_=>
      have h6:qs 6=false:=by
       cases h:qs 6 with
       |false=>rfl
       |true=>exact absurd (hT.cl 6 h 5 (by decide)) (by rw[hq];decide)
      have h4:qs 4=true:=dz 4 (by decide);have e28:a3.tmps[28]?.getD undef=g.1:=hT.slot 4 _ 28 h4 rfl rfl;have h8:qs 8=false:=by
       cases h:qs 8 with
       |false=>rfl
       |true=>exact absurd (hT.cl 8 h 6 (by decide)) (by rw[h6];decide)
      have hw:w3=g.2.1/\F4 g:=by
       rcases hT.wd with⟨h,_⟩|⟨_,h,_⟩|⟨_,h,_⟩|⟨_,_,h,hf⟩|⟨h,_⟩
       ·rw[h8]at h;cases h
       ·rw[h6]at h;cases h
       ·rw[hq]at h;cases h
       ·exact⟨h,hf⟩
       ·rw[h4]at h;cases h
      obtain⟨rfl,r6⟩:=hw;refine mH.of (hT.val (w':=g.2.1.alloc (.cells #[g.1] 32)) dz (by rfl) rfl rfl rfl (fun c h=>by cases h) ?_ (.inr (.inr (.inl ⟨by simp[h6],by simp,rfl,r6⟩))));obtain⟨a4,n4,c4,h1⟩:=((tH g).1 r6).1;simp[execOp,go_sem,e28,h1]
     | 6,_=>
      have h5:qs 5=true:=dz 5 (by decide);have h4:qs 4=true:=hT.cl 5 h5 4 (by decide);have h8:qs 8=false:=by
       cases h:qs 8 with
       |false=>rfl
       |true=>exact absurd (hT.cl 8 h 6 (by decide)) (by rw[hq];decide)
      have e25:a3.tmps[25]?.getD undef=vo:=hT.slot 1 _ 25 (dz 1 (by decide)) rfl rfl;have e29:a3.tmps[29]?.getD undef= .slice (some ⟨g.2.1.heap.size,0,none⟩) 1 1:=hT.slot 5 _ 29 h5 rfl rfl;have hw:w3=g.2.1.alloc (.cells #[g.1] 32)/\F4 g:=by
       rcases hT.wd with⟨h,_⟩|⟨_,h,_⟩|⟨_,_,h,hf⟩|⟨h,_⟩|⟨h,_⟩
       ·rw[h8]at h;cases h
       ·rw[hq]at h;cases h
       ·exact⟨h,hf⟩
       ·rw[h5]at h;cases h
       ·rw[h4]at h;cases h
      obtain⟨rfl,r6⟩:=hw;have f4:=(tH g).1 r6;obtain⟨a4,n4,c4,h1⟩:=f4.1;have an4:(g.2.1.alloc (.cells #[g.1] 32)).ownsRow (w1.heap.size+2) 32 1 vo i vs:=by rw[UM]at fL;exact(fL.kept (row:=none) ⟨f4.2.1.os,f4.2.1.tape,f4.2.1.output,f4.2.1.size,fun k hk _=>f4.2.1.block k hk id⟩ (by cases vo.ownBlock<;>simp)).alloc _
      obtain⟨v',w',bm,vV,hg',_,aw⟩:=run_append_own_at (P:=Tryz.prog) (w:=g.2.1.alloc (.cells #[g.1] 32)) (w1.heap.size+2) 22 22 32 i0 (.slice none 0 0) 1 24 (by kernel_rfl) pE z0 z1 z2 rfl (by omega) vo i vs an4
       ⟨g.2.1.heap.size,0,none⟩ 1 1 [g.1] rfl (fun j u hj=>by
        match j,hj with
        |0,hj=>simp at hj;subst hj;have hn:=World.alloc_heap_new g.2.1 (.cells #[g.1] 32);rw[Kby];simp only[World.cell?,hn];rfl
        |j+1,hj=>simp at hj) (fun u hu=>by simp at hu;subst hu;rw[h1];rfl) (by simp only[maxLen];omega) (by omega) (by have:=hI.ex.size;have:=f4.2.1.size;simp;omega)
      have vC:jv _ _ ((fun(g:Value×World×Value×World) (j:Nat)=>match j with|0=>.pointer (some ⟨w1.heap.size+1,1,none⟩)|1=>vo|2=>ui|3=>.agg #[.bool (decide (a.num<0)),.slice a1 (ah a.num.natAbs).length c1,.slice a2 (ah a.den).length c2]|4=>g.1|5=>.slice (some ⟨g.2.1.heap.size,0,none⟩) 1 1|6=>g.2.2.1|7=>.pointer (some ⟨w1.heap.size+1,1,none⟩)|_=>undef) (g.1,g.2.1,v',w')) _ (fun k w=>k 6=false∨(k 8=false/\k 6=true/\w=w'/\F4 (g.1,g.2.1,v',w')/\F6 (g.1,g.2.1,v',w'))) qs a3 (g.2.1.alloc (.cells #[g.1] 32)):=
       ⟨hT.d0,hT.sz,hT.fixed,fun j o d hj ho hd=>(hT.slot j o d hj ho hd).trans (by
        match j,hj with
        |6,h=>rw[hq]at h;cases h
        |0,_=>rfl
        |1,_=>rfl
        |2,_=>rfl
        |3,_=>rfl
        |4,_=>rfl
        |5,_=>rfl
        |7,_=>rfl
        |j+8,_=>rfl),hT.cl,.inl hq⟩
      refine wpOpIn_mono ?_ (vC.app (w':=w') dz (by rfl) rfl rfl rfl (v:=vo) (u:=.slice (some ⟨g.2.1.heap.size,0,none⟩) 1 1) (by simp[Act.eval,e25]) (by simp[Act.eval,e29]) bm (.inr ⟨by simp[h8],by simp,rfl,(tH _).2 f4,(jh _).2 ⟨vV,hg',by simpa using aw⟩⟩));intro a5 w5 h;refine⟨(g.1,g.2.1,v',w'),h.d0,h.sz,h.fixed,h.slot,h.cl,?_⟩;rcases h.wd with h|h
      ·simp at h
      ·exact .inr (.inl h)
     | 8,_=>
      have h6:qs 6=true:=dz 6 (by decide);have e30:a3.tmps[30]?.getD undef=g.2.2.1:=hT.slot 6 _ 30 h6 rfl rfl;have e31:a3.tmps[31]?.getD undef= .pointer (some ⟨w1.heap.size+1,1,none⟩):=hT.slot 7 _ 31 (dz 7 (by decide)) rfl rfl;have hw:w3=g.2.2.2/\F4 g/\F6 g:=by
       rcases hT.wd with⟨h,_⟩|⟨_,_,h,hf⟩|⟨h,_⟩|⟨h,_⟩|⟨h,_⟩
       ·rw[hq]at h;cases h
       ·exact⟨h,hf⟩
       ·rw[h6]at h;cases h
       ·exact absurd (hT.cl 6 h6 5 (by decide)) (by rw[h];decide)
       ·exact absurd (hT.cl 5 (hT.cl 6 h6 5 (by decide)) 4 (by decide)) (by rw[h];decide)
      obtain⟨rfl,r6,Ey⟩:=hw;have f4:=(tH g).1 r6;have f6:=(jh g).1 Ey;have hO2:g.2.2.2.heap[w1.heap.size+1]? =some (.cells #[.slice aq q.length cq,vo] 34 (0,0)):=by have gh:=KaK Au f4.2.1.size;refine(f6.2.1.block _ (by simp;omega) (fun h=>?_)).trans ((Below.heap_alloc _ _ _ gh).trans ((f4.2.1.block _ Au id).trans hO));have:=(fL.lt _ h.symm).1;omega
      refine mH.of (hT.sto (w':=g.2.2.2.setCell ⟨w1.heap.size+1,1,none⟩ g.2.2.1) dz (by rfl) rfl rfl rfl (fun c h=>by cases h) ?_ (.inl ⟨by simp,rfl,r6,Ey⟩));obtain⟨gb,gc,pj⟩:∃gb gc,g.2.2.1= .slice (some ⟨gb,0,none⟩) (i+1) gc:=by
       rcases f6.1.2 with⟨_,h⟩|⟨gb,gc,_,h,_⟩
       ·omega
       ·exact⟨gb,gc,h⟩
      simp[execOp,go_sem,e30,e31,pj,storeCells,World.cell?,World.frozen?,hO2]
     |j+9,hj=>exact absurd hj (by simp)
    ·rintro qs a3 w3 hq ⟨g,hT⟩;refine hK0 a3 w3 ?_;have q8:qs 8=true:=hq 8 (by simp);have hw:w3=g.2.2.2.setCell ⟨w1.heap.size+1,1,none⟩ g.2.2.1/\F4 g/\F6 g:=by
      rcases hT.wd with⟨_,h⟩|⟨h,_⟩|⟨h,_⟩|⟨h,_⟩|⟨h,_⟩
      ·exact h
      ·rw[q8]at h;cases h
      ·rw[hq 6 (by simp)]at h;cases h
      ·rw[hq 5 (by simp)]at h;cases h
      ·rw[hq 4 (by simp)]at h;cases h
     obtain⟨rfl,r6,Ey⟩:=hw;have f4:=(tH g).1 r6;have f6:=(jh g).1 Ey;have Ln:Fq X (w1.heap.size+1) w1.heap.size W.heap.size (w1.heap.size+2) (.slice aq q.length cq) [.bool (decide (a.num<0)),.slice a1 (ah a.num.natAbs).length c1,.slice a2 (ah a.den).length c2] (ds.take (i+1)) w1 (g.2.2.2.setCell ⟨w1.heap.size+1,1,none⟩ g.2.2.1):=by
      have UN:(ds.take (i+1)).length=i+1:=by rw[KaF];omega
      have sz1:=f4.2.1.size;have sz2:=f6.2.1.size;simp only[World.size_alloc]at sz2;have VK:∀k,k<wo.heap.size->vo.ownBlock≠some k->g.2.2.2.heap[k]? =wo.heap[k]? :=fun k hk hv=>by have mV:=KaK hk sz1;exact(f6.2.1.block k (by simp;omega) (fun h=>hv h.symm)).trans ((Below.heap_alloc _ _ _ mV).trans (f4.2.1.block k hk id))
      have EP:∀k,k<wo.heap.size->vo.ownBlock≠some k->k≠w1.heap.size+1->(g.2.2.2.setCell ⟨w1.heap.size+1,1,none⟩ g.2.2.1).heap[k]? =wo.heap[k]? :=fun k hk hv aP=>(Below.heap_setCell _ _ _ k aP).trans (VK k hk hv);have ho:∀b,vo.ownBlock=some b->w1.heap.size+2<=b/\b<wo.heap.size:=fun b h=>fL.lt b h;have qQ:∀k,k<w1.heap.size+2->vo.ownBlock≠some k:=fun k hk h=>by have:=(ho k h).1;omega
      have M1:(g.2.2.2.setCell ⟨w1.heap.size+1,1,none⟩ g.2.2.1).heap.size=g.2.2.2.heap.size:=by simp
      have Up:=(VK _ Au (qQ _ (by omega))).trans hO;have iez:=hI.ex.size;refine⟨⟨?_,?_,?_,by rw[M1];omega,fun k hk _=>?_⟩,?_,?_,g.2.2.1,vs++[g.1],?_,?_,?_⟩
      ·exact f6.2.1.os.trans (f4.2.1.os.trans hI.ex.os)
      ·exact f6.2.1.tape.trans (f4.2.1.tape.trans hI.ex.tape)
      ·exact f6.2.1.output.trans (f4.2.1.output.trans hI.ex.output)
      ·exact(EP k (by omega) (qQ k (by omega)) (by omega)).trans (hI.ex.block k hk id)
      ·exact(EP _ tI (qQ _ (by omega)) (by omega)).trans hI.rb
      ·exact(EP _ Lh (qQ _ (by omega)) (by omega)).trans hI.ab
      ·have ar:=(KaG.1 Up).1;have h':g.2.2.2.heap[w1.heap.size+1]= .cells #[.slice aq q.length cq,vo] 34 (0,0):=by simpa[Kbe ar]using Up
       show(g.2.2.2.heap.modify (w1.heap.size+1) _)[w1.heap.size+1]? =_;rw[Kbe (by simpa using ar),Array.getElem_modify_self,h'];rfl
      ·rw[UN];exact ownsRow_setCell_below f6.1 (by simp) _
      ·intro j hj;rw[UN]at hj;have qK:∀b,g.2.2.1.ownBlock=some b->vo.ownBlock=some b∨b=g.2.1.heap.size+1:=fun b hb=>by
        rcases f6.2.2 with h|h
        ·exact .inl (h.symm.trans hb)
        ·rw[hb]at h;cases h;exact .inr rfl
       have jU:vs.length=i:=by have:=fL.1;rw[UM]at this;omega
       by_cases dW:j<i
       ·have e1:(vs++[g.1]).getD j undef=vs.getD j undef:=by simp[List.getD,Kb7 (show j<vs.length by omega)]
        have e2:(ds.take (i+1))[j]'(by omega)=(ds.take i)[j]'(by omega):=by simp
        rw[e1,e2];refine Qu.mono (Mo j (by omega)) (fun b hb h=>EP b hb (fun h'=>h (.inr (.inr (.inl h')))) (fun h'=>h (.inr (.inl h')))) (fun b hb h h'=>?_) (by rw[M1];omega);rcases h' with h'|h'|h'|h'|h'
        ·exact h (.inl h')
        ·exact h (.inr (.inl h'))
        ·rcases qK b h' with h'|h'
         ·exact h (.inr (.inr (.inl h')))
         ·omega
        ·exact h (.inr (.inr (.inr (.inl h'))))
        ·exact h (.inr (.inr (.inr (.inr h'))))
       ·obtain rfl:j=i:=by omega
        have e1:(vs++[g.1]).getD j undef=g.1:=by simp[List.getD,<-jU]
        have e2:(ds.take (j+1))[j]'(by omega)=ds.getD j []:=by simp[List.getD,Kam (show j<ds.length by omega)]
        rw[e1,e2];refine Qu.mono f4.2.2 (fun b hb h=>?_) (fun b hb h h'=>?_) (by rw[M1];omega)
        ·exact(Below.heap_setCell _ _ _ b (fun h'=>h (.inr (.inl h')))).trans ((f6.2.1.block b (by simp;omega) (fun h'=>h (.inr (.inr (.inl h'.symm))))).trans (Below.heap_alloc _ _ _ hb))
        ·rcases h' with h'|h'|h'|h'|h'
         ·exact h (.inl h')
         ·exact h (.inr (.inl h'))
         ·rcases qK b h' with h'|h'
          ·exact h (.inr (.inr (.inl h')))
          ·omega
         ·exact h (.inr (.inr (.inr (.inl h'))))
         ·exact h (.inr (.inr (.inr (.inr h'))))
     obtain⟨y,hy⟩:∃y:Nat->Value,a3.tmps= #[vp,.slice (some ⟨b,off,none⟩) cs.length cc,undef,undef,.pointer (some ⟨W.heap.size,0,none⟩),.int .i64 0,.slice aq q.length cq,.pointer (some ⟨w1.heap.size,0,none⟩),.pointer (some ⟨w1.heap.size+1,0,none⟩),undef,y 10,.tuple #[.slice aq q.length cq,.agg #[.bool (decide (a.num<0)),.slice a1 (ah a.num.natAbs).length c1,.slice a2 (ah a.den).length c2]],vp,.tuple #[.slice aq q.length cq,.agg #[.bool (decide (a.num<0)),.slice a1 (ah a.num.natAbs).length c1,.slice a2 (ah a.den).length c2]],.slice aq q.length cq,.agg #[.bool (decide (a.num<0)),.slice a1 (ah a.num.natAbs).length c1,.slice a2 (ah a.den).length c2],.slice aq q.length cq,.agg #[.slice aq q.length cq,.slice none 0 0],.slice (some ⟨b,off,none⟩) cs.length cc,.int .i64 (cs.length:Nat),.int .i64 i,y 21,y 22,y 23,y 24,y 25,y 26,y 27,y 28,y 29,y 30,y 31,y 32,undef,undef,undef,undef,undef,undef,undef,undef,undef,undef,undef,undef,undef,undef,undef,undef,undef,undef,undef]:=by
      refine⟨fun k=>a3.tmps[k]?.getD undef,Array.ext (by simp[hT.sz]) (fun k hk mV=>?_)⟩;have e:a3.tmps[k]=a3.tmps[k]?.getD undef:=by simp[hk]
      rw[e];have hk3:k<52:=by rw[<-hT.sz];exact hk
      match k,hk3 with
      |0,_=>exact hT.fixed (0,_) (by simp)
      |1,_=>exact hT.fixed (1,_) (by simp)
      |2,_=>exact hT.fixed (2,_) (by simp)
      |3,_=>exact hT.fixed (3,_) (by simp)
      |4,_=>exact hT.fixed (4,_) (by simp)
      |5,_=>exact hT.fixed (5,_) (by simp)
      |6,_=>exact hT.fixed (6,_) (by simp)
      |7,_=>exact hT.fixed (7,_) (by simp)
      |8,_=>exact hT.fixed (8,_) (by simp)
      |9,_=>exact hT.fixed (9,_) (by simp)
      |10,_=>rfl
      |11,_=>exact hT.fixed (11,_) (by simp)
      |12,_=>exact hT.fixed (12,_) (by simp)
      |13,_=>exact hT.fixed (13,_) (by simp)
      |14,_=>exact hT.fixed (14,_) (by simp)
      |15,_=>exact hT.fixed (15,_) (by simp)
      |16,_=>exact hT.fixed (16,_) (by simp)
      |17,_=>exact hT.fixed (17,_) (by simp)
      |18,_=>exact hT.fixed (18,_) (by simp)
      |19,_=>exact hT.fixed (19,_) (by simp)
      |20,_=>exact hT.fixed (20,_) (by simp)
      |21,_=>rfl
      |22,_=>rfl
      |23,_=>rfl
      |24,_=>rfl
      |25,_=>rfl
      |26,_=>rfl
      |27,_=>rfl
      |28,_=>rfl
      |29,_=>rfl
      |30,_=>rfl
      |31,_=>rfl
      |32,_=>rfl
      |33,_=>exact hT.fixed (33,_) (by simp)
      |34,_=>exact hT.fixed (34,_) (by simp)
      |35,_=>exact hT.fixed (35,_) (by simp)
      |36,_=>exact hT.fixed (36,_) (by simp)
      |37,_=>exact hT.fixed (37,_) (by simp)
      |38,_=>exact hT.fixed (38,_) (by simp)
      |39,_=>exact hT.fixed (39,_) (by simp)
      |40,_=>exact hT.fixed (40,_) (by simp)
      |41,_=>exact hT.fixed (41,_) (by simp)
      |42,_=>exact hT.fixed (42,_) (by simp)
      |43,_=>exact hT.fixed (43,_) (by simp)
      |44,_=>exact hT.fixed (44,_) (by simp)
      |45,_=>exact hT.fixed (45,_) (by simp)
      |46,_=>exact hT.fixed (46,_) (by simp)
      |47,_=>exact hT.fixed (47,_) (by simp)
      |48,_=>exact hT.fixed (48,_) (by simp)
      |49,_=>exact hT.fixed (49,_) (by simp)
      |50,_=>exact hT.fixed (50,_) (by simp)
      |51,_=>exact hT.fixed (51,_) (by simp)
      |k+52,h=>exact absurd h (by omega)
     have jA:=hT.d0;clear hT;rcases a3 with⟨tm,df⟩
     simp only at hy jA;subst hy jA
     gi_wp2
     have amG:((i+1:Nat):Int)=(i:Int)+1:=by simp
     refine⟨⟨y 10,.int .i64 ((i:Int)+1),y 21,y 22,y 23,y 24,y 25,y 26,y 27,y 28,y 29,y 30,y 31,.int .i64 ((i:Int)+1),⟨i+1,by rw[amG],by omega,Ln⟩,by simp⟩,?_⟩;simp[intOf];omega
  ·have hic:i=cs.length:=by omega
   have d1:¬((i:Int)<((cs.map PV.aj).length:Int)):=by rw[ks];omega
   gi_wp2
   refine⟨trivial,qG _,(zc rU rfl X (fun b hb=>KaK (hX b hb) qE.size) (fun k x hx=>?_) _).mono ?_⟩
   ·match k,hx with
    |0,hx=>simp at hx;subst hx;exact aY.mono (p:=PV.aj q) (w:=w1) (X:=fun b=>X b∨b=W.heap.size) (show Qu w1 _ (PV.aj q) _ by simpa using hq) (fun b hb _=>hI.ex.block b hb id) (fun b hb h h'=>h (.inl h')) hI.ex.size
    |k+1,hx=>simp at hx
   rintro e w4 ⟨v,r,rfl,nO,cK,rfl⟩;cases cK;cases b1 with
   |true=>
    obtain⟨z1,z2,z3,z4,z5,z6⟩:=GL (((nO).block _ (KaG.1 hI.rb).1 id).trans hI.rb);have Bn:=HY (qE.trans (nO)) (Kac _) (.slice none 0 0) (.slice none 0 0)
    gi_wp2
    refine⟨trivial,?_⟩
    gi_wp2
    refine bodyPost_ret (BX rfl _ _ W.heap.size _ _ _ _ rfl z6 Tryz.underlying34 rfl (by kernel_rfl)) rfl ⟨_,rfl,Bn,?_⟩;simp only[ot,Kc9,KcL,Bool.or_false,Kcm,if_true,KaL,if_false,Kdi];exact HZ
   |false=>
   have cO:w4.cell? ⟨w1.heap.size+1,1,none⟩=some vo:=by have hO4:=(nO.block _ (KaG.1 hO).1 id).trans hO;simp only[World.cell?,hO4];rfl
   gi_wp2
   have hdt:ds.take i=ds:=Kae (by omega);have Uy:∀b,X b->b<w4.heap.size:=fun b hb=>KaK (KaK (hX b hb) qE.size) nO.size;have Vw:Qu wo (fun b=>X b∨b=W.heap.size) (PV.bZ ds) vo:=by
    rw[hdt]at fL Mo;refine ad5 fL (by simp) (fun b hb h=>?_) (fun p hp=>by obtain⟨y,_,rfl⟩:=KaI.1 hp;rfl) (fun j hj=>?_)
    ·have UG:=(fL.lt b hb).1;rcases h with h|h
     ·have:=hX b h;omega
     ·omega
    ·have vN:j<ds.length:=by simpa using hj
     have hh:=Mo j vN;rw[KcB];exact hh.mono (fun _ _ _=>rfl) (fun b _ hn hm=>hm.elim (fun h=>hn (.inl h)) (fun h=>hn (.inr (.inr (.inr (.inl h)))))) (Kac _)
   have Vy:Qu w4 (fun b=>X b∨b=W.heap.size) (PV.bZ ds) vo:=Vw.mono (fun b hb _=>nO.block b hb id) (fun _ _ h=>h) nO.size;refine⟨trivial,qG _,(zc Aq rfl X Uy (fun k x hx=>?_) _).mono ?_⟩
   ·match k,hx with
    |0,hx=>simp at hx;subst hx;exact aY.mono (p:=PV.bZ ds) Vy (fun _ _ _=>rfl) (fun b _ h h'=>h (.inl h')) (Kac _)
    |1,hx=>simp at hx;subst hx;exact .fn _ [] [] #[] #[] rfl rfl (fun k x h=>by simp at h) (fun k x h=>by simp at h)
    |k+2,hx=>simp at hx
   rintro e w5 ⟨v,r,rfl,qD,cK,rfl⟩;cases cK;cases b2 with
   |true=>
    obtain⟨z1,z2,z3,z4,z5,z6⟩:=GL (((nO.trans qD).block _ (KaG.1 hI.rb).1 id).trans hI.rb);have Bn:=HY (qE.trans (nO.trans qD)) (Kac _) (.slice none 0 0) (.slice none 0 0)
    gi_wp2
    refine bodyPost_ret (BX rfl _ _ W.heap.size _ _ _ _ rfl z6 Tryz.underlying34 rfl (by kernel_rfl)) rfl ⟨_,rfl,Bn,?_⟩;simp only[ot,Kc9,KcL,Bool.or_false,Kcm,if_true,KaL,if_false,Kdi];exact HZ
   |false=>
   refine(Kc0 q.length).elim (fun iy=> ?qz) (fun iy=> ?qp)
   case' qz=>
    have d2:¬(0:Int)<(q.length:Int):=by omega
    obtain⟨w6,VR⟩:∃w6,w6=w5:=⟨_,rfl⟩
    have vw:Ext bO w5 w6:=VR▸Ext.refl _ _;have dq:ot false false b3 q ds= .au [.agg [PV.aj q,PV.bZ ds],.int .i64 0]:=by simp[ot,iy]
    subst VR;clear iy
    gi_wp2
    refine⟨trivial,?_⟩
   case' qp=>
    have d2:(0:Int)<(q.length:Int):=by omega
    gi_wp2
    refine⟨trivial,qG _,(zc Ar rfl X (fun b hb=>KaK (Uy b hb) qD.size) (fun k x hx=>?_) _).mono ?_⟩
    ·match k,hx with
     |0,hx=>simp at hx;subst hx;exact aY.mono (p:=PV.aj q) (w:=w1) (X:=fun b=>X b∨b=W.heap.size) (show Qu w1 _ (PV.aj q) _ by simpa using hq) (fun b hb _=>((hI.ex.trans nO).trans qD).block b hb id) (fun b hb h h'=>h (.inl h')) ((hI.ex.trans nO).trans qD).size
     |k+1,hx=>simp at hx
    rintro e w6 ⟨v,r,rfl,vw,cK,rfl⟩;cases cK;have dq:b3=false->ot false false b3 q ds= .au [.agg [PV.aj q,PV.bZ ds],.int .i64 0]:=fun h=>by simp[ot,h]
    cases b3
    rotate_left
    ·obtain⟨z1,z2,z3,z4,z5,z6⟩:=GL ((((nO.trans qD).trans vw).block _ (KaG.1 hI.rb).1 id).trans hI.rb);have Bn:=HY (qE.trans ((nO.trans qD).trans vw)) (Kac _) (.slice none 0 0) (.slice none 0 0)
     gi_wp2
     refine bodyPost_ret (BX rfl _ _ W.heap.size _ _ _ _ rfl z6 Tryz.underlying34 rfl (by kernel_rfl)) rfl ⟨_,rfl,Bn,?_⟩;simp only[ot,Kc9,KcL,Bool.or_false,Kcm,if_true,KaL,if_false,Kdi,decide_eq_true iy];exact HZ
    replace dq:=dq rfl
   all_goals
    have rT:=(nO.trans qD).trans vw;have Uq:=(rT.block _ (KaG.1 hO).1 id).trans hO;have El:=(rT.block _ (KaG.1 hI.rb).1 id).trans hI.rb;have cO1:w6.cell? ⟨w1.heap.size+1,0,none⟩=some (.slice aq q.length cq):=by simp only[World.cell?,Uq];rfl
    have cO2:w6.cell? ⟨w1.heap.size+1,1,none⟩=some vo:=by simp only[World.cell?,Uq];rfl
    have cR1:w6.cell? ⟨W.heap.size,0,none⟩=some (.slice none 0 0):=by simp only[World.cell?,El];rfl
    have cR2:w6.cell? ⟨W.heap.size,1,none⟩=some (.slice none 0 0):=by simp only[World.cell?,El];rfl
    have Lx:=heap_setCell_same w6 W.heap.size 0 _ _ (.slice aq q.length cq) El;have cR3:(w6.setCell ⟨W.heap.size,0,none⟩ (.slice aq q.length cq)).cell? ⟨W.heap.size,1,none⟩=some (.slice none 0 0):=by simp only[World.cell?,Lx];rfl
    have fR1:w6.frozen? ⟨W.heap.size,0,none⟩=false:=by simp only[World.frozen?,El];rfl
    have fR2:(w6.setCell ⟨W.heap.size,0,none⟩ (.slice aq q.length cq)).frozen? ⟨W.heap.size,1,none⟩=false:=by simp only[World.frozen?,Lx];rfl
    have Ur:=heap_setCell_same (w6.setCell ⟨W.heap.size,0,none⟩ (.slice aq q.length cq)) W.heap.size 1 _ _ vo Lx;obtain⟨ao,co,rfl⟩:=wI Vy;have eW:(ds.map PV.aj).length=cs.length:=by rw[KaV,hlen]
    rw[eW]at Ur
    gi_wp2
    have alP:=(qE.trans rT)
    have hEs:Ext bO W ((w6.setCell ⟨W.heap.size,0,none⟩ (.slice aq q.length cq)).setCell ⟨W.heap.size,1,none⟩ (.slice ao cs.length co)):=by have e1:=Ext.setCell (Y:=fun b=>b=W.heap.size) w6 ⟨W.heap.size,0,none⟩ (.slice aq q.length cq) rfl;have e2:=Ext.setCell (Y:=fun b=>b=W.heap.size) (w6.setCell ⟨W.heap.size,0,none⟩ (.slice aq q.length cq)) ⟨W.heap.size,1,none⟩ (.slice ao cs.length co) rfl;exact(alP.trans' e1 (fun i hi h=>by omega)).trans' e2 (fun i hi h=>by omega)
    have Eg:Ext (fun b=>b=W.heap.size) w6 ((w6.setCell ⟨W.heap.size,0,none⟩ (.slice aq q.length cq)).setCell ⟨W.heap.size,1,none⟩ (.slice ao cs.length co)):=
     (Ext.setCell (Y:=fun b=>b=W.heap.size) w6 ⟨W.heap.size,0,none⟩ (.slice aq q.length cq) rfl).trans (Ext.setCell (Y:=fun b=>b=W.heap.size) _ ⟨W.heap.size,1,none⟩ (.slice ao cs.length co) rfl)
    refine bodyPost_ret (BX rfl _ _ W.heap.size _ _ _ _ rfl Ur Tryz.underlying34 rfl (by kernel_rfl)) rfl ⟨_,rfl,hEs,?_⟩;rw[dq];refine⟨_,rfl,rfl,fun k x hk=>?_⟩
    match k,hk with
    | 0,hk=>
     cases hk;refine⟨_,rfl,rfl,fun k x hk=>?_⟩
     match k,hk with
     |0,hk=>
      cases hk;refine Qu.mono (w:=w1) (X:=fun b=>X b∨b=W.heap.size) (show Qu w1 _ (PV.aj q) (.slice aq q.length cq)by simpa using hq) (fun b hb hn=>?_) (fun b _ h h'=>h (.inl h')) ?_
      ·exact(Eg.block b (KaK hb ((hI.ex.trans rT).size)) (fun h=>hn (.inr h))).trans ((hI.ex.trans rT).block b hb id)
      ·exact Kay (hI.ex.trans rT).size Eg.size
     |1,hk=>
      cases hk;refine Qu.mono (w:=wo) (X:=fun b=>X b∨b=W.heap.size) (by simpa[hlen]using Vw) (fun b hb hn=>?_) (fun b _ h h'=>h (.inl h')) ?_
      ·exact(Eg.block b (KaK hb rT.size) (fun h=>hn (.inr h))).trans (rT.block b hb id)
      ·exact Kay rT.size Eg.size
     |k+2,hk=>simp at hk
    |1,hk=>cases hk;exact .int _ _
    |k+2,hk=>simp at hk
theorem QO{p q:List Tm}{cs ds:List (List Tm)}{a:Rat}{b1 b2 b3:Bool}(hlen:ds.length=cs.length)(hl:cs.length<=100)
  (vA:Qc Tryz.prog 120 [PV.aj p] (· = .au [PV.aj q,PV.rat a])) (vB:∀i (h:i<cs.length),Qc Tryz.prog 121 [PV.aj cs[i],PV.rat a] (· =PV.aj (ds.getD i [])))
  (rU:Qc Tryz.prog 61 [PV.aj q] (· = .bool b1))
  (Aq:Qc Tryz.prog 122 [PV.bZ ds,.fn 61 [] []] (· = .bool b2)) (Ar:Qc Tryz.prog 123 [PV.aj q] (· = .bool b3)):
  Qc Tryz.prog 66 [PV.aj p,PV.bZ cs] (· =ot b1 b2 b3 q ds):=by
 refine⟨by unfold oA;kernel_rfl,fun w X bl hX hs hr=>?_⟩;obtain⟨v0,v1,rfl⟩:∃v0 v1,bl= #[v0,v1]:=by
  obtain⟨l⟩:=bl
  match l,hs with
  | [x,y],_=>exact⟨x,y,rfl⟩
 refine(callsIn_wide.1 (YU hlen hl X hX (hr 0 _ rfl) (hr 1 _ rfl) vA vB rU Aq Ar 0)).mono ?_;rintro e w' ⟨v,rfl,h1,h2⟩;exact⟨v,_,rfl,h1,h2,rfl⟩
theorem XD{p q:List Tm}{cs ds:List (List Tm)}{a:Rat}(hlen:ds.length=cs.length)(hl:cs.length<=100)
  (vA:Qc Tryz.prog 120 [PV.aj p] (· = .au [PV.aj q,PV.rat a])) (vB:∀i (h:i<cs.length),Qc Tryz.prog 121 [PV.aj cs[i],PV.rat a] (· =PV.aj (ds.getD i [])))
  (rU:Qc Tryz.prog 61 [PV.aj q] (· = .bool false)) (apf:0<q.length)
  (Aq:Qc Tryz.prog 122 [PV.bZ ds,.fn 61 [] []] (· = .bool false)) (Ar:Qc Tryz.prog 123 [PV.aj q] (· = .bool false)):
  Qc Tryz.prog 66 [PV.aj p,PV.bZ cs] (· = .au [.agg [PV.aj q,PV.bZ ds],.int .i64 0]):=by
 have h:=QO hlen hl vA vB rU Aq Ar;simpa[ot]using h
end Go.Proofs.YtdjoomkeehihmaaGreat
namespace Go.Proofs.YtdjoomkeehihmaaGreat
open Go Go.FW Go.RowKit Go.Shelf Go.Maps
theorem Cy{w:World}{X:Nat->Prop}{e:Nat}{xs:List PV}{v:Value}(h:Qu w X (.sl e xs) v):∃a c,v= .slice a xs.length c:=by
 generalize hY:PV.sl e xs=Y at h;cases h with
 |gH _ a cap=>cases hY;exact⟨_,_,rfl⟩
 |sl _ _ b off cap=>cases hY;exact⟨_,_,rfl⟩
 |_=>cases hY
abbrev aB:=List Tm×List (List Tm)
abbrev PV.em(x:aB):PV:=.agg [PV.aj x.1,PV.bZ x.2]
abbrev PV.cd(l:List aB):PV:=.sl 2 (l.map PV.em)
abbrev oS:Value:=.agg #[.slice none 0 0,.slice none 0 0]
def RZ(v:Value):Option (DataW Value×List MemPlace):=some (.held v,[])
theorem MD:Keyed Tryz.prog 3:=int_keyed Tryz.underlying3
def ur(W:World)(X:Nat->Prop):Option aB->Value->Prop
 |none,v=>v=oS
 |some e,v=>∃u1 u2,v= .agg #[u1,u2]/\Qu W X (PV.aj e.1) u1/\Qu W X (PV.bZ e.2) u2
theorem ur.mono{w w':World}{X X':Nat->Prop}{p:Option aB}{v:Value}(h:ur w X p v)
  (hb:∀b,b<w.heap.size->¬X b->w'.heap[b]? =w.heap[b]?) (hx:∀b,b<w.heap.size->¬X b->¬X' b) (hs:w.heap.size<=w'.heap.size):ur w' X' p v:=by
 cases p with
 |none=>exact h
 |some e=>obtain⟨u1,u2,rfl,h1,h2⟩:=h;exact⟨u1,u2,rfl,h1.mono hb hx hs,h2.mono hb hx hs⟩
inductive jd(v:Nat):List aB->List aB->Option aB->Nat->Prop
 |none (L:List aB) (at_:Int):Qc Tryz.prog 28 [PV.cd L,.int .i64 v] (· = .au [.int .i64 at_,.int .i64 0])->jd v L L none 0
 |one (L:List aB) (i:Nat) (h:i<L.length):Qc Tryz.prog 28 [PV.cd L,.int .i64 v] (· = .au [.int .i64 i,.int .i64 1])->jd v L L (some L[i]) 0
 | more (L L1 L2:List aB) (at_ n:Int) (k:Option aB) (m:Nat):Qc Tryz.prog 28 [PV.cd L,.int .i64 v] (· = .au [.int .i64 at_,.int .i64 n])->2<=n->
   Qc Tryz.prog 29 [PV.cd L,.int .i64 at_,.int .i64 v] (· = .au [PV.cd L1,.int .i64 0])->jd v L1 L2 k m->jd v L L2 k (m+1)
inductive nD(v:Nat)(e:Int):List aB->Nat->Prop
 | fail (L:List aB) (at_ n:Int):Qc Tryz.prog 28 [PV.cd L,.int .i64 v] (· = .au [.int .i64 at_,.int .i64 n])->2<=n->e≠0->
   Qc Tryz.prog 29 [PV.cd L,.int .i64 at_,.int .i64 v] (· = .au [PV.cd [],.int .i64 e])->nD v e L 0
 | more (L L1:List aB) (at_ n:Int) (m:Nat):Qc Tryz.prog 28 [PV.cd L,.int .i64 v] (· = .au [.int .i64 at_,.int .i64 n])->2<=n->
   Qc Tryz.prog 29 [PV.cd L,.int .i64 at_,.int .i64 v] (· = .au [PV.cd L1,.int .i64 0])->nD v e L1 m->nD v e L (m+1)
def MU(F:Option (Nat×Int))(K:Nat->Option aB):PV:=
 match F with
 |none=>.au [PV.cd ((List.range 64).filterMap K),.int .i64 0]
 |some p=>.au [PV.cd [],.int .i64 p.2]
structure lu(X:Nat->Prop)(B:Nat)(K:Nat->Option aB)(g:Nat)(W0 W:World):Prop where
 ex:Ext (fun b=>b=B) W0 W
 mp:∃D n,n+g<=64/\W.ownsMap Tryz.prog 3 RZ B n D/\IsMap D/\∀u,u<64->∃val,D.atKey (.int .i64 (u:Nat)) (.held oS)= .held val/\ur W (fun b=>X b∨b=B) (if g<=u then K u else none) val
theorem zA{w:World}{X:Nat->Prop}{a b:Int}{v:Value}(h:dB w X (.au [.int .i64 a,.int .i64 b]) v):v= .tuple #[.int .i64 a,.int .i64 b]:=by
 obtain⟨vs,rfl,gF,hr⟩:=h;obtain⟨x,y,rfl⟩:∃x y,vs= #[x,y]:=by
  obtain⟨l⟩:=vs
  match l,gF with
  | [x,y],_=>exact⟨x,y,rfl⟩
 have h0:Qu w X (.int .i64 a) x:=hr 0 _ rfl;have h1:Qu w X (.int .i64 b) y:=hr 1 _ rfl;cases h0;cases h1;rfl
theorem Ht{w:World}{X:Nat->Prop}{L:List aB}{b:Int}{v:Value}(h:dB w X (.au [PV.cd L,.int .i64 b]) v):∃vl,v= .tuple #[vl,.int .i64 b]/\Qu w X (PV.cd L) vl:=by
 obtain⟨vs,rfl,gF,hr⟩:=h;obtain⟨x,y,rfl⟩:∃x y,vs= #[x,y]:=by
  obtain⟨l⟩:=vs
  match l,gF with
  | [x,y],_=>exact⟨x,y,rfl⟩
 have h0:Qu w X (PV.cd L) x:=hr 0 _ rfl;have h1:Qu w X (.int .i64 b) y:=hr 1 _ rfl;cases h1;exact⟨x,rfl,h0⟩
theorem lu.ext{X:Nat->Prop}{B:Nat}{K:Nat->Option aB}{g:Nat}{W0 W W':World}(h:lu X B K g W0 W)(hE:Ext bO W W'):lu X B K g W0 W':=by obtain⟨D,n,hn,hm,hi,hu⟩:=h.mp;refine⟨h.ex.trans' hE (fun i hi h=>h.elim),D,n,hn,hm.kept (row:=none) ⟨hE.os,hE.tape,hE.output,hE.size,fun k hk _=>hE.block k hk id⟩ (by simp),hi,fun u iV=>?_⟩;obtain⟨val,h1,h2⟩:=hu u iV;exact⟨val,h1,h2.mono (fun b hb _=>hE.block b hb id) (fun b _ h=>h) hE.size⟩
theorem lu.skip{X:Nat->Prop}{B:Nat}{K:Nat->Option aB}{g:Nat}{W0 W:World}(h:lu X B K (g+1) W0 W)(hK:K g=none):lu X B K g W0 W:=by
 obtain⟨D,n,hn,hm,hi,hu⟩:=h.mp;refine⟨h.ex,D,n,by omega,hm,hi,fun u iV=>?_⟩;obtain⟨val,h1,h2⟩:=hu u iV;refine⟨val,h1,?_⟩;by_cases e:u=g
 ·subst e;rw[if_neg (by omega)]at h2;rw[if_pos (Kac _),hK];exact h2
 ·by_cases e2:g<=u
  ·rw[if_pos e2];rwa[if_pos (by omega)]at h2
  ·rw[if_neg e2];rwa[if_neg (by omega)]at h2
theorem lu.put{X:Nat->Prop}{B:Nat}{K:Nat->Option aB}{g:Nat}{W0 W W':World}(h:lu X B K (g+1) W0 W){x:aB}(hK:K g=some x){D:DataW Value}{n:Nat}(hn:n+(g+1)<=64)
  (hi:IsMap D) (hu:∀u,u<64->∃val,D.atKey (.int .i64 (u:Nat)) (.held oS)= .held val/\ur W (fun b=>X b∨b=B) (if g+1<=u then K u else none) val) {u1 u2:Value}
  (h1:Qu W (fun b=>X b∨b=B) (PV.aj x.1) u1) (h2:Qu W (fun b=>X b∨b=B) (PV.bZ x.2) u2)
  (hm:W'.ownsMap Tryz.prog 3 RZ B (n+1) (D.put (.int .i64 (g:Nat)) (.held (.agg #[u1,u2])))) (hg:W.grownBy W' (some B)):lu X B K g W0 W':=by
 have hE:Ext (fun b=>b=B) W W':=⟨hg.os,hg.tape,hg.output,hg.size,fun b hb hn=>hg.block b hb (by simpa using hn)⟩
 refine⟨h.ex.trans hE,_,n+1,by omega,hm,hi.put _ _,fun u iV=>?_⟩;by_cases e:u=g
 ·subst e;refine⟨_,atKey_put_same hi (by trivial) _ _,?_⟩;rw[if_pos (Kac _),hK];exact⟨u1,u2,rfl,h1.mono (fun b hb hn=>hE.block b hb (fun e=>hn (.inr e))) (fun _ _ h=>h) hE.size,h2.mono (fun b hb hn=>hE.block b hb (fun e=>hn (.inr e))) (fun _ _ h=>h) hE.size⟩
 ·obtain⟨val,e1,e2⟩:=hu u iV;refine⟨val,by rw[atKey_put_other (fun h=>e (by injection h with _ h;omega))];exact e1,?_⟩;have e3:=e2.mono (w':=W') (X':=fun b=>X b∨b=B) (fun b hb hn=>hE.block b hb (fun e=>hn (.inr e))) (fun _ _ h=>h) hE.size;by_cases e4:g<=u
  ·rw[if_pos e4];rwa[if_pos (by omega)]at e3
  ·rw[if_neg e4];rwa[if_neg (by omega)]at e3
theorem P3(w:World):(zeroValue 34).run Tryz.prog w= .ok oS w:=by kernel_rfl
theorem aj1:(Tryz.prog.info? 34).map (fun i=>(i.zero,i.size,i.bytes))=some (some oS,2,48):=by kernel_rfl
theorem P9{P:Program}(w:World){ops:Array Oper}{rest:List Oper}{o:Oper}{a:Act}{Q:Exit->Act->World->Prop}
  (hg:o.guard=none) (m x:Operand) (t:TypeId) (hop:o.op=Op.lookup t m x false)
  (k e:TypeId) (K:Keyed P k) (ht:P.underlying t=some (.map k e)) (z:Value) (hz:(zeroValue e).run P w= .ok z w) (b n:Nat) (D:DataW Value)
  (hm:a.eval m= .map (some b)) (bk:w.ownsMap P k RZ b n D) (key:Value) (kl:Lit) (hx:a.eval x=key) (tU:keyOf P k key=some kl) (val:Value) (bP:D.atKey kl (.held z)= .held val)
  (hK:wpList P ops Q rest (a.put o.dst val) w):
  wpList P ops Q (o::rest) a w:=by
 refine wpList_plain hg fun K' hK'=>?_;obtain⟨v,ps,bm,hv⟩:=bk.lookup (e:=e) K ht hz (zd:=.held z) (zp:=[]) rfl tU;obtain rfl:v=val:=by rw[bP]at hv;simp only[RZ,KaB,KcN,DataW.held.injEq]at hv;exact hv.1
 unfold Oper.wp;simp[execOp,hop,hm,hx,bm,Result.andThen];exact hK' _ _ hK
theorem Xd(w:World)(x y:Value)(t:TypeId){g:Nat}(hg:g=w.heap.size):∀j u,[x,y][j]? =some u->(w.alloc (.cells #[x,y] t)).cell? ((⟨g,0,none⟩:Addr).add j)=some u:=by
 intro j u hj;subst hg;have hn:=World.alloc_heap_new w (.cells #[x,y] t)
 match j,hj with
 |0,hj=>simp at hj;subst hj;rw[Kby];simp only[World.cell?,hn];rfl
 |1,hj=>simp at hj;subst hj;rw[Kby];simp only[World.cell?,hn];rfl
 |j+2,hj=>simp at hj
theorem aa0{a1 a2:Option Addr}{n1 n2 c1 c2:Nat}:∀u∈[Value.slice a1 n1 c1,.slice a2 n2 c2],u.oneCell'=true:=fun u hu=>by simp at hu;rcases hu with rfl|rfl<;>rfl
def iJ(K:Nat->Option aB)(j:Nat):List aB:=(List.range j).filterMap K
theorem Tt(K:Nat->Option aB)(j:Nat):iJ K (j+1)=iJ K j++(K j).toList:=by unfold iJ;rw[KbZ,KcM];cases h:K j<;>simp[h]
theorem acT(K:Nat->Option aB)(j:Nat):(iJ K j).length<=j:=by unfold iJ;exact Kay (Kcb _ _) (by simp)
set_option maxHeartbeats 2000000 in
theorem YV {list:List (List Tm)} {Ls:Nat->List aB} {K:Nat->Option aB} {F:Option (Nat×Int)} (aF:Qc Tryz.prog 27 [PV.bZ list] (· = .au [PV.cd (Ls 64),.int .i64 0]))
  (hT:∀v,v<64->(∀p,F=some p->p.1<v)->∃m,jd v (Ls (v+1)) (Ls v) (K v) m) (hF:∀p,F=some p->p.1<64/\∃m,nD p.1 p.2 (Ls (p.1+1)) m) (hK:∀v e,K v=some e->0<e.1.length) {vp:Value} {W:World} (X:Nat->Prop) (hX:∀b,X b->b<W.heap.size) (hp:Qu W X (PV.bZ list) vp):
  Calls Tryz.prog 8 #[vp] W fun e w'=>∃v,e= .returned v/\Ext bO W w'/\dB w' X (MU F K) v:=by
 have tW:= @run_makeMap Tryz.prog;have K8:=aF.2 W X #[vp] hX rfl (fun i x hx=>by
  match i,hx with
  |0,hx=>simp at hx;subst hx;exact hp
  |i+1,hx=>simp at hx)
 go_enter Tryz.func8,Tryz.ntmps8
 go_wp2
 go_step3
 go_wp2_with (first|(go_at_call 27;refine K8.mono ?_))
 rintro e w1 ⟨v,r,rfl,fi,cK,rfl⟩;obtain⟨vs,rfl,gF,hr⟩:=cK;obtain⟨vl,ve,rfl⟩:∃vl ve,vs= #[vl,ve]:=by
  obtain⟨l⟩:=vs
  match l,gF with
  | [x,y],_=>exact⟨x,y,rfl⟩
 have hl:Qu w1 X (PV.cd (Ls 64)) vl:=hr 0 _ rfl;have Mv:Qu w1 X (.int .i64 0) ve:=hr 1 _ rfl;cases Mv;dsimp only
 go_wp2
 go_step3
 go_wp2
 clear tW;have Mr:=fi.size;have Lz:∀b,X b->b<w1.heap.size:=fun b hb=>KaK (hX b hb) Mr;have nN:Ext bO w1 (w1.alloc (.map #[] 0)):=Ext.tB _ _ _;have gh:Qu (w1.alloc (.map #[] 0)) (fun b=>X b∨b=w1.heap.size) (PV.cd (Ls 64)) vl:=hl.mono (fun b hb _=>nN.block b hb id) (fun b hb h h'=>h'.elim h (fun h=>by omega)) nN.size;have hM0:lu X w1.heap.size K 64 (w1.alloc (.map #[] 0)) (w1.alloc (.map #[] 0)):=
  ⟨Ext.refl _ _,.map [],0,by omega,World.ownsMap_made _ _ _ _,isMap_empty,fun u hu=>⟨oS,rfl,by rw[if_neg (by omega)];rfl⟩⟩
 have HT:Aside (∀v,v<64->(∀p,F=some p->p.1<v)->∃m,jd v (Ls (v+1)) (Ls v) (K v) m):=hT;have HF:Aside (∀p,F=some p->p.1<64/\∃m,nD p.1 p.2 (Ls (p.1+1)) m):=hF;have WI:Aside (∀p,F=some p->p.1<64):=fun p h=>(hF p h).1;have HK:Aside (∀v e,K v=some e->0<e.1.length):=hK;have HS:Aside (Qu w1 X (PV.cd (Ls 64)) vl):=hl;clear hT hF hK hl;generalize Ux:w1.alloc (.map #[] 0)=Wm at *
 have eY:w1.heap.size<Wm.heap.size:=by rw[<-Ux];simp
 clear Ux
 go_loopg [4,7] 64 (fun g s4 s7 wx=>∃v:Int,s7= .int .i64 v/\v=(g:Int)-1/\g<=64/\Qu wx (fun b=>X b∨b=w1.heap.size) (PV.cd (Ls g)) s4/\lu X w1.heap.size K g Wm wx/\Aside (∀p,F=some p->p.1<g))
 case atStart=>exact⟨63,rfl,rfl,Kac _,gh,hM0,WI⟩
 case round=>
  obtain⟨v,rfl,hv,hg,hl,hM,M9⟩:=hrel;cases gk with
  | zero =>
   have hFn:F=none:=by
    cases hf:F with
    |none=>rfl
    |some p=>exact absurd (M9.out p hf) (by omega)
   subst hFn;obtain rfl:v= -1:=by simpa using hv
   clear hv
   go_wp2
   obtain⟨D,n,hn,AU,Ui,Ee⟩:=hM.mp;have HD:Aside (∀u,u<64->∃val,D.atKey (.int .i64 (u:Nat)) (.held oS)= .held val/\ur wr (fun b=>X b∨b=w1.heap.size) (K u) val):=fun u hu=>by obtain⟨val,h1,h2⟩:=Ee u hu;exact⟨val,h1,by rwa[if_pos (Kbw _)]at h2⟩
   clear Ee;obtain⟨W2,tJ⟩:∃W2,W2=wr:=⟨_,rfl⟩
   subst tJ;have HM:Aside (lu X w1.heap.size K 0 Wm W2):=hM;have HE:Aside (Ext bO W w1/\Ext bO w1 Wm/\Ext (fun b=>b=w1.heap.size) Wm W2):=⟨fi,nN,hM.ex⟩
   clear hM
   go_loopg [10,52] 64 (fun g s10 s52 wx=>∃(j:Nat)(vs:List Value),j+g=64/\s52= .int .i64 (j:Nat)/\Ext bO W2 wx/\wx.ownsRow W2.heap.size 34 2 s10 (iJ K j).length vs/\
    Aside (∀k (h:k<(iJ K j).length),Qu W2 (fun b=>X b∨b=w1.heap.size) (PV.aj (iJ K j)[k].1) (vs.getD (k*2) undef)/\Qu W2 (fun b=>X b∨b=w1.heap.size) (PV.bZ (iJ K j)[k].2) (vs.getD (k*2+1) undef)))
   case atStart=>exact⟨0,[],rfl,rfl,Ext.refl _ _,World.ownsRow_nil _ _ _ _,fun k h=>by simp[iJ]at h⟩
   case round=>
    obtain⟨j,vs,hj,rfl,nP,fL,HR⟩:=hrel;cases gk with
    | zero=>
     obtain rfl:j=64:=by omega
     go_wp2
     have hX6:∀b,u10.ownBlock=some b->¬X b:=fun b hb hx=>by have h1:=(fL.lt b hb).1;have h2:=Lz b hx;have h3:=HE.out.2.2.size;omega
     have dq:Qu wr X (PV.cd (iJ K 64)) u10:=by
      refine abu fL (by simp) hX6 (fun p hp=>by obtain⟨y,_,rfl⟩:=KaI.1 hp;rfl) (fun k hk c y hy=>?_);have mV:k<(iJ K 64).length:=by simpa using hk
      obtain⟨r1,r2⟩:=HR.out k mV;rw[KcB]at hy
      match c,hy with
      |0,hy=>cases hy;exact r1.mono (fun b hb _=>nP.block b hb id) (fun b _ h h'=>h (.inl h')) nP.size
      |1,hy=>cases hy;exact r2.mono (fun b hb _=>nP.block b hb id) (fun b _ h h'=>h (.inl h')) nP.size
      |c+2,hy=>simp[PV.cells]at hy
     refine bodyPost_ret (by simp[results,go_sem];rfl) rfl ⟨_,rfl,?_,_,rfl,rfl,fun k x hk=>?_⟩
     ·exact((HE.out.1.trans HE.out.2.1).trans' HE.out.2.2 (fun i hi h=>by have:=Mr;omega)).trans nP
     ·match k,hk with
      |0,hk=>cases hk;exact dq
      |1,hk=>cases hk;exact .int _ _
      |k+2,hk=>simp at hk
    | succ g=>
     have d0:(j:Int)<64:=by omega
     obtain⟨val,bP,Ll⟩:=HD.out j (by omega);have Vj:wr.ownsMap Tryz.prog 3 RZ w1.heap.size n D:=AU.kept (row:=none) ⟨nP.os,nP.tape,nP.output,nP.size,fun k hk _=>nP.block k hk id⟩ (by simp);have tU:keyOf Tryz.prog 3 (.int .i64 (j:Nat))=some (.int .i64 (j:Nat)):=keyOf_int_mk Tryz.underlying3 (WalkArith.wf_i64 (by omega));generalize Lq:K j=kj at Ll;cases kj with
     | none=>
      obtain rfl:val=oS:=Ll
      go_wp2_with (first
       |(at_lookup;refine P9 _ rfl _ _ 63 rfl 3 34 MD Tryz.underlying63 oS (P3 _) w1.heap.size n D rfl Vj _ _ rfl tU _ bP ?_))
      have ho:iJ K (j+1)=iJ K j:=by rw[Tt,Lq];simp
      go_roundg g
      case measure=>omega
      case rel=>
       refine⟨j+1,vs,by omega,by first|rfl|simp,nP.trans (Ext.tB _ _ _),?_,?_⟩
       ·rw[ho];exact fL.alloc _
       ·rw[ho];exact HR
     | some x=>
      obtain⟨y1,y2,rfl,MY,MZ⟩:=Ll;have bp:=HK.out j x Lq;obtain⟨a1,c1,rfl⟩:=Cy MY;obtain⟨a2,c2,rfl⟩:=Cy MZ;rw[show(x.1.map PV.term).length=x.1.length from KaV ..]at bP MY;rw[show(x.2.map PV.aj).length=x.2.length from KaV ..]at bP MZ;have d1:(0:Int)<(x.1.length:Int):=by omega
      have ho:iJ K (j+1)=iJ K j++[x]:=by rw[Tt,Lq];simp
      have fy:=acT K j;obtain⟨i0,pE,z0,z1,z2⟩:=info_parts aj1;have LI:W2.heap.size<=wr.heap.size:=nP.size
      go_wp2_with (first
       |(at_lookup;refine P9 _ rfl _ _ 63 rfl 3 34 MD Tryz.underlying63 oS (P3 _) w1.heap.size n D rfl Vj _ _ rfl tU _ bP ?_)
       |(at_builtin;refine wpList_append_own_at _ rfl _ _ 25 rfl W2.heap.size 34 i0 oS 2 48 Tryz.underlying25 pE z0 z1 z2 rfl (by decide) _ _ _ rfl ((fL.alloc _).alloc _) ⟨wr.heap.size+1,0,none⟩ 1 1 [.slice a1 x.1.length c1,.slice a2 x.2.length c2] rfl rfl (Xd _ _ _ _ (by simp)) aa0 (by unfold maxLen;omega) (by omega) (by simp;omega) ?_;intro v' w3 anS AN EJ apY))
      have xO:Ext bO W2 w3:=by
       have e1:Ext bO W2 ((wr.alloc (.cells #[.slice a1 x.1.length c1,.slice a2 x.2.length c2] 34)).alloc (.cells #[.slice a1 x.1.length c1,.slice a2 x.2.length c2] 34)):=nP.trans ((Ext.tB _ _ _).trans (Ext.tB _ _ _));have e2:Ext (fun b=>W2.heap.size<=b) ((wr.alloc (.cells #[.slice a1 x.1.length c1,.slice a2 x.2.length c2] 34)).alloc (.cells #[.slice a1 x.1.length c1,.slice a2 x.2.length c2] 34)) w3:=
        ⟨AN.os,AN.tape,AN.output,AN.size,fun b hb hn=>AN.block b hb (fun e=>hn ((fL.lt b e.symm).1))⟩
       exact e1.trans' e2 (fun i hi h=>by omega)
      go_roundg g
      case measure=>omega
      case rel=>
       refine⟨j+1,vs++[.slice a1 x.1.length c1,.slice a2 x.2.length c2],by omega,by first|rfl|simp,xO,?_,?_⟩
       ·rw[ho,Kap];exact anS
       ·rw[ho];intro k hk;have jU:vs.length=(iJ K j).length*2:=fL.1;rw[Kap,List.length_singleton]at hk;by_cases e:k<(iJ K j).length
        ·rw[Kcv e,Kao,Kao,Kb7 (by omega),Kb7 (by omega),<-List.getD_eq_getElem?_getD,<-List.getD_eq_getElem?_getD];exact HR.out k e
        ·obtain rfl:k=(iJ K j).length:=by omega
         rw[List.getElem_append_right (Kac _),Kao,Kao,Kck (by omega),Kck (by omega)];simp only[KbP,List.getElem_cons_zero,jU,show(iJ K j).length*2+1-(iJ K j).length*2=1 by omega];exact⟨MY,MZ⟩
  | succ g=>
   obtain rfl:v=(g:Int):=by omega
   clear hv;by_cases xQ:∃e,F=some (g,e)
   ·obtain⟨er,rfl⟩:=xQ;obtain⟨-,m,Uw⟩:=HF.out (g,er) rfl;have M8:Aside (Ext bO W w1/\Ext bO w1 Wm):=⟨fi,nN⟩
    go_wp2
    have WK:Aside (nD g er (Ls (g+1)) m):=Uw;clear Uw
    go_loopg [4] m (fun k s4 wx=>∃L,Aside (nD g er L k)/\Qu wx (fun b=>X b∨b=w1.heap.size) (PV.cd L) s4/\lu X w1.heap.size K (g+1) Wm wx)
    case atStart=>exact⟨_,WK,hl,hM⟩
    case round=>
     obtain⟨L,HL,mW,hM⟩:=hrel;have pk:∀b,(X b∨b=w1.heap.size)->b<wr.heap.size:=fun b hb=>hb.elim (fun h=>by have:=Lz b h;have:=hM.ex.size;omega) (fun h=>by have:=hM.ex.size;omega);generalize xY:gk=k at *
     have HL:=HL.out;cases HL with
     | fail _ at_ n nS h2 vL Av=>
      have cL:=nS.2 wr _ #[u4,.int .i64 (g:Nat)] pk rfl (fun i x hx=>by
       match i,hx with
       |0,hx=>simp at hx;subst hx;exact mW
       |1,hx=>simp at hx;subst hx;exact .int _ _
       |i+2,hx=>simp at hx)
      have cR:=fun w2 (hE:Ext bO wr w2)=>Av.2 w2 _ #[u4,.int .i64 at_,.int .i64 (g:Nat)] (fun b hb=>KaK (pk b hb) hE.size) rfl (fun i x hx=>by
       match i,hx with
       |0,hx=>simp at hx;subst hx;exact aY.mono (p:=PV.cd L) mW (fun b hb _=>hE.block b hb id) (fun _ _ h=>h) hE.size
       |1,hx=>simp at hx;subst hx;exact .int _ _
       |2,hx=>simp at hx;subst hx;exact .int _ _
       |i+3,hx=>simp at hx)
      have qP:¬n<2:=by omega
      go_wp2_with (first|(go_at_call 28;refine cL.mono ?_;rintro e w2 ⟨v,r,rfl,fi,cK,rfl⟩;obtain rfl:=zA cK)|(go_at_call 29;refine(cR _ fi).mono ?_;rintro e w3 ⟨v,r,rfl,nN,Ba,rfl⟩;obtain⟨WG,rfl,gh⟩:=Ht Ba))
      rw[Exit.noGoto_ret];refine bodyPost_ret (by simp[results,go_sem];rfl) rfl ⟨_,rfl,?_,_,rfl,rfl,fun k x hk=>?_⟩
      ·exact((M8.out.1.trans M8.out.2).trans' hM.ex (fun i hi h=>by have:=Mr;omega)).trans (fi.trans nN)
      ·match k,hk with
       |0,hk=>cases hk;exact Qu.gH _ none 0 (Kbw _)
       |1,hk=>cases hk;exact .int _ _
       |k+2,hk=>simp at hk
     | more _ L1 at_ n m nS h2 Av vC=>
      have cL:=nS.2 wr _ #[u4,.int .i64 (g:Nat)] pk rfl (fun i x hx=>by
       match i,hx with
       |0,hx=>simp at hx;subst hx;exact mW
       |1,hx=>simp at hx;subst hx;exact .int _ _
       |i+2,hx=>simp at hx)
      have cR:=fun w2 (hE:Ext bO wr w2)=>Av.2 w2 _ #[u4,.int .i64 at_,.int .i64 (g:Nat)] (fun b hb=>KaK (pk b hb) hE.size) rfl (fun i x hx=>by
       match i,hx with
       |0,hx=>simp at hx;subst hx;exact aY.mono (p:=PV.cd L) mW (fun b hb _=>hE.block b hb id) (fun _ _ h=>h) hE.size
       |1,hx=>simp at hx;subst hx;exact .int _ _
       |2,hx=>simp at hx;subst hx;exact .int _ _
       |i+3,hx=>simp at hx)
      have qP:¬n<2:=by omega
      have Fp:Aside (nD g er L1 m):=vC;clear vC
      go_wp2_with (first|(go_at_call 28;refine cL.mono ?_;rintro e w2 ⟨v,r,rfl,fi,cK,rfl⟩;obtain rfl:=zA cK)|(go_at_call 29;refine(cR _ fi).mono ?_;rintro e w3 ⟨v,r,rfl,nN,Ba,rfl⟩;obtain⟨WG,rfl,gh⟩:=Ht Ba))
      go_roundg m
      case measure=>omega
      case rel=>exact⟨L1,Fp,gh,(hM.ext fi).ext nN⟩
   have Fo:Aside (∀p,F=some p->p.1<g):=fun p hp=>by have h1:=M9.out p hp;have h2:p.1≠g:=fun h=>xQ ⟨p.2,by rw[hp,<-h]⟩;omega
   clear xQ;obtain⟨m,Uv⟩:=HT.out g (by omega) Fo.out
   go_wp2
   have WJ:Aside (jd g (Ls (g+1)) (Ls g) (K g) m):=Uv;clear Uv
   go_loopg [4] m (fun k s4 wx=>∃L,Aside (jd g L (Ls g) (K g) k)/\Qu wx (fun b=>X b∨b=w1.heap.size) (PV.cd L) s4/\lu X w1.heap.size K (g+1) Wm wx)
   case atStart=>exact⟨_,WJ,hl,hM⟩
   case round=>
    obtain⟨L,HL,mW,hM⟩:=hrel;have pk:∀b,(X b∨b=w1.heap.size)->b<wr.heap.size:=fun b hb=>hb.elim (fun h=>by have:=Lz b h;have:=hM.ex.size;omega) (fun h=>by have:=hM.ex.size;omega);generalize xY:gk=k at *
    have HL:=HL.out;generalize Ei:K g=kg at HL;generalize rU:Ls g=lg at HL;cases HL with
    | none _ at_ nS=>
     have cL:=nS.2 wr _ #[u4,.int .i64 (g:Nat)] pk rfl (fun i x hx=>by
      match i,hx with
      |0,hx=>simp at hx;subst hx;exact mW
      |1,hx=>simp at hx;subst hx;exact .int _ _
      |i+2,hx=>simp at hx)
     go_wp2_with (first|(go_at_call 28;refine cL.mono ?_;rintro e w2 ⟨v,r,rfl,fi,cK,rfl⟩;obtain rfl:=zA cK))
     go_roundg g
     case measure=>omega
     case rel=>
      subst rU;exact⟨(g:Int)-1,rfl,rfl,by omega,mW.mono (fun b hb _=>fi.block b hb id) (fun _ _ h=>h) fi.size,(hM.skip Ei).ext fi,Fo⟩
    | one _ i hi nS=>
     have cL:=nS.2 wr _ #[u4,.int .i64 (g:Nat)] pk rfl (fun i x hx=>by
      match i,hx with
      |0,hx=>simp at hx;subst hx;exact mW
      |1,hx=>simp at hx;subst hx;exact .int _ _
      |i+2,hx=>simp at hx)
     obtain⟨b,off,cap,x1,x2,rfl,Lc,Ld,MW,MX,Eo,qF⟩:=mW.Ag (i:=i) (by simpa using hi) (by rw[KcB]);obtain⟨a1,c1,rfl⟩:=Cy MW;obtain⟨a2,c2,rfl⟩:=Cy MX;have d1:(i:Int)<(L.length:Int):=by omega
     rw[KaV]at cL;have d2:(0:Int)<=(i:Int):=by omega
     have tU:keyOf Tryz.prog 3 (.int .i64 (g:Nat))=some (.int .i64 (g:Nat)):=keyOf_int_mk Tryz.underlying3 (WalkArith.wf_i64 (by omega));have key:∀w2,Ext bO wr w2->∃D n,n+(g+1)<=64/\w2.ownsMap Tryz.prog 3 RZ w1.heap.size n D/\Aside (IsMap D/\∀u,u<64->∃val,D.atKey (.int .i64 (u:Nat)) (.held oS)= .held val/\ur w2 (fun b=>X b∨b=w1.heap.size) (if g+1<=u then K u else none) val)/\
       w2.cell? ⟨b,off+i*2,none⟩=some (.slice a1 (L[i].1.map PV.term).length c1)/\w2.cell? ⟨b,off+i*2+1,none⟩=some (.slice a2 (L[i].2.map PV.aj).length c2):=fun w2 hE=>by
      obtain⟨D,n,hn,AU,Ui,Ee⟩:=(hM.ext hE).mp;exact⟨D,n,hn,AU,⟨Ui,Ee⟩,(World.cell?_of_block (w:=wr) (w':=w2) (a:=⟨b,off+i*2,none⟩) (hE.block b qF id)).trans Lc,(World.cell?_of_block (w:=wr) (w':=w2) (a:=⟨b,off+i*2+1,none⟩) (hE.block b qF id)).trans Ld⟩
     clear Lc Ld
     go_wp2_with (first
      |(go_at_call 28;refine cL.mono ?_;rintro e w2 ⟨v,r,rfl,fi,cK,rfl⟩;obtain rfl:=zA cK;obtain⟨D,n,hn,AU,HD,Lc,Ld⟩:=key w2 fi)
      |(at_mapUpdate;refine wpList_mapUpdate_own _ rfl _ _ _ 63 rfl 3 34 MD Tryz.underlying63 RZ w1.heap.size n D rfl AU (by unfold maxLen;omega) _ _ _ rfl rfl tU _ [] rfl ?_;intro w3 anT xZ))
     have xO:Ext (fun b=>b=w1.heap.size) wr w3:=(fi.mono (fun _ _ h=>h.elim)).trans ⟨xZ.os,xZ.tape,xZ.output,xZ.size,fun b hb hn=>xZ.block b hb (by simpa using hn)⟩;have AR:Qu w3 (fun b=>X b∨b=w1.heap.size) (PV.cd L) (.slice (some ⟨b,off,none⟩) L.length cap):=by rw[KaV]at mW;exact mW.mono (fun b hb hn=>xO.block b hb (fun e=>hn (.inr e))) (fun _ _ h=>h) xO.size
     have ET:Qu w2 (fun b=>X b∨b=w1.heap.size) (PV.aj L[i].1) (.slice a1 L[i].1.length c1):=by rw[show(L[i].1.map PV.term).length=L[i].1.length from KaV ..]at MW;exact MW.mono (fun b hb _=>fi.block b hb id) (fun _ _ h=>h) fi.size
     have lX:Qu w2 (fun b=>X b∨b=w1.heap.size) (PV.bZ L[i].2) (.slice a2 L[i].2.length c2):=by rw[show(L[i].2.map PV.aj).length=L[i].2.length from KaV ..]at MX;exact MX.mono (fun b hb _=>fi.block b hb id) (fun _ _ h=>h) fi.size
     go_roundg g
     case measure=>omega
     case rel=>
      subst rU;exact⟨(g:Int)-1,rfl,rfl,by omega,AR,lu.put (hM.ext fi) Ei hn HD.out.1 HD.out.2 ET lX anT xZ,Fo⟩
    | more _ L1 _ at_ n _ m nS h2 Av vC=>
     have cL:=nS.2 wr _ #[u4,.int .i64 (g:Nat)] pk rfl (fun i x hx=>by
      match i,hx with
      |0,hx=>simp at hx;subst hx;exact mW
      |1,hx=>simp at hx;subst hx;exact .int _ _
      |i+2,hx=>simp at hx)
     have cR:=fun w2 (hE:Ext bO wr w2)=>Av.2 w2 _ #[u4,.int .i64 at_,.int .i64 (g:Nat)] (fun b hb=>KaK (pk b hb) hE.size) rfl (fun i x hx=>by
      match i,hx with
      |0,hx=>simp at hx;subst hx;exact aY.mono (p:=PV.cd L) mW (fun b hb _=>hE.block b hb id) (fun _ _ h=>h) hE.size
      |1,hx=>simp at hx;subst hx;exact .int _ _
      |2,hx=>simp at hx;subst hx;exact .int _ _
      |i+3,hx=>simp at hx)
     have qP:¬n<2:=by omega
     have Fp:Aside (jd g L1 lg kg m):=vC;clear vC
     go_wp2_with (first|(go_at_call 28;refine cL.mono ?_;rintro e w2 ⟨v,r,rfl,fi,cK,rfl⟩;obtain rfl:=zA cK)|(go_at_call 29;refine(cR _ fi).mono ?_;rintro e w3 ⟨v,r,rfl,nN,Ba,rfl⟩;obtain⟨WG,rfl,gh⟩:=Ht Ba))
     go_roundg m
     case measure=>omega
     case rel=>
      subst rU Ei;exact⟨L1,Fp,gh,(hM.ext fi).ext nN⟩
theorem OT{list:List (List Tm)}{Ls:Nat->List aB}{K:Nat->Option aB}{F:Option (Nat×Int)}(aF:Qc Tryz.prog 27 [PV.bZ list] (· = .au [PV.cd (Ls 64),.int .i64 0]))
  (hT:∀v,v<64->(∀p,F=some p->p.1<v)->∃m,jd v (Ls (v+1)) (Ls v) (K v) m) (hF:∀p,F=some p->p.1<64/\∃m,nD p.1 p.2 (Ls (p.1+1)) m) (hK:∀v e,K v=some e->0<e.1.length):Qc Tryz.prog 8 [PV.bZ list] (· =MU F K):=by
 refine⟨by unfold oA;kernel_rfl,fun w X bl hX hs hr=>?_⟩;obtain⟨v0,rfl⟩:∃v0,bl= #[v0]:=by
  obtain⟨l⟩:=bl
  match l,hs with
  | [x],_=>exact⟨x,rfl⟩
 refine(YV aF hT hF hK X hX (hr 0 _ rfl)).mono ?_;rintro e w' ⟨v,rfl,h1,h2⟩;exact⟨v,_,rfl,h1,h2,rfl⟩
theorem ahA{list:List (List Tm)}{Ls:Nat->List aB}{K:Nat->Option aB}(aF:Qc Tryz.prog 27 [PV.bZ list] (· = .au [PV.cd (Ls 64),.int .i64 0]))
  (hT:∀v,v<64->∃m,jd v (Ls (v+1)) (Ls v) (K v) m) (hK:∀v e,K v=some e->0<e.1.length):Qc Tryz.prog 8 [PV.bZ list] (· = .au [PV.cd ((List.range 64).filterMap K),.int .i64 0]):=
 OT (F:=none) aF (fun v hv _=>hT v hv) (fun p h=>by cases h) hK
theorem Qx1{list:List (List Tm)}{er:Int}(he:er≠0)(aF:Qc Tryz.prog 27 [PV.bZ list] (· = .au [PV.cd [],.int .i64 er])){vp:Value}{W:World}(X:Nat->Prop)(hX:∀b,X b->b<W.heap.size)(hp:Qu W X (PV.bZ list) vp):
  Calls Tryz.prog 8 #[vp] W fun e w'=>∃v,e= .returned v/\Ext bO W w'/\dB w' X (.au [PV.cd [],.int .i64 er]) v:=by
 have K8:=aF.2 W X #[vp] hX rfl (fun i x hx=>by
  match i,hx with
  |0,hx=>simp at hx;subst hx;exact hp
  |i+1,hx=>simp at hx)
 go_enter Tryz.func8,Tryz.ntmps8
 go_wp2
 go_step3
 go_wp2_with (first|(go_at_call 27;refine K8.mono ?_))
 rintro e w1 ⟨v,r,rfl,fi,cK,rfl⟩;obtain⟨vs,rfl,gF,hr⟩:=cK;obtain⟨vl,ve,rfl⟩:∃vl ve,vs= #[vl,ve]:=by
  obtain⟨l⟩:=vs
  match l,gF with
  | [x,y],_=>exact⟨x,y,rfl⟩
 have Mv:Qu w1 X (.int .i64 er) ve:=hr 1 _ rfl;cases Mv;dsimp only
 go_wp2
 rw[Exit.noGoto_ret];refine bodyPost_ret (by simp[results,go_sem];rfl) rfl ⟨_,rfl,fi,_,rfl,rfl,fun k x hk=>?_⟩
 match k,hk with
 |0,hk=>cases hk;exact Qu.gH _ none 0 (Kbw _)
 |1,hk=>cases hk;exact .int _ _
 |k+2,hk=>simp at hk
theorem YW{list:List (List Tm)}{er:Int}(he:er≠0)(aF:Qc Tryz.prog 27 [PV.bZ list] (· = .au [PV.cd [],.int .i64 er])):Qc Tryz.prog 8 [PV.bZ list] (· = .au [PV.cd [],.int .i64 er]):=by
 refine⟨by unfold oA;kernel_rfl,fun w X bl hX hs hr=>?_⟩;obtain⟨v0,rfl⟩:∃v0,bl= #[v0]:=by
  obtain⟨l⟩:=bl
  match l,hs with
  | [x],_=>exact⟨x,rfl⟩
 refine(Qx1 he aF X hX (hr 0 _ rfl)).mono ?_;rintro e w' ⟨v,rfl,h1,h2⟩;exact⟨v,_,rfl,h1,h2,rfl⟩
end Go.Proofs.YtdjoomkeehihmaaGreat
namespace Go.FW
open Go
structure bc where
 n:Bool
 a:List Nat
 d:List Nat
 m:List Int
abbrev PV.pX(t:bc):PV:=.agg [.bool t.n,PV.nat t.a,PV.nat t.d,PV.mono t.m]
abbrev PV.kG(l:List bc):PV:=.sl 4 (l.map PV.pX)
def bc.q(t:bc):Rat:=rv t.n t.a t.d
def bc.tm(t:bc):Tm:=(t.q,t.m)
structure RB(k:Nat)(t:bc):Prop where
 r:Qq t.a/\Qq t.d/\t.a.length<=k/\t.d.length<=k
 l:t.m.length<2^40
def fB(t:bc):Bool:=o8 t.n t.a t.d&&(decide (t.q≠0)&&fo t.m)
def eh:List bc->Bool
 | []=>true
 | [t]=>fB t
 |s::t::l=>fB s&&(decide (0<aR s.m t.m)&&eh (t::l))
theorem Hg:∀(l:List bc),eh l=true↔(∀i (h:i<l.length),fB l[i]=true)/\(∀i (h:i+1<l.length),0<aR l[i].m l[i+1].m)
 | []=>by simp[eh]
 | [t]=>by
  rw[eh];constructor
  ·intro h;exact⟨fun i hi=>by have:i=0:=(by simp at hi;omega);subst this;exact h,fun i hi=>by simp at hi⟩
  ·intro h;exact h.1 0 (by simp)
 | s::t::l=>by
  rw[eh,Kat,Kat,decide_eq_true_eq,Hg (t::l)];constructor
  ·rintro⟨h1,h2,h3,h4⟩;refine⟨fun i hi=>?_,fun i hi=>?_⟩
   ·cases i with
    |zero=>exact h1
    |succ i=>exact h3 i (by simpa using hi)
   ·cases i with
    |zero=>exact h2
    |succ i=>exact h4 i (by simpa using hi)
  ·rintro⟨h1,h2⟩;exact⟨h1 0 (by simp),h2 0 (by simp),fun i hi=>h1 (i+1) (by simpa using hi),fun i hi=>h2 (i+1) (by simpa using hi)⟩
theorem aa1{s:bc}{l:List bc}(h:eh (s::l)=true):fB s=true/\eh l=true:=by
 cases l with
 |nil=>exact⟨h,rfl⟩
 |cons t l=>rw[eh,Kat,Kat]at h;exact⟨h.1,h.2.2⟩
structure TV(t:Tm):Prop where
 c:t.1≠0
 m:fo t.2=true
def eR:List Tm->Prop
 | []=>True
 |s::p=>(∀t∈p,0<aR s.2 t.2)/\eR p
structure rf(p:List Tm):Prop where
 t:∀t∈p,TV t
 s:eR p
theorem acU{t:bc}{k:Nat}(hb:RB k t)(h:fB t=true):PV.pX t=PV.term t.tm/\TV t.tm:=by simp only[fB,Kat,decide_eq_true_eq]at h;obtain⟨h1,h2,h3⟩:=h;obtain⟨e1,e2,e3⟩:=acP hb.r.1 hb.r.2.1 h1;refine⟨?_,h2,h3⟩;rw[PV.pX,PV.term,bc.tm,bc.q,<-e1,PV.num,PV.num,<-e2,<-e3]
theorem wz{a b c:List Int}(h1:0<aR a b)(h2:0<aR b c):0<aR a c:=by have e1:=uO a b;have e2:=uO b c;have e3:=uO a c;have:=YS (a:=c) (b:=b) (c:=a) (by omega) (by omega);omega
theorem Tu{k:Nat}:∀ {l:List bc},(∀t∈l,RB k t)->eh l=true->PV.kG l=PV.aj (l.map bc.tm)/\rf (l.map bc.tm):=by
 intro l;induction l with
 |nil=>intro _ _;exact⟨rfl,⟨by simp,trivial⟩⟩
 | cons s l ih=>
  intro hb h;obtain⟨h1,h2⟩:=aa1 h;obtain⟨e1,v1⟩:=acU (hb s (by simp)) h1;obtain⟨e2,v2⟩:=ih (fun t ht=>hb t (by simp[ht])) h2;refine⟨?_,⟨fun t ht=>?_,?_,v2.s⟩⟩
  ·have e2':l.map PV.pX=(l.map bc.tm).map PV.term:=by injection e2
   show PV.sl 4 (PV.pX s::l.map PV.pX)=PV.sl 4 (PV.term s.tm::(l.map bc.tm).map PV.term);rw[e1,e2']
  ·simp only[Kbj,KaO]at ht;rcases ht with rfl|ht
   ·exact v1
   ·exact v2.t t ht
  ·cases l with
   |nil=>intro t ht;simp at ht
   |cons u l=>
    rw[eh,Kat,Kat,decide_eq_true_eq]at h;intro t ht;rw[Kbj]at ht v2;rcases KaO.1 ht with rfl|ht
    ·exact h.2.1
    ·exact wz h.2.1 (v2.s.1 t ht)
theorem Rw{a:List Int}(h:fo a=true):a.getLast? ≠some 0:=by simp only[fo,Kat,decide_eq_true_eq]at h;exact h.2.1
variable {C : Ctx} {ρ : Nat -> Option Nat} {fr : Fr} {hp : HP} {w : World} {K R : Qg}
theorem OU(s:Nat)(hd:(aK hp (fr s)).aD=true):Wk fr hp (af fr s (aK hp (fr s))) (FW.cb hp (fr s).refs):=by
 rintro C tmps w ⟨ρ,hs⟩;have hf:=hs.freeze (fr s).refs;refine⟨ρ,hf.sz,hf.ext,hf.gT,hf.own,hf.inj,fun i=>?_⟩;unfold af;split
 ·rename_i hi;subst hi;exact Qt.ll (qe hs (hs.eQ i) (fun β h=>h) hd)
 ·exact hf.eQ i
def u6(W:List (Nat×Nat))(F:Fr)(I:Nat->Fr->HP->Prop)(n:Nat):Qg:=fun ay an=>∃J eX m,Wk ay an (aQ W J F) eX/\m<n/\I m J eX
theorem acV{W:List (Nat×Nat)}{F:Fr}{I:Nat->Fr->HP->Prop}{n:Nat}:KM (u6 W F I n) (u6 W F I n):=by rintro f f' hp hf ⟨J,eX,m,h1,h2,h3⟩;exact⟨J,eX,m,hf.wk.trans h1,h2,h3⟩
theorem Q2{sk:List It}{W:List (Nat×Nat)}{F:Fr}{I:Nat->Fr->HP->Prop}{n:Nat}(h:fZ R sk):fZ R (.el (u6 W F I n)::sk):=⟨h.1,.el acV h.2⟩
theorem wJ{W:List (Nat×Nat)}{F J:Fr}{I:Nat->Fr->HP->Prop}{n:Nat}(m:Nat)(hl:m<n)(h:I m J hp):u6 W F I n (aQ W J F) hp:=⟨J,hp,m,Wk.refl _ _,hl,h⟩
theorem Gn{W:List (Nat×Nat)}{F J:Fr}{I:Nat->Fr->HP->Prop}{n:Nat}(s m:Nat)(hs:lj W s=true)(hd:(aK hp (J s)).aD=true)(hl:m<n)(h:I m (af J s (aK hp (J s))) (FW.cb hp (J s).refs)):u6 W F I n (aQ W J F) hp:=by
 have e:aQ W J F s=J s:=by rw[Pv,if_pos hs]
 have hw:=OU (fr:=aQ W J F) (hp:=hp) s (by rw[e];exact hd);rw[e,Oq hs]at hw;exact⟨_,_,m,hw,hl,h⟩
theorem Hh{sk:List It}{x:SC}(cA:fZ R sk)(W:List (Nat×Nat))(B:List Nat)(I:Nat->Fr->HP->Prop)(m0:Nat)(h0:I m0 fr hp)
  (h:∀m J hp,I m J hp->vc C R (.c x:: .el (u6 W (bC B fr) I m)::sk) (aQ W J (bC B fr)) hp):vc C R (.c (.loop x)::sk) fr hp:=by
 refine y5 (fun m ay an=>∃J,ay=aQ W J (bC B fr)/\I m J an) m0 (He W B).wk ⟨fr,rfl,h0⟩ ?_;rintro m _ an ⟨J,rfl,hI⟩;refine rF cA.1 _ _ _ _ _ _ (Kac _) (.c x (.el ?_ cA.2)) (cf.refl _) (h m J an hI);rintro f f' eX hf ⟨J2,sg,m2,e2,hl,h2⟩;exact G' hl (hf.wk.trans e2) ⟨J2,rfl,h2⟩
abbrev dg(a:List Nat)(i:Nat):Nat:=a.getD i 0
theorem u7{a:List Nat}(h:Qq a)(i:Nat):dg a i<65536:=by
 by_cases hi:i<a.length
 ·rw[dg,gm hi];exact et h hi
 ·rw[dg,gq hi];omega
theorem wK(a:List Nat)(i:Nat):val (a.drop i)=dg a i+65536*val (a.drop (i+1)):=by
 by_cases hi:i<a.length
 ·rw[lD hi,dg,gm hi]
 ·rw[dg,gq hi,Kal (by omega),Kal (by omega)];rfl
theorem Gw(a:List Nat)(i:Nat):val a=val (a.take i)+65536^i*val (a.drop i):=by
 by_cases hi:i<=a.length
 ·exact oX a i hi
 ·rw[Kae (by omega),Kal (by omega)];simp[val]
theorem Xe{a:List Nat}(h:Qq a)(i:Nat):val (a.take i)<65536^i:=by
 by_cases hi:i<=a.length
 ·exact sH h i hi
 ·rw[Kae (by omega)];exact KaK (ou h) (KbC (by omega) (by omega))
theorem QF(a:List Nat)(i:Nat):val (a.take (i+1))=val (a.take i)+65536^i*dg a i:=by
 by_cases hi:i<a.length
 ·rw[yH hi,dg,gm hi]
 ·rw[dg,gq hi,Kae (by omega),Kae (by omega)];simp
theorem Rx{a b:List Nat}(ha:Qq a){i:Nat}(h:val (a.drop i)<val (b.drop i)):val a<val b:=by rw[Gw a i,Gw b i];have h1:=Xe ha i;have:65536^i*(val (a.drop i)+1)<=65536^i*val (b.drop i):=Ka7 _ h;rw[Ka2]at this;omega
theorem OV{l:List Nat}{j v:Nat}(h:j<l.length):val (l.set j v)+65536^j*l[j]=val l+65536^j*v:=by have e:l.set j v=l.take j++v::l.drop (j+1):=List.set_eq_take_append_cons_drop.trans (by rw[if_pos h]);have e2:=oX l j (by omega);rw[lD h]at e2;rw[e,mu,KaF,KbX (by omega),val,e2,Ka2,Ka2];omega
theorem Db(l:List Nat)(x:Nat):val (l++[x])=val l+65536^l.length*x:=by rw[mu];simp[val]
theorem YX{l:List Nat}{j:Nat}(h:val (l.drop j)=0):dg l j=0:=by have:=wK l j;omega
theorem ahB{bt:Bool}{n d:Nat}:ck .rem bt (.int .u64 (n:Int)) (.int .u64 65536) d fr hp K=K (af fr d (.int .u64 ((n%65536:Nat):Int))) hp:=by rw[show(65536:Int)=((65536:Nat):Int)from rfl,qk (by omega)]
theorem ahC{bt:Bool}{n d:Nat}(h:n<18446744073709551616):ck .quo bt (.int .u64 (n:Int)) (.int .u64 65536) d fr hp K=K (af fr d (.int .u64 ((n/65536:Nat):Int))) hp:=by rw[show(65536:Int)=((65536:Nat):Int)from rfl,zK (by omega) h]
theorem ad2{bt:Bool}{n d:Nat}:ck .rem bt (.int .i64 (n:Int)) (.int .i64 65536) d fr hp K=K (af fr d (.int .i64 ((n%65536:Nat):Int))) hp:=by rw[show(65536:Int)=((65536:Nat):Int)from rfl,qk (by omega)]
theorem ad3{bt:Bool}{n d:Nat}(h:n<9223372036854775808):ck .quo bt (.int .i64 (n:Int)) (.int .i64 65536) d fr hp K=K (af fr d (.int .i64 ((n/65536:Nat):Int))) hp:=by rw[show(65536:Int)=((65536:Nat):Int)from rfl,HQ (by omega) h]
theorem ahD(n:Nat):(n:Int)*65536=((n*65536:Nat):Int):=by omega
end Go.FW
namespace Go.FW
theorem Tv{P x y V ai c q r M S T:Nat}(h1:S+P*x=M+P*r)(h2:M+P*(c+ai*(y+65536*V))=T)(h3:65536*q+r=x+ai*y+c):S+P*65536*(q+ai*V)=T:=by
 have e:P*(65536*q+r)=P*(x+ai*y+c):=by rw[h3]
 have a1:P*(c+ai*(y+65536*V))=P*c+P*(ai*y)+65536*(P*(ai*V)):=by rw[Ka2 ai,Ka2,Ka2,Kbx ai 65536,Kbx P 65536];omega
 have a2:P*65536*(q+ai*V)=65536*(P*q)+65536*(P*(ai*V)):=by rw[KaS P,Kbf,Ka2,Ka2]
 have a3:P*(65536*q+r)=65536*(P*q)+P*r:=by rw[Ka2,Kbx]
 have a4:P*(x+ai*y+c)=P*x+P*(ai*y)+P*c:=by rw[Ka2,Ka2]
 omega
theorem Tw{l:List Nat}{i j v:Nat}(h:i≠j):dg (l.set i v) j=dg l j:=by simp[dg,Kao,List.getElem?_set_ne h]
open Go
variable {C : Ctx} {ρ : Nat -> Option Nat} {fr : Fr} {hp : HP} {w : World} {K R : Qg}
theorem RU{x V d q:Nat}(hd:0<d)(h:q=V/d):(V%d*65536+x)/d+65536*q=(x+65536*V)/d/\(V%d*65536+x)%d=(x+65536*V)%d:=by
 subst h;have e:x+65536*V=(V%d*65536+x)+d*(65536*(V/d)):=by
  have:=Kbp V d
  calc x+65536*V=x+65536*(d*(V/d)+V%d):=by rw[this]
   _=_:=by rw[Ka2,Kbx];omega
 rw[e,Kcs _ _ hd,Kcp];exact⟨rfl,rfl⟩
theorem aeB(i e:Nat)(hi:fr i= .aa):Wk fr hp (af fr i (.sl e [])) hp:=by
 rintro C tmps w ⟨ρ,hs⟩;refine⟨ρ,hs.sz,hs.ext,hs.gT,hs.own,hs.inj,fun j=>?_⟩;unfold af;split
 ·rename_i hj;subst hj;have:=hs.eQ j;rw[hi]at this;rw[Qt.wh this];exact Qu.gH _ _ _ (Kbw _)
 ·exact hs.eQ j
theorem rE{sk:List It}{x:SC}(i e:Nat)(hi:fr i= .aa)(h:vc C R (.c (.loop x)::sk) (af fr i (.sl e [])) hp):vc C R (.c (.loop x)::sk) fr hp:=by rw[uI]at h⊢;obtain⟨I,μ,⟨bE,aE,h1,lL⟩,h2⟩:=h;exact⟨I,μ,⟨bE,aE,(aeB i e hi).trans h1,lL⟩,h2⟩
end Go.FW
namespace Go.FW
open Go Go.ChangeShapes Go.WideShapes
section
variable {H : Type} {enc : TypeId × Value -> H} {P : Program} {w : World} {base : Nat} {spare : Nat -> Bool} {held : Bool}
structure Fl(eA:DataW H->Nat):Prop where
 len:∀(elems spare:List (DataW H)),elems.length<=eA (.slice elems spare)
 sl:∀(elems spare:List (DataW H))(d:DataW H),d∈elems->eA d<=eA (.slice elems spare)
 ag:∀(parts:List (DataW H))(d:DataW H),d∈parts->eA d<=eA (.agg parts)
def lG(enc:TypeId×Value->H)(P:Program)(eA:DataW H->Nat)(N:Nat)(t:TypeId)(Q:List PV->Prop):Prop:=
 ∀(w:World)(base:Nat)(spare:Nat->Bool)(held:Bool)(fuel:Nat)(cs:List Value)(x:DataW H×List MemPlace),DataW.trod enc P w base spare held fuel t cs=some x->eA x.1<=N->
  ∃ps,Q ps/\ps.length=cs.length/\∀(i:Nat)(p:PV),ps[i]? =some p->Qu w bO p (cs.getD i undef)
variable {eA : DataW H -> Nat} {N : Nat}
theorem Dc{w:World}{p:PV}{v:Value}(h:Qu w bO p v):∀(i:Nat)(q:PV),[p][i]? =some q->Qu w bO q ([v].getD i undef):=by
 intro i q hq
 match i,hq with
 |0,hq=>simp at hq;subst hq;exact h
 |i+1,hq=>simp at hq
theorem lG.mono{t:TypeId}{Q Q':List PV->Prop}(h:lG enc P eA N t Q)(hQ:∀ps,Q ps->Q' ps):lG enc P eA N t Q':=
 fun w base spare held fuel cs x hx hn=>let⟨ps,h1,h2,h3⟩:=h w base spare held fuel cs x hx hn;⟨ps,hQ ps h1,h2,h3⟩
theorem Tx{t:TypeId}{k:IntKind}(ht:P.underlying t=some (.int k)):lG enc P eA N t fun ps=>∃n,ps=[.int k n]/\(Lit.int k n).wf=true:=by intro w base spare held fuel cs x hx _;obtain⟨n,rfl,rfl,hw⟩:=DataW.trod_int ht hx;exact⟨_,⟨n,rfl,hw⟩,rfl,Dc (.int k n)⟩
theorem YY{t:TypeId}(ht:P.underlying t=some .bool):lG enc P eA N t fun ps=>∃b,ps=[.bool b]:=by intro w base spare held fuel cs x hx _;obtain⟨b,rfl,rfl⟩:=DataW.trod_bool ht hx;exact⟨_,⟨b,rfl⟩,rfl,Dc (.bool b)⟩
theorem aaA{t:TypeId}(ht:P.underlying t=some (.int .u16)):lG enc P eA N t fun ps=>∃n:Nat,ps=[.int .u16 n]/\n<65536:=by refine(Tx ht).mono ?_;rintro ps ⟨n,rfl,hw⟩;simp[Lit.wf,IntKind.min,IntKind.max,IntKind.signed,IntKind.bits]at hw;obtain⟨m,rfl⟩:=Int.eq_ofNat_of_zero_le hw.1;exact⟨m,rfl,by omega⟩
theorem aaB{t:TypeId}(ht:P.underlying t=some (.int .i64)):lG enc P eA N t fun ps=>∃n:Int,ps=[.int .i64 n]/\ -9223372036854775808<=n/\n<=9223372036854775807:=by refine(Tx ht).mono ?_;rintro ps ⟨n,rfl,hw⟩;simp[Lit.wf,IntKind.min,IntKind.max,IntKind.signed,IntKind.bits]at hw;exact⟨n,rfl,by omega⟩
theorem Cs{α:Type}[Inhabited α]{f:α->PV}{G:α->Prop}{t e:TypeId}(hB:Fl eA)(ht:P.underlying t=some (.slice e))(gS:0<P.cellsOf e)
  (he:lG enc P eA N e fun ps=>∃a:α,ps=(f a).cells/\G a):lG enc P eA N t fun ps=>∃l:List α,ps=[.sl (P.cellsOf e) (l.map f)]/\l.length<=N/\∀a∈l,G a:=by
 intro w base spare held fuel cs x hx hn;rcases Deep.open_slice ht hx with⟨rfl,rfl⟩|⟨a,len,cap,m,n,D,Pl,rfl,_,hl,hm,tW,rfl,cu⟩
 ·exact⟨_,⟨[],rfl,Kbw _,fun _ h=>by cases h⟩,rfl,Dc (.gH _ none 0 (Kbw _))⟩
 have AT:len<=m:=by rw[tW];split<;>omega
 obtain⟨A,hA⟩:=Deep.choose_lt (α:=α×List Value) (n:=len) (p:=fun i y=>w.cells? base (a.add (i*P.cellsOf e)) (P.cellsOf e)=some y.2/\G y.1/\(f y.1).cells.length=y.2.length/\∀(j:Nat)(p:PV),(f y.1).cells[j]? =some p->Qu w bO p (y.2.getD j undef)) (fun i hi=>by obtain⟨cs',h1,h2⟩:=cu i (by omega);have hd:D i∈(List.range len).map D:=Kcz (Kco.2 hi);obtain⟨_,⟨b,rfl,hG⟩,h3,h4⟩:=he w base spare held n cs' _ h2 (Kay (hB.sl _ _ _ hd) hn);exact⟨(b,cs'),h1,hG,h3,h4⟩);have hlen:=hB.len ((List.range len).map D) ((List.range (m-len)).map fun j=>D (len+j));simp only[KaV,List.length_range]at hlen hn;refine⟨_,⟨(List.range len).map fun i=>(A i).1,rfl,by simp;omega,fun b hb=>?_⟩,rfl,Dc ?_⟩
 ·obtain⟨i,hi,rfl⟩:=KaI.1 hb;exact(hA i (Kco.1 hi)).2.1
 ·rcases Kc0 len with rfl|hp
  ·exact .gH _ _ _ hm
  have sp:a.spot=none:=by obtain⟨_,h2,h3⟩:=World.cells?_some (hA 0 hp).1;have h4:=h3 0 gS;rw[Kam (by omega)]at h4;simpa[Addr.add]using World.cell?_spot h4
  obtain⟨b,off,spot⟩:=a;have sp':spot=none:=sp;subst sp';have pz:∀i,i<len->∀j,j<P.cellsOf e->w.cell? ⟨b,off+i*P.cellsOf e+j,none⟩=some ((A i).2.getD j undef):=fun i hi j hj=>by obtain⟨_,h2,h3⟩:=World.cells?_some (hA i hi).1;have h4:=h3 j hj;rw[Kam (by omega),add_plain,add_plain]at h4;rw[h4];simp[Kao,Kam (show j<(A i).2.length by omega)]
  have e1:((List.range len).map fun i=>(A i).1).map f=(List.range len).map fun i=>f (A i).1:=by simp
  have e2:((List.range len).map fun i=>f (A i).1).length=len:=by simp
  have get:∀(i:Nat)(x:PV),((List.range len).map fun i=>f (A i).1)[i]? =some x->i<len/\x=f (A i).1:=fun i x hx=>by obtain⟨hi,h⟩:=Kad.1 hx;rw[e2]at hi;exact⟨hi,by simpa using h.symm⟩
  rw[e1];have:=Qu.sl (w:=w) (X:=bO) (P.cellsOf e) ((List.range len).map fun i=>f (A i).1) b off cap (fun i j=>(A i).2.getD j undef) (fun h=>h) (Ym (pz 0 hp 0 gS)) (by rw[e2];exact hl) hm
   (fun i x hx=>by obtain⟨hi,rfl⟩:=get i x hx;rw[(hA i hi).2.2.1];exact(World.cells?_some (hA i hi).1).2.1)
   (fun i hi j hj=>pz i (by rwa[e2]at hi) j hj)
   (fun i x hx j y hy=>by obtain⟨hi,rfl⟩:=get i x hx;exact(hA i hi).2.2.2 j y hy)
  rwa[e2]at this
theorem FX{t:TypeId}{f0 f1:Field}{Q0 Q1:List PV->Prop}(hB:Fl eA)(ht:P.underlying t=some (.struct #[f0,f1]))(h0:f0.offset=0)(h1:f1.offset=P.cellsOf f0.type)(hc:P.cellsOf t=P.cellsOf f0.type+P.cellsOf f1.type)
  (r0:lG enc P eA N f0.type Q0) (r1:lG enc P eA N f1.type Q1):lG enc P eA N t fun ps=>∃p q,ps=p++q/\Q0 p/\Q1 q:=by
 intro w base spare held fuel cs x hx hn;obtain⟨y0,y1,n,rfl,hl,g0,g1⟩:=trod_struct2 ht hx;obtain⟨p,hp,eX,sg⟩:=r0 _ _ _ _ _ _ _ g0 (Kay (hB.ag _ _ (by simp)) hn);obtain⟨q,hq,tX,Vs⟩:=r1 _ _ _ _ _ _ _ g1 (Kay (hB.ag _ _ (by simp)) hn);rw[h0]at eX sg;rw[h1]at tX Vs;simp only[Kbo,KaF,Ka5]at eX tX;have lp:p.length=P.cellsOf f0.type:=by omega
 have lq:q.length=P.cellsOf f1.type:=by omega
 refine⟨_,⟨p,q,rfl,hp,hq⟩,by rw[Kap];omega,fun i v hv=>?_⟩;by_cases hi:i<p.length
 ·rw[Kb7 hi]at hv;have:=sg i v hv;rw[Kbo,Kao,Kca,if_pos (by omega)]at this;rw[Kao];exact this
 ·rw[Kck (by omega)]at hv;have:=Vs _ v hv;have lT:i-p.length<q.length:=(Kad.1 hv).1;rw[Kao,Kca,if_pos (by omega),Ka9,show P.cellsOf f0.type+(i-p.length)=i by omega]at this;rw[Kao];exact this
theorem aeC{r:Reach}{b0:Nat}{t:TypeId}{v:Value}{d:DataW H}{ps:List MemPlace}{Q:List PV->Prop}(hr:lG enc P eA N t Q)(hd:DataW.Trod enc P w base spare held t v d ps)(hn:eA d<=N)
  (hv:v.cells= #[v]):∃p,Q [p]/\aY w bO p v:=by
 obtain⟨fuel,hf⟩:=hd;obtain⟨qs,h1,h2,h3⟩:=hr _ _ _ _ _ _ _ hf hn;rw[hv]at h2 h3
 match qs,h2 with
 | [p],_=>exact⟨p,h1,aY.pW (by simpa using h3 0 p rfl)⟩
theorem aaC{r:Reach}{b0:Nat}{t e:TypeId}{v:Value}{d:DataW H}{ps:List MemPlace}{Q:List PV->Prop}(ht:P.underlying t=some (.slice e))(gN:Value.okWide P w r b0 t v)(hr:lG enc P eA N t Q)(hd:DataW.Trod enc P w base spare held t v d ps)(hn:eA d<=N):
  ∃p,Q [p]/\aY w bO p v:=by
 obtain⟨a,len,cap,rfl⟩:=okWide_slice ht gN;exact aeC (r:=r) (b0:=b0) hr hd hn rfl
theorem Ext.sameAt{W W':World}(h:Ext bO W W'){p:MemPlace}(hp:p.block<W.heap.size):W.sameAt W' p:=by
 cases p with
 |cell b off=>exact uF (h.block b hp (fun h=>h))
 |map b=>exact h.block b hp (fun h=>h)
theorem Ext.keptBut{W W':World}(h:Ext bO W W')(may:MemPlace->Prop):W.keptBut W' may:=by
 refine⟨h.os,h.output,fun i hi=>?_⟩;rw[h.block i hi (fun h=>h)];cases hh:W.heap[i]? with
 |none=>rfl
 |some o=>cases o with
  |cells c t fr=>exact⟨rfl,rfl,rfl,fun _ _=>rfl⟩
  |map es clock=>exact Or.inr ⟨rfl,rfl⟩
  |_=>rfl
theorem Ext.frozen{W W':World}(h:Ext bO W W'){a:Addr}(ha:a.block<W.heap.size):W'.frozen? a=W.frozen? a:=by unfold World.frozen?;rw[h.block _ ha (fun h=>h)]
theorem Ty(hl:laidOutB P=true)(hm:mapsRowed P=true)(fM:∀ {t e:TypeId},t<P.types.size->P.underlying t=some (.slice e)->0<P.cellsOf e){W W':World}(hx:Ext bO W W')(sp:Nat->Bool):
  ∀ {ts:List TypeId} {vs:List Value} {ds:List (DataW H)} {ps:List MemPlace},(∀t∈ts,t<P.types.size)->DataW.TrodAll enc P W 0 (fun _=>true) true ts vs ds ps->(∀p∈ps,sp p.block=true)->DataW.TrodAll enc P W' 0 sp true ts vs ds ps
 | [],_,_,_,_,h,_=>by obtain⟨rfl,rfl,rfl⟩:=trodAll_nil h;rfl
 |t::ts,_,_,_,lf,h,hs=>by obtain⟨v,vs,d,ds,p,q,rfl,rfl,rfl,⟨fuel,h1⟩,h2⟩:=trodAll_cons h;refine⟨p,q,⟨fuel,?_⟩,Ty hl hm fM hx sp (fun t ht=>lf t (by simp[ht])) h2 (fun x aS=>hs x (by simp[aS])),rfl⟩;exact DataW.trod_stays (kids_rows hl hm) fM (fun h=>by cases h) (lf t (by simp)) h1 (fun x aS=>hx.sameAt (DataW.trod_lt _ _ _ _ h1 x aS)) (fun x aS=>hs x (by simp[aS]))
theorem Xo{f:FuncId}{fn:Func}{s:ChangeSpec}{ap fresh handsOn xo:Bool}{W:World}{args:Array Value}{ds gs:List (DataW H)}{before:List MemPlace}{c8:List PV}{tb:TypeId}
  (hW:DataW.Whole enc P fn.params.toList s.vars ap W args.toList ds gs before) (Bj:s.vars=[]) (dq:fn.resultTypes= #[tb]) (VJ:P.underlying tb=some .bool)
  (hl:laidOutB P=true) (hm:mapsRowed P=true) (fM:∀ {t e:TypeId},t<P.types.size->P.underlying t=some (.slice e)->0<P.cellsOf e) (EM:∀t∈fn.params.toList,t<P.types.size)
  (AL:s.fn H (ds++gs)={ results:=[.lit (.bool true)],args:=ds })
  (hF:Qc P f c8 (· = .bool true)) (Mp:args.size=c8.length) (cK:∀(i:Nat)(x:PV),c8[i]? =some x->aY W bO x (args.getD i undef)):
  Calls P f args W fun e W'=>∃v,e= .returned v/\s.post enc P fn ap fresh handsOn xo W args v W':=by
 refine(hF.2 W bO args (fun _ h=>h.elim) Mp cK).mono ?_;rintro e W' ⟨v,r,rfl,hx,hr,rfl⟩;have hv:v= .bool true:=by cases hr;rfl
 subst hv;refine⟨_,rfl,?_⟩;have Ax:=hW;obtain⟨p,q,hA,hV,rfl,hz,hn⟩:=hW;rw[Bj]at hV;obtain⟨rfl,rfl⟩:=trodVars_none hV;simp only[Kak]at Ax hz hn;have ar:∀x∈p,x.block<W.heap.size:=fun x aS=>by simpa using Ax.lt x aS
 have Uf:∀sp:Nat->Bool,(∀x∈p,sp x.block=true)->DataW.TrodAll enc P W' 0 sp true fn.params.toList args.toList ds p:=fun sp hs=>Ty hl hm fM hx sp EM hA hs;have hR:∀(b:Nat)(sp:Nat->Bool)(hd:Bool),DataW.TrodAll enc P W' b sp hd fn.resultTypes.toList ((Value.bool true).resultList fn.resultTypes.size) [.lit (.bool true)] []:=fun b sp hd=>by rw[dq];exact trodAll_mk1 ⟨1,by simp[DataW.trod,Value.cells,VJ]⟩
 have hold:∀x∈p,(fun b=>decide (b<W.heap.size)) x.block=true:=fun x aS=>by simpa using ar x aS
 refine⟨ds,[],p,[],p,[],Ax,?_,?_,?_,hx.keptBut _,fun _=>⟨?_,?_⟩⟩
 ·rw[AL];exact hR _ _ _
 ·rw[AL];simpa using Uf _ hold
 ·rw[AL,Bj];rfl
 ·exact RowKit.ok_one dq rfl (RowKit.okWide_bool_mk VJ _)
 ·refine⟨[.lit (.bool true)]++ds,[],p,⟨[]++p,[],trodAll_append (Uf _ (fun _ _=>rfl)) (hR _ _ _),?_,by simp,?_,?_⟩,?_⟩
  ·rw[Bj];rfl
  ·intro b off hp;rw[hx.frozen (ar _ hp)];exact hz b off hp
  ·exact hn
  ·intro x aS _;exact aS
end
end Go.FW
namespace Go.FW
open Go
attribute [go_sem ↓] vcs aoN
attribute [go_sem] aoO aoP aoQ aoR aht acI acJ ahu ahv ahw ahx acK acL ajW ajX YO acM adU ak9 ala alb alc aaW YP List.drop_succ_cons List.drop_zero List.take_succ_cons List.take_zero List.headD_cons List.cons_append List.nil_append aaV alG alF acN adV adW and_true List.length_cons List.length_nil agN agO agP B0 aec Q9y aej acE acF acG acH aek ahf ahg acq aem aen ajP ahh ahi ahj Ph Pj ahb bs1 bs2 ahd aeg aeh aei ahe Nat.add_zero QX Q9z SJ Int.toNat_natCast Nat.zero_add Option.map_some Option.map_none ajS agU ajV true_and Pv abW aaQ WY kb GW C5 aeo Bool.and_true Bool.true_and Bool.and_false Bool.false_and decide_true decide_false List.contains_cons List.contains_nil Bool.or_false Bool.false_or Bool.or_true Bool.true_or List.any_cons List.any_nil Bool.false_eq_true cx.dst uN acf rz C3 ad9 Bool.not_true Bool.not_false List.length_map List.map_cons List.map_nil ajU Option.some.injEq jK List.getElem?_cons_zero List.getElem?_cons_succ Option.getD_some
attribute [go_sem] ahB ahC ad2 ad3 ahD acS ajZ XC ahz OR
theorem Dz0{p:Prop}(h:p:=by first|omega|rfl|(simp+decide only[go_sem]<;>rfl)|fail):p:=h
theorem Dz1{p A0:Prop}(x0:A0)(h:A0->p:=by intro x0;first|omega|rfl|(simp+decide only[go_sem,x0]<;>rfl)|fail):p:=h x0
theorem Dz2{p A0 A1:Prop}(x0:A0)(x1:A1)(h:A0->A1->p:=by intro x0 x1;first|omega|rfl|(simp+decide only[go_sem,x0,x1]<;>rfl)|fail):p:=h x0 x1
theorem Dz3{p A0 A1 A2:Prop}(x0:A0)(x1:A1)(x2:A2)(h:A0->A1->A2->p:=by intro x0 x1 x2;first|omega|rfl|(simp+decide only[go_sem,x0,x1,x2]<;>rfl)|fail):p:=h x0 x1 x2
theorem Dz4{p A0 A1 A2 A3:Prop}(x0:A0)(x1:A1)(x2:A2)(x3:A3)(h:A0->A1->A2->A3->p:=by intro x0 x1 x2 x3;first|omega|rfl|(simp+decide only[go_sem,x0,x1,x2,x3]<;>rfl)|fail):p:=h x0 x1 x2 x3
theorem Dz5{p A0 A1 A2 A3 A4:Prop}(x0:A0)(x1:A1)(x2:A2)(x3:A3)(x4:A4)(h:A0->A1->A2->A3->A4->p:=by intro x0 x1 x2 x3 x4;first|omega|rfl|(simp+decide only[go_sem,x0,x1,x2,x3,x4]<;>rfl)|fail):p:=h x0 x1 x2 x3 x4
theorem Dz6{p A0 A1 A2 A3 A4 A5:Prop}(x0:A0)(x1:A1)(x2:A2)(x3:A3)(x4:A4)(x5:A5)(h:A0->A1->A2->A3->A4->A5->p:=by intro x0 x1 x2 x3 x4 x5;first|omega|rfl|(simp+decide only[go_sem,x0,x1,x2,x3,x4,x5]<;>rfl)|fail):p:=h x0 x1 x2 x3 x4 x5
theorem Dz7{p A0 A1 A2 A3 A4 A5 A6:Prop}(x0:A0)(x1:A1)(x2:A2)(x3:A3)(x4:A4)(x5:A5)(x6:A6)(h:A0->A1->A2->A3->A4->A5->A6->p:=by intro x0 x1 x2 x3 x4 x5 x6;first|omega|rfl|(simp+decide only[go_sem,x0,x1,x2,x3,x4,x5,x6]<;>rfl)|fail):p:=h x0 x1 x2 x3 x4 x5 x6
theorem Dz8{p A0 A1 A2 A3 A4 A5 A6 A7:Prop}(x0:A0)(x1:A1)(x2:A2)(x3:A3)(x4:A4)(x5:A5)(x6:A6)(x7:A7)(h:A0->A1->A2->A3->A4->A5->A6->A7->p:=by intro x0 x1 x2 x3 x4 x5 x6 x7;first|omega|rfl|(simp+decide only[go_sem,x0,x1,x2,x3,x4,x5,x6,x7]<;>rfl)|fail):p:=h x0 x1 x2 x3 x4 x5 x6 x7
theorem Dz9{p A0 A1 A2 A3 A4 A5 A6 A7 A8:Prop}(x0:A0)(x1:A1)(x2:A2)(x3:A3)(x4:A4)(x5:A5)(x6:A6)(x7:A7)(x8:A8)(h:A0->A1->A2->A3->A4->A5->A6->A7->A8->p:=by intro x0 x1 x2 x3 x4 x5 x6 x7 x8;first|omega|rfl|(simp+decide only[go_sem,x0,x1,x2,x3,x4,x5,x6,x7,x8]<;>rfl)|fail):p:=h x0 x1 x2 x3 x4 x5 x6 x7 x8
theorem Dz10{p A0 A1 A2 A3 A4 A5 A6 A7 A8 A9:Prop}(x0:A0)(x1:A1)(x2:A2)(x3:A3)(x4:A4)(x5:A5)(x6:A6)(x7:A7)(x8:A8)(x9:A9)(h:A0->A1->A2->A3->A4->A5->A6->A7->A8->A9->p:=by intro x0 x1 x2 x3 x4 x5 x6 x7 x8 x9;first|omega|rfl|(simp+decide only[go_sem,x0,x1,x2,x3,x4,x5,x6,x7,x8,x9]<;>rfl)|fail):p:=h x0 x1 x2 x3 x4 x5 x6 x7 x8 x9
theorem Dz11{p A0 A1 A2 A3 A4 A5 A6 A7 A8 A9 gW:Prop}(x0:A0)(x1:A1)(x2:A2)(x3:A3)(x4:A4)(x5:A5)(x6:A6)(x7:A7)(x8:A8)(x9:A9)(dU:gW)(h:A0->A1->A2->A3->A4->A5->A6->A7->A8->A9->gW->p:=by intro x0 x1 x2 x3 x4 x5 x6 x7 x8 x9 dU;first|omega|rfl|(simp+decide only[go_sem,x0,x1,x2,x3,x4,x5,x6,x7,x8,x9,dU]<;>rfl)|fail):p:=h x0 x1 x2 x3 x4 x5 x6 x7 x8 x9 dU
theorem Dz13{p A0 A1 A2 A3 A4 A5 A6 A7 A8 A9 gW mb mc:Prop}(x0:A0)(x1:A1)(x2:A2)(x3:A3)(x4:A4)(x5:A5)(x6:A6)(x7:A7)(x8:A8)(x9:A9)(dU:gW)(iC:mb)(iD:mc)(h:A0->A1->A2->A3->A4->A5->A6->A7->A8->A9->gW->mb->mc->p:=by intro x0 x1 x2 x3 x4 x5 x6 x7 x8 x9 dU iC iD;first|omega|rfl|(simp+decide only[go_sem,x0,x1,x2,x3,x4,x5,x6,x7,x8,x9,dU,iC,iD]<;>rfl)|fail):p:=h x0 x1 x2 x3 x4 x5 x6 x7 x8 x9 dU iC iD
theorem Dz14{p A0 A1 A2 A3 A4 A5 A6 A7 A8 A9 gW mb mc yA:Prop}(x0:A0)(x1:A1)(x2:A2)(x3:A3)(x4:A4)(x5:A5)(x6:A6)(x7:A7)(x8:A8)(x9:A9)(dU:gW)(iC:mb)(iD:mc)(uq:yA)(h:A0->A1->A2->A3->A4->A5->A6->A7->A8->A9->gW->mb->mc->yA->p:=by intro x0 x1 x2 x3 x4 x5 x6 x7 x8 x9 dU iC iD uq;first|omega|rfl|(simp+decide only[go_sem,x0,x1,x2,x3,x4,x5,x6,x7,x8,x9,dU,iC,iD,uq]<;>rfl)|fail):p:=h x0 x1 x2 x3 x4 x5 x6 x7 x8 x9 dU iC iD uq
theorem Sz0{p q:Prop}(h:q)(e:p=q:=by conv=>lhs;simp+decide (disch:=try exact Dz0) only[go_sem]):p:=e▸h
theorem Tz0{p:Prop}(h:p:=by simp+decide (disch:=try exact Dz0) only[go_sem]):p:=h
theorem cE{p:Prop}(h:p:=by simp+decide (disch:=try exact Dz0) only[go_sem]<;>rfl):p:=h
theorem Sz1{p q A0:Prop}(x0:A0)(h:q)(e:A0->p=q:=by intro x0;conv=>lhs;simp+decide (disch:=try exact Dz1 @x0) only[go_sem,x0]):p:=(e x0)▸h
theorem Tz1{p A0:Prop}(x0:A0)(h:A0->p:=by intro x0;simp+decide (disch:=try exact Dz1 @x0) only[go_sem,x0]):p:=h x0
theorem Tzr1{p A0:Prop}(x0:A0)(h:A0->p:=by intro x0;simp+decide (disch:=try exact Dz1 @x0) only[go_sem,x0]<;>rfl):p:=h x0
theorem Sz2{p q A0 A1:Prop}(x0:A0)(x1:A1)(h:q)(e:A0->A1->p=q:=by intro x0 x1;conv=>lhs;simp+decide (disch:=try exact Dz2 @x0 @x1) only[go_sem,x0,x1]):p:=(e x0 x1)▸h
theorem Tz2{p A0 A1:Prop}(x0:A0)(x1:A1)(h:A0->A1->p:=by intro x0 x1;simp+decide (disch:=try exact Dz2 @x0 @x1) only[go_sem,x0,x1]):p:=h x0 x1
theorem Sz3{p q A0 A1 A2:Prop}(x0:A0)(x1:A1)(x2:A2)(h:q)(e:A0->A1->A2->p=q:=by intro x0 x1 x2;conv=>lhs;simp+decide (disch:=try exact Dz3 @x0 @x1 @x2) only[go_sem,x0,x1,x2]):p:=(e x0 x1 x2)▸h
theorem Tz3{p A0 A1 A2:Prop}(x0:A0)(x1:A1)(x2:A2)(h:A0->A1->A2->p:=by intro x0 x1 x2;simp+decide (disch:=try exact Dz3 @x0 @x1 @x2) only[go_sem,x0,x1,x2]):p:=h x0 x1 x2
theorem Sz4{p q A0 A1 A2 A3:Prop}(x0:A0)(x1:A1)(x2:A2)(x3:A3)(h:q)(e:A0->A1->A2->A3->p=q:=by intro x0 x1 x2 x3;conv=>lhs;simp+decide (disch:=try exact Dz4 @x0 @x1 @x2 @x3) only[go_sem,x0,x1,x2,x3]):p:=(e x0 x1 x2 x3)▸h
theorem Tz4{p A0 A1 A2 A3:Prop}(x0:A0)(x1:A1)(x2:A2)(x3:A3)(h:A0->A1->A2->A3->p:=by intro x0 x1 x2 x3;simp+decide (disch:=try exact Dz4 @x0 @x1 @x2 @x3) only[go_sem,x0,x1,x2,x3]):p:=h x0 x1 x2 x3
theorem Sz5{p q A0 A1 A2 A3 A4:Prop}(x0:A0)(x1:A1)(x2:A2)(x3:A3)(x4:A4)(h:q)(e:A0->A1->A2->A3->A4->p=q:=by intro x0 x1 x2 x3 x4;conv=>lhs;simp+decide (disch:=try exact Dz5 @x0 @x1 @x2 @x3 @x4) only[go_sem,x0,x1,x2,x3,x4]):p:=(e x0 x1 x2 x3 x4)▸h
theorem Tz5{p A0 A1 A2 A3 A4:Prop}(x0:A0)(x1:A1)(x2:A2)(x3:A3)(x4:A4)(h:A0->A1->A2->A3->A4->p:=by intro x0 x1 x2 x3 x4;simp+decide (disch:=try exact Dz5 @x0 @x1 @x2 @x3 @x4) only[go_sem,x0,x1,x2,x3,x4]):p:=h x0 x1 x2 x3 x4
theorem Sz6{p q A0 A1 A2 A3 A4 A5:Prop}(x0:A0)(x1:A1)(x2:A2)(x3:A3)(x4:A4)(x5:A5)(h:q)(e:A0->A1->A2->A3->A4->A5->p=q:=by intro x0 x1 x2 x3 x4 x5;conv=>lhs;simp+decide (disch:=try exact Dz6 @x0 @x1 @x2 @x3 @x4 @x5) only[go_sem,x0,x1,x2,x3,x4,x5]):p:=(e x0 x1 x2 x3 x4 x5)▸h
theorem Sz7{p q A0 A1 A2 A3 A4 A5 A6:Prop}(x0:A0)(x1:A1)(x2:A2)(x3:A3)(x4:A4)(x5:A5)(x6:A6)(h:q)(e:A0->A1->A2->A3->A4->A5->A6->p=q:=by intro x0 x1 x2 x3 x4 x5 x6;conv=>lhs;simp+decide (disch:=try exact Dz7 @x0 @x1 @x2 @x3 @x4 @x5 @x6) only[go_sem,x0,x1,x2,x3,x4,x5,x6]):p:=(e x0 x1 x2 x3 x4 x5 x6)▸h
theorem Sz8{p q A0 A1 A2 A3 A4 A5 A6 A7:Prop}(x0:A0)(x1:A1)(x2:A2)(x3:A3)(x4:A4)(x5:A5)(x6:A6)(x7:A7)(h:q)(e:A0->A1->A2->A3->A4->A5->A6->A7->p=q:=by intro x0 x1 x2 x3 x4 x5 x6 x7;conv=>lhs;simp+decide (disch:=try exact Dz8 @x0 @x1 @x2 @x3 @x4 @x5 @x6 @x7) only[go_sem,x0,x1,x2,x3,x4,x5,x6,x7]):p:=(e x0 x1 x2 x3 x4 x5 x6 x7)▸h
theorem Sz9{p q A0 A1 A2 A3 A4 A5 A6 A7 A8:Prop}(x0:A0)(x1:A1)(x2:A2)(x3:A3)(x4:A4)(x5:A5)(x6:A6)(x7:A7)(x8:A8)(h:q)(e:A0->A1->A2->A3->A4->A5->A6->A7->A8->p=q:=by intro x0 x1 x2 x3 x4 x5 x6 x7 x8;conv=>lhs;simp+decide (disch:=try exact Dz9 @x0 @x1 @x2 @x3 @x4 @x5 @x6 @x7 @x8) only[go_sem,x0,x1,x2,x3,x4,x5,x6,x7,x8]):p:=(e x0 x1 x2 x3 x4 x5 x6 x7 x8)▸h
theorem BS{p q A0 A1 A2 A3 A4 A5 A6 A7 A8 A9:Prop}(x0:A0)(x1:A1)(x2:A2)(x3:A3)(x4:A4)(x5:A5)(x6:A6)(x7:A7)(x8:A8)(x9:A9)(h:q)(e:A0->A1->A2->A3->A4->A5->A6->A7->A8->A9->p=q:=by intro x0 x1 x2 x3 x4 x5 x6 x7 x8 x9;conv=>lhs;simp+decide (disch:=try exact Dz10 @x0 @x1 @x2 @x3 @x4 @x5 @x6 @x7 @x8 @x9) only[go_sem,x0,x1,x2,x3,x4,x5,x6,x7,x8,x9]):p:=(e x0 x1 x2 x3 x4 x5 x6 x7 x8 x9)▸h
theorem Tz10{p A0 A1 A2 A3 A4 A5 A6 A7 A8 A9:Prop}(x0:A0)(x1:A1)(x2:A2)(x3:A3)(x4:A4)(x5:A5)(x6:A6)(x7:A7)(x8:A8)(x9:A9)(h:A0->A1->A2->A3->A4->A5->A6->A7->A8->A9->p:=by intro x0 x1 x2 x3 x4 x5 x6 x7 x8 x9;simp+decide (disch:=try exact Dz10 @x0 @x1 @x2 @x3 @x4 @x5 @x6 @x7 @x8 @x9) only[go_sem,x0,x1,x2,x3,x4,x5,x6,x7,x8,x9]):p:=h x0 x1 x2 x3 x4 x5 x6 x7 x8 x9
theorem Sz11{p q A0 A1 A2 A3 A4 A5 A6 A7 A8 A9 gW:Prop}(x0:A0)(x1:A1)(x2:A2)(x3:A3)(x4:A4)(x5:A5)(x6:A6)(x7:A7)(x8:A8)(x9:A9)(dU:gW)(h:q)(e:A0->A1->A2->A3->A4->A5->A6->A7->A8->A9->gW->p=q:=by intro x0 x1 x2 x3 x4 x5 x6 x7 x8 x9 dU;conv=>lhs;simp+decide (disch:=try exact Dz11 @x0 @x1 @x2 @x3 @x4 @x5 @x6 @x7 @x8 @x9 @dU) only[go_sem,x0,x1,x2,x3,x4,x5,x6,x7,x8,x9,dU]):p:=(e x0 x1 x2 x3 x4 x5 x6 x7 x8 x9 dU)▸h
theorem Tz11{p A0 A1 A2 A3 A4 A5 A6 A7 A8 A9 gW:Prop}(x0:A0)(x1:A1)(x2:A2)(x3:A3)(x4:A4)(x5:A5)(x6:A6)(x7:A7)(x8:A8)(x9:A9)(dU:gW)(h:A0->A1->A2->A3->A4->A5->A6->A7->A8->A9->gW->p:=by intro x0 x1 x2 x3 x4 x5 x6 x7 x8 x9 dU;simp+decide (disch:=try exact Dz11 @x0 @x1 @x2 @x3 @x4 @x5 @x6 @x7 @x8 @x9 @dU) only[go_sem,x0,x1,x2,x3,x4,x5,x6,x7,x8,x9,dU]):p:=h x0 x1 x2 x3 x4 x5 x6 x7 x8 x9 dU
theorem Sz13{p q A0 A1 A2 A3 A4 A5 A6 A7 A8 A9 gW mb mc:Prop}(x0:A0)(x1:A1)(x2:A2)(x3:A3)(x4:A4)(x5:A5)(x6:A6)(x7:A7)(x8:A8)(x9:A9)(dU:gW)(iC:mb)(iD:mc)(h:q)(e:A0->A1->A2->A3->A4->A5->A6->A7->A8->A9->gW->mb->mc->p=q:=by intro x0 x1 x2 x3 x4 x5 x6 x7 x8 x9 dU iC iD;conv=>lhs;simp+decide (disch:=try exact Dz13 @x0 @x1 @x2 @x3 @x4 @x5 @x6 @x7 @x8 @x9 @dU @iC @iD) only[go_sem,x0,x1,x2,x3,x4,x5,x6,x7,x8,x9,dU,iC,iD]):p:=(e x0 x1 x2 x3 x4 x5 x6 x7 x8 x9 dU iC iD)▸h
theorem Tz13{p A0 A1 A2 A3 A4 A5 A6 A7 A8 A9 gW mb mc:Prop}(x0:A0)(x1:A1)(x2:A2)(x3:A3)(x4:A4)(x5:A5)(x6:A6)(x7:A7)(x8:A8)(x9:A9)(dU:gW)(iC:mb)(iD:mc)(h:A0->A1->A2->A3->A4->A5->A6->A7->A8->A9->gW->mb->mc->p:=by intro x0 x1 x2 x3 x4 x5 x6 x7 x8 x9 dU iC iD;simp+decide (disch:=try exact Dz13 @x0 @x1 @x2 @x3 @x4 @x5 @x6 @x7 @x8 @x9 @dU @iC @iD) only[go_sem,x0,x1,x2,x3,x4,x5,x6,x7,x8,x9,dU,iC,iD]):p:=h x0 x1 x2 x3 x4 x5 x6 x7 x8 x9 dU iC iD
theorem Sz14{p q A0 A1 A2 A3 A4 A5 A6 A7 A8 A9 gW mb mc yA:Prop}(x0:A0)(x1:A1)(x2:A2)(x3:A3)(x4:A4)(x5:A5)(x6:A6)(x7:A7)(x8:A8)(x9:A9)(dU:gW)(iC:mb)(iD:mc)(uq:yA)(h:q)(e:A0->A1->A2->A3->A4->A5->A6->A7->A8->A9->gW->mb->mc->yA->p=q:=by intro x0 x1 x2 x3 x4 x5 x6 x7 x8 x9 dU iC iD uq;conv=>lhs;simp+decide (disch:=try exact Dz14 @x0 @x1 @x2 @x3 @x4 @x5 @x6 @x7 @x8 @x9 @dU @iC @iD @uq) only[go_sem,x0,x1,x2,x3,x4,x5,x6,x7,x8,x9,dU,iC,iD,uq]):p:=(e x0 x1 x2 x3 x4 x5 x6 x7 x8 x9 dU iC iD uq)▸h
theorem Ez0{p:Prop}(h:p:=by first|omega|rfl|(simp+decide only[go_sem,dV,Kav,KaC,Kau,KaA,Kak]<;>rfl)|fail):p:=h
theorem Ez1{p A0:Prop}(x0:A0)(h:A0->p:=by intro x0;first|omega|rfl|(simp+decide only[go_sem,dV,Kav,KaC,Kau,KaA,Kak,x0]<;>rfl)|fail):p:=h x0
theorem Ez2{p A0 A1:Prop}(x0:A0)(x1:A1)(h:A0->A1->p:=by intro x0 x1;first|omega|rfl|(simp+decide only[go_sem,dV,Kav,KaC,Kau,KaA,Kak,x0,x1]<;>rfl)|fail):p:=h x0 x1
theorem Ez3{p A0 A1 A2:Prop}(x0:A0)(x1:A1)(x2:A2)(h:A0->A1->A2->p:=by intro x0 x1 x2;first|omega|rfl|(simp+decide only[go_sem,dV,Kav,KaC,Kau,KaA,Kak,x0,x1,x2]<;>rfl)|fail):p:=h x0 x1 x2
theorem Ez4{p A0 A1 A2 A3:Prop}(x0:A0)(x1:A1)(x2:A2)(x3:A3)(h:A0->A1->A2->A3->p:=by intro x0 x1 x2 x3;first|omega|rfl|(simp+decide only[go_sem,dV,Kav,KaC,Kau,KaA,Kak,x0,x1,x2,x3]<;>rfl)|fail):p:=h x0 x1 x2 x3
theorem Ez5{p A0 A1 A2 A3 A4:Prop}(x0:A0)(x1:A1)(x2:A2)(x3:A3)(x4:A4)(h:A0->A1->A2->A3->A4->p:=by intro x0 x1 x2 x3 x4;first|omega|rfl|(simp+decide only[go_sem,dV,Kav,KaC,Kau,KaA,Kak,x0,x1,x2,x3,x4]<;>rfl)|fail):p:=h x0 x1 x2 x3 x4
theorem Ez6{p A0 A1 A2 A3 A4 A5:Prop}(x0:A0)(x1:A1)(x2:A2)(x3:A3)(x4:A4)(x5:A5)(h:A0->A1->A2->A3->A4->A5->p:=by intro x0 x1 x2 x3 x4 x5;first|omega|rfl|(simp+decide only[go_sem,dV,Kav,KaC,Kau,KaA,Kak,x0,x1,x2,x3,x4,x5]<;>rfl)|fail):p:=h x0 x1 x2 x3 x4 x5
theorem eC{p q:Prop}(h:q)(e:p=q:=by conv=>lhs;simp+decide (disch:=try exact Ez0) only[go_sem,dV,Kav,KaC,Kau,KaA,Kak]):p:=e▸h
theorem xH{p:Prop}(h:p:=by simp+decide (disch:=try exact Ez0) only[go_sem,dV,Kav,KaC,Kau,KaA,Kak]):p:=h
theorem BT{p:Prop}(h:p:=by simp+decide (disch:=try exact Ez0) only[go_sem,dV,Kav,KaC,Kau,KaA,Kak]<;>rfl):p:=h
theorem tA{p q A0:Prop}(x0:A0)(h:q)(e:A0->p=q:=by intro x0;conv=>lhs;simp+decide (disch:=try exact Ez1 @x0) only[go_sem,dV,Kav,KaC,Kau,KaA,Kak,x0]):p:=(e x0)▸h
theorem Uz1{p A0:Prop}(x0:A0)(h:A0->p:=by intro x0;simp+decide (disch:=try exact Ez1 @x0) only[go_sem,dV,Kav,KaC,Kau,KaA,Kak,x0]):p:=h x0
theorem kQ{p q A0 A1:Prop}(x0:A0)(x1:A1)(h:q)(e:A0->A1->p=q:=by intro x0 x1;conv=>lhs;simp+decide (disch:=try exact Ez2 @x0 @x1) only[go_sem,dV,Kav,KaC,Kau,KaA,Kak,x0,x1]):p:=(e x0 x1)▸h
theorem ak0{p A0 A1:Prop}(x0:A0)(x1:A1)(h:A0->A1->p:=by intro x0 x1;simp+decide (disch:=try exact Ez2 @x0 @x1) only[go_sem,dV,Kav,KaC,Kau,KaA,Kak,x0,x1]<;>rfl):p:=h x0 x1
theorem Ac{p q A0 A1 A2:Prop}(x0:A0)(x1:A1)(x2:A2)(h:q)(e:A0->A1->A2->p=q:=by intro x0 x1 x2;conv=>lhs;simp+decide (disch:=try exact Ez3 @x0 @x1 @x2) only[go_sem,dV,Kav,KaC,Kau,KaA,Kak,x0,x1,x2]):p:=(e x0 x1 x2)▸h
theorem Ik{p q A0 A1 A2 A3:Prop}(x0:A0)(x1:A1)(x2:A2)(x3:A3)(h:q)(e:A0->A1->A2->A3->p=q:=by intro x0 x1 x2 x3;conv=>lhs;simp+decide (disch:=try exact Ez4 @x0 @x1 @x2 @x3) only[go_sem,dV,Kav,KaC,Kau,KaA,Kak,x0,x1,x2,x3]):p:=(e x0 x1 x2 x3)▸h
theorem TS{p q A0 A1 A2 A3 A4:Prop}(x0:A0)(x1:A1)(x2:A2)(x3:A3)(x4:A4)(h:q)(e:A0->A1->A2->A3->A4->p=q:=by intro x0 x1 x2 x3 x4;conv=>lhs;simp+decide (disch:=try exact Ez5 @x0 @x1 @x2 @x3 @x4) only[go_sem,dV,Kav,KaC,Kau,KaA,Kak,x0,x1,x2,x3,x4]):p:=(e x0 x1 x2 x3 x4)▸h
theorem Vz6{p q A0 A1 A2 A3 A4 A5:Prop}(x0:A0)(x1:A1)(x2:A2)(x3:A3)(x4:A4)(x5:A5)(h:q)(e:A0->A1->A2->A3->A4->A5->p=q:=by intro x0 x1 x2 x3 x4 x5;conv=>lhs;simp+decide (disch:=try exact Ez6 @x0 @x1 @x2 @x3 @x4 @x5) only[go_sem,dV,Kav,KaC,Kau,KaA,Kak,x0,x1,x2,x3,x4,x5]):p:=(e x0 x1 x2 x3 x4 x5)▸h
variable {C : Ctx} {fr : Fr} {hp : HP} {R : Qg}
theorem NO{sk:List It}{x:SC}(s:Nat)(hd:(aK hp (fr s)).aD=true)(h:vc C R (.c (.loop x)::sk) (af fr s (aK hp (fr s))) (FW.cb hp (fr s).refs)):vc C R (.c (.loop x)::sk) fr hp:=by rw[uI]at h⊢;obtain⟨I,μ,⟨bE,aE,h1,lL⟩,h2⟩:=h;exact⟨I,μ,⟨bE,aE,(OU s hd).trans h1,lL⟩,h2⟩
end Go.FW
namespace Go.FW
open Go
variable {C : Ctx} {ρ : Nat -> Option Nat} {fr ay : Fr} {hp : HP} {w : World} {K R : Qg}
theorem cT.known{p:PV}{v:Value}(h:cT C ρ hp w p v):∀γ∈p.dP,hp γ≠none:=by
 intro γ ak;cases p with
 |ax β o n=>simp[PV.dP]at ak;subst ak;obtain⟨_,hb,h1,_⟩:=h;simp[h1]
 |aM β o n=>simp[PV.dP]at ak;subst ak;obtain⟨_,hb,b,cap,h1,_⟩:=h;simp[h1]
 |np β o n=>cases h
 |_=>cases ak
theorem cU.known{p:PV}{v:Value}(h:cU C ρ hp w p v):(∀γ∈p.bN,hp γ≠none)/\∀γ∈p.ep,hp γ≠none:=by
 cases p with
 |mp β i o=>obtain⟨b,hb,h1,h2,_⟩:=h;simp[PV.bN,PV.ep,h2]
 |ax β o n=>obtain⟨hb,h1,_⟩:=h;simp[PV.bN,PV.ep,h1]
 |rb β o n=>obtain⟨b,u,_,_,_,_,hb,h1,_⟩:=h;simp[PV.bN,PV.ep,h1]
 |np γ i o=>obtain⟨_,b,hb,h1,h2,_⟩:=h;simp[PV.bN,PV.ep,h2]
 |aM γ o n=>obtain⟨_,hb,b,cap,h1,_⟩:=h;simp[PV.bN,PV.ep,h1]
 |_=>exact⟨(fun γ ak=>by cases ak),(fun γ ak=>by cases ak)⟩
theorem Qt.known{p:PV}{v:Value}(h:Qt C ρ hp w p v):(∀γ∈p.refs,hp γ≠none)/\∀γ∈p.bS,hp γ≠none:=by
 cases p with
 |mp β i o=>obtain⟨b,hb,h1,h2,_⟩:=h;simp[PV.refs,PV.bS,h2]
 |ax β o n=>obtain⟨hb,h1,_⟩:=h;simp[PV.refs,PV.bS,h1]
 |rb β o n=>obtain⟨b,u,_,_,_,_,hb,h1,_⟩:=h;simp[PV.refs,PV.bS,h1]
 |np γ i o=>obtain⟨_,b,hb,h1,h2,_⟩:=h;simp[PV.refs,PV.bS,h2]
 |aM γ o n=>obtain⟨_,hb,b,cap,h1,_⟩:=h;simp[PV.refs,PV.bS,h1]
 |aT cs=>obtain⟨vs,_,_,h2⟩:=h;refine⟨fun γ ak=>(by cases ak),fun γ ak=>?_⟩;obtain⟨x,hx,ak⟩:=Kaq.1 ak;obtain⟨i,hi⟩:=KaE hx;exact(h2 i x hi).known γ ak
 |eO cs=>obtain⟨vs,_,_,h2⟩:=h;refine⟨fun γ ak=>(by cases ak),fun γ ak=>?_⟩;obtain⟨x,hx,ak⟩:=Kaq.1 ak;obtain⟨i,hi⟩:=KaE hx;exact(h2 i x hi).known γ ak
 |eP cs q=>obtain⟨vs,u,_,_,h2,_⟩:=h;refine⟨fun γ ak=>(by cases ak),fun γ ak=>?_⟩;obtain⟨x,hx,ak⟩:=Kaq.1 ak;obtain⟨i,hi⟩:=KaE hx;exact(h2 i x hi).known γ ak
 | aN β e ty xs=>
  obtain⟨_,_,b,hb,cur,cap,_,g2,_,_,_,_,_,_,_,_,cn⟩:=h;refine⟨fun γ ak=>(by cases ak),fun γ ak=>?_⟩;rcases KaO.1 ak with rfl|ak
  ·simp[g2]
  ·obtain⟨x,hx,ak⟩:=Kaq.1 ak;obtain⟨y,hy,ak⟩:=Kaq.1 ak;obtain⟨i,hi⟩:=KaE hx;obtain⟨j,hj⟩:=KaE hy;exact(cn i x hi j y hj).known γ ak
 | fn f first cap=>
  obtain⟨fv,cv,_,_,_,h3,h4⟩:=h;have g:∀(l:List PV)(u:Array Value),(∀(i:Nat)(x:PV),l[i]? =some x->cU C ρ hp w x (u.getD i undef))->(∀γ∈l.flatMap PV.bN,hp γ≠none)/\∀γ∈l.flatMap PV.ep,hp γ≠none:=by
   intro l u hl;refine⟨fun γ ak=>?_,fun γ ak=>?_⟩<;>
   ·obtain⟨x,hx,ak⟩:=Kaq.1 ak;obtain⟨i,hi⟩:=KaE hx
    first|exact(hl i x hi).known.1 γ ak|exact(hl i x hi).known.2 γ ak
  refine⟨fun γ ak=>?_,fun γ ak=>?_⟩
  ·rcases KaU.1 ak with ak|ak
   ·exact(g first fv h3).1 γ ak
   ·exact(g cap cv h4).1 γ ak
  ·rcases KaU.1 ak with ak|ak
   ·exact(g first fv h3).2 γ ak
   ·exact(g cap cv h4).2 γ ak
 |_=>exact⟨(fun γ ak=>by cases ak),(fun γ ak=>by cases ak)⟩
def kC(β:Nat):Bool:=decide (2000000<=β)
def lk(β:Nat):Bool:=kC β||decide (β<1000000)
theorem aj2{β:Nat}(h:lk β=false):kC β=false:=by simp[lk]at h;exact h.1
def iu:PV->PV
 |.aN _ _ _ _| .aT _| .eO _| .eP _ _=>.undef
 |p=>if p.refs.any kC||p.bS.any lk then .undef else p
def fT(F:Fr):Fr:=fun s=>iu (F s)
def re(p:PV):Prop:=(∀β∈p.refs,kC β=false)/\(∀β∈p.bS,lk β=false)/\(∀γ e ty xs,p≠ .aN γ e ty xs)/\∀cs,p≠ .aT cs/\p≠ .eO cs/\∀q,p≠ .eP cs q
theorem acW(p:PV):re (iu p):=by
 have h0:re .undef:=⟨(fun β h=>by cases h),(fun β h=>by cases h),(fun _ _ _ _ h=>by cases h),(fun _=>⟨(fun h=>by cases h),(fun h=>by cases h),fun _ h=>by cases h⟩)⟩
 unfold iu;split
 ·exact h0
 ·exact h0
 ·exact h0
 ·exact h0
 ·rename_i hn qP hn3 Me;split
  ·exact h0
  ·rename_i h;simp only[KbS,not_or,Bool.not_eq_true,KbB]at h;exact⟨fun β al=>by simpa using h.1 β al,fun β al=>by simpa using h.2 β al,fun γ e ty xs=>hn γ e ty xs,fun cs=>⟨qP cs,hn3 cs,Me cs⟩⟩
theorem re.kill{p:PV}(h:re p){B:List Nat}:re (if p.refs.any B.contains then .undef else p):=by
 split
 ·exact⟨(fun β h=>by cases h),(fun β h=>by cases h),(fun _ _ _ _ h=>by cases h),(fun _=>⟨(fun h=>by cases h),(fun h=>by cases h),fun _ h=>by cases h⟩)⟩
 ·exact h
theorem TA{β:Nat}{p:PV}(h:∀γ∈p.refs,γ≠β):bX β p=p:=by unfold bX;rw[if_neg];intro hc;exact h β (by simpa using hc) rfl
theorem GM{β:Nat}{p:PV}(h:∀γ∈p.dP,γ≠β):im β p=p:=by
 cases p with
 |ax γ o n=>simp only[im];rw[if_neg (h γ (by simp[PV.dP]))]
 |aM γ o n=>simp only[im];rw[if_neg (h γ (by simp[PV.dP]))]
 |_=>rfl
theorem aaD{β:Nat}{p:PV}(h:∀γ∈p.refs,γ≠β)(h2:∀γ∈p.bS,γ≠β)(h3:∀γ e ty xs,p≠ .aN γ e ty xs):cZ β p=p:=by
 cases p with
 |aN γ e ty xs=>exact absurd rfl (h3 _ _ _ _)
 |aT cs=>
  simp only[cZ];congr 1;conv=>rhs;rw[<-List.map_id cs]
  exact Kba fun x hx=>GM fun γ ak=>h2 γ (Kaq.2 ⟨x,hx,ak⟩)
 |eO cs=>
  simp only[cZ];congr 1;conv=>rhs;rw[<-List.map_id cs]
  exact Kba fun x hx=>GM fun γ ak=>h2 γ (Kaq.2 ⟨x,hx,ak⟩)
 |eP cs q=>
  simp only[cZ];congr 1;conv=>rhs;rw[<-List.map_id cs]
  exact Kba fun x hx=>GM fun γ ak=>h2 γ (Kaq.2 ⟨x,hx,ak⟩)
 |aM γ o n=>simp only[cZ];rw[if_neg (h2 γ (by simp[PV.bS]))]
 |np γ i o=>simp only[cZ];rw[if_neg (h2 γ (by simp[PV.bS]))]
 |fn f first cap=>simp only[cZ];rw[if_neg,TA h];intro hc;exact h2 β (by simpa[PV.bS]using hc) rfl
 |_=>exact TA h
theorem Pr{β γ:Nat}(h:2000000<=β)(h2:kC γ=false):γ≠β:=by simp[kC]at h2;omega
abbrev dk(B:List Nat)(F:Fr):Fr:=bC B (fT F)
theorem xd(B:List Nat)(F:Fr)(s:Nat):re (dk B F s):=(acW (F s)).kill
theorem TC{β:Nat}{B:List Nat}{F:Fr}(h:2000000<=β):fF β (dk B F)=dk B F:=by funext s;have hc:=xd B F s;exact aaD (fun γ ak=>Pr h (hc.1 γ ak)) (fun γ ak=>Pr h (aj2 (hc.2.1 γ ak))) hc.2.2.1
theorem TE{γ:Nat}{B:List Nat}{F:Fr}:iF γ (dk B F)=dk B F:=by
 funext s;have hc:=xd B F s;show iZ γ (dk B F s)=_;generalize dk B F s=p at *
 cases p with
 |aN bB e ty xs=>exact absurd rfl (hc.2.2.1 _ _ _ _)
 |_=>rfl
theorem aaE{W:List (Nat×Nat)}{β:Nat}{J F:Fr}:fF β (aQ W J F)=aQ W (fF β J) (fF β F):=by funext s;unfold fF aQ;split<;>rfl
theorem aaF{W:List (Nat×Nat)}{β:Nat}{J F:Fr}:iF β (aQ W J F)=aQ W (iF β J) (iF β F):=by funext s;unfold iF aQ;split<;>rfl
theorem aaG{β d:Nat}{F:Fr}{v:PV}:fF β (af F d v)=af (fF β F) d (cZ β v):=by funext s;unfold fF af;split<;>rfl
theorem aaH{β d:Nat}{F:Fr}{v:PV}:iF β (af F d v)=af (iF β F) d (iZ β v):=by funext s;unfold iF af;split<;>rfl
theorem acX{β:Nat}{F:Fr}{s:Nat}:fF β F s=cZ β (F s):=rfl
theorem acv{β:Nat}{F:Fr}{s:Nat}:iF β F s=iZ β (F s):=rfl
theorem OW(W:List (Nat×Nat))(B:List Nat):cf fr (aQ W fr (dk B fr)):=fun s=>by
 unfold aQ dk bC;split
 ·exact .inl rfl
 ·split
  ·exact .inr rfl
  ·unfold fT iu;split
   ·exact .inr rfl
   ·exact .inr rfl
   ·exact .inr rfl
   ·exact .inr rfl
   ·split
    ·exact .inr rfl
    ·exact .inl rfl
theorem zB{sk:List It}{x:SC}(cA:fZ R sk)(W:List (Nat×Nat))(B:List Nat)(I:Nat->Fr->HP->Prop)(m0:Nat)(h0:I m0 fr hp)
  (h:∀m J hp,I m J hp->vc C R (.c x:: .el (u6 W (dk B fr) I m)::sk) (aQ W J (dk B fr)) hp):vc C R (.c (.loop x)::sk) fr hp:=by
 refine y5 (fun m ay an=>∃J,ay=aQ W J (dk B fr)/\I m J an) m0 (OW W B).wk ⟨fr,rfl,h0⟩ ?_;rintro m _ an ⟨J,rfl,hI⟩;refine rF cA.1 _ _ _ _ _ _ (Kac _) (.c x (.el ?_ cA.2)) (cf.refl _) (h m J an hI);rintro f f' eX hf ⟨J2,sg,m2,e2,hl,h2⟩;exact G' hl (hf.wk.trans e2) ⟨J2,rfl,h2⟩
def jI(l:List (Nat×Nat)):List PV:=l.map fun x=>.ax x.1 0 x.2
def ajt(d:Nat)(S:List Nat)(γ n:Nat)(x:PV)(fr:Fr):Fr:=fun s=>if s=γ then x else if S.contains s then .aM γ 0 n else bX d (fr s)
theorem Xp{tmps:Array Value}(h:aI C ρ fr hp tmps w){β b:Nat}{hb:HB}{l:List Nat}(hB:bG β=false)(al:hp β=some hb)(hl:β∈l)(bz:ρ β=some b):¬aH C ρ (cb hp l) b:=by
 have a9:=(h.own β hb al).dS;rw[bz]at a9;rintro(hx|⟨γ,hg,h1,h2,h3⟩)
 ·exact Ctx.K9 a9.1 (DC hB) hx
 ·obtain⟨ia,g1,_,_,_,_,g6⟩:=yL h1;have:=h.inj γ β b (by simp[g1]) (by simp[al]) h3 bz;subst this;exact g6 h2 hl
theorem eG.snap{tmps:Array Value}(h:aI C ρ fr hp tmps w){β o n:Nat}{v:Value}{l:List Nat}{hb:HB}(hr:eG ρ hp w β o n v)(hB:bG β=false)(hl:β∈l)(al:hp β=some hb):Qu w (aH C ρ (cb hp l)) (.sl hb.e ((hb.xs.drop o).take n)) v:=by
 obtain⟨aw,g1,g2,g3⟩:=hr;rw[al]at g1;cases g1;rcases g3 with⟨g3,rfl,rfl,rfl⟩|⟨b,cap,g3,rfl,g5,g6⟩
 ·simp only[Kb5];exact .gH _ _ _ (Kbw _)
 ·have bk:=h.own β hb al;have a9:=bk.dS;rw[g3]at a9;obtain⟨_,ar,cur,eI,c1,c2,c3,c4,c5⟩:=a9;obtain⟨cur',ty',d1,d2⟩:=g5;rw[c1]at d1;cases d1;have gd:o+cap=eI:=by rw[c2]at d2;exact(KbA bk.lK d2).symm
  subst gd;have hlen:((hb.xs.drop o).take n).length=n:=by simp;omega
  have eK:∀(i:Nat)(x:PV),((hb.xs.drop o).take n)[i]? =some x->i<n/\hb.xs[o+i]? =some x:=fun i x hx=>by
   have hi:i<n:=by have:=(Kad.1 hx).1;omega
   rw[KaJ hi,Ka9]at hx;exact⟨hi,hx⟩
  have:=Qu.sl (w:=w) (X:=aH C ρ (cb hp l)) hb.e ((hb.xs.drop o).take n) b (o*hb.e) cap (fun i j=>cur.getD ((o+i)*hb.e+j) undef) (Xp h hB al hl g3) ar (by omega) (by omega)
   (fun i x hx=>(bk.len _ x (eK i x hx).2).1)
   (fun i hi j hj=>by rw[hlen]at hi;have:=ny (i:=o+i) (e:=hb.e) (o:=0) (j:=j) (n:=hb.e) (cap:=o+cap) (by omega) (by omega) hj;rw[KaT]at this;rw[show o*hb.e+i*hb.e+j=(o+i)*hb.e+j by rw[KaH]];exact lz c1 (by rw[c2];exact this))
   (fun i x hx j y hy=>(c5 _ x (eK i x hx).2 j y hy).freeze)
  rwa[hlen]at this
def rO(R:Qg):Qg:=fun fr hp=>∃ay an,Wk fr hp ay an/\R ay an
theorem aeD{an:HP}(hw:Wk fr hp ay an)(h:R ay an):rO R fr hp:=⟨ay,an,hw,h⟩
theorem sS(h:R fr hp):rO R fr hp:=⟨fr,hp,Wk.refl _ _,h⟩
theorem aeE:KM (rO R) (rO R):=by rintro f f' hp hf ⟨ay,an,h1,h2⟩;exact⟨ay,an,hf.wk.trans h1,h2⟩
theorem Qn:fZ (rO R) []:=⟨aeE,.nil⟩
theorem aeF{d γ m i:Nat}{k:IntKind}(h:i<m)(he:(hp γ).map (·.e)=some 1):dG 1 (.aM γ 0 m) (.int k (i:Int)) d fr hp K=K (af fr d (.np γ i 0)) hp:=by
 have e:(0:Int)<=(i:Int):=by omega
 simp[dG,e,h,he]
theorem aeG{d γ o m:Nat}:ox (.aM γ o m) d fr hp K=K (af fr d (.int .i64 m)) hp:=rfl
theorem aeH{e by_ ty ty' d β γ n:Nat}{xs:List PV}{y:PV}{fz:Bool}(hb:hp β=some ⟨e,ty,xs,false⟩)(hy:hp γ=some ⟨e,ty',[y],fz⟩)(h0:0<e)(hn:n=xs.length)(h1:(n+1)*by_<=140737488355328)(h2:n+1<=9223372036854775807)(hB:2000000<=β):
  iH e by_ ty (.ms β n) (.ms γ 1) d fr hp K=K (af (fF β fr) d (.ms β (n+1))) (Qy hp β ⟨e,ty,xs++[y],false⟩):=by
 subst hn;have b1:b9 β=true:=by simp[b9];omega
 have b2:bG β=false:=by simp[bG];omega
 simp[iH,jt,hy,hb,h0,b1,b2,h1,h2]
theorem Ry{α:Type}{f:α->PV}{y:α}{e by_ ty ty' d β γ n:Nat}{xs:List α}{fz:Bool}(hb:hp β=some ⟨e,ty,xs.map f,false⟩)(hy:hp γ=some ⟨e,ty',[f y],fz⟩)(h0:0<e)(hn:n=xs.length)(h1:(n+1)*by_<=140737488355328)(h2:n+1<=9223372036854775807)(hB:2000000<=β):
  iH e by_ ty (.ms β n) (.ms γ 1) d fr hp K=K (af (fF β fr) d (.ms β (n+1))) (Qy hp β ⟨e,ty,(xs++[y]).map f,false⟩):=by
 rw[aeH hb hy h0 (by simp[hn]) h1 h2 hB];simp
theorem aaI{β γ o n:Nat}(h:γ≠β):cZ β (.aM γ o n)= .aM γ o n:=by simp only[cZ];rw[if_neg h]
theorem acw{β γ o n:Nat}(h:γ≠β):cZ β (.np γ o n)= .np γ o n:=by simp only[cZ];rw[if_neg h]
theorem aju:
  (∀(β:Nat)(k:IntKind)(n:Int),cZ β (.int k n)= .int k n)/\
  (∀(β:Nat)(b:Bool),cZ β (.bool b)= .bool b)/\
  (∀(β e:Nat)(xs:List PV),cZ β (.sl e xs)= .sl e xs)/\
  (∀(β:Nat)(cs:List PV),cZ β (.agg cs)= .agg cs)/\
  (∀(β:Nat)(cs:List PV),cZ β (.pt cs)= .pt cs)/\
  (∀(β:Nat),cZ β .aa= .aa)/\
  (∀(β:Nat),cZ β .undef= .undef)/\
  (∀(γ:Nat)(k:IntKind)(n:Int),iZ γ (.int k n)= .int k n)/\
  (∀(γ:Nat)(b:Bool),iZ γ (.bool b)= .bool b)/\
  (∀(γ e:Nat)(xs:List PV),iZ γ (.sl e xs)= .sl e xs)/\
  (∀(γ:Nat)(cs:List PV),iZ γ (.agg cs)= .agg cs)/\
  (∀(γ:Nat)(cs:List PV),iZ γ (.pt cs)= .pt cs)/\
  (∀(γ:Nat),iZ γ .aa= .aa)/\
  (∀(γ:Nat),iZ γ .undef= .undef)/\
  (∀(γ β o n:Nat),iZ γ (.ax β o n)= .ax β o n)/\
  (∀(γ β o n:Nat),iZ γ (.mp β o n)= .mp β o n)/\
  (∀(γ β o n:Nat),iZ γ (.rb β o n)= .rb β o n)/\
  (∀(γ β o n:Nat),iZ γ (.aM β o n)= .aM β o n)/\
  (∀(γ β o n:Nat),iZ γ (.np β o n)= .np β o n)/\
  (∀(β γ o n:Nat),bX β (.aM γ o n)= .aM γ o n)/\
  (∀(β γ o n:Nat),bX β (.np γ o n)= .np γ o n)/\
  (∀(β γ e ty:Nat)(xs:List PV),bX β (.aN γ e ty xs)= .aN γ e ty xs)/\
  (∀(β:Nat),bX β .undef= .undef)/\
  (∀(β:Nat)(cs:List PV),bX β (.pt cs)= .pt cs):=by
 refine⟨?_,?_,?_,?_,?_,?_,?_,?_,?_,?_,?_,?_,?_,?_,?_,?_,?_,?_,?_,?_,?_,?_,?_,?_⟩<;>intros<;>rfl
theorem acx(β γ o n:Nat):cZ β (.ax γ o n)=if γ=β then .undef else .ax γ o n:=Ny β γ o n
theorem acy(β γ o n:Nat):cZ β (.mp γ o n)=if γ=β then .undef else .mp γ o n:=Nz β γ o n
end Go.FW
namespace Go.FW
open Go
variable {C : Ctx} {ρ : Nat -> Option Nat} {fr ay : Fr} {hp : HP} {w : World} {K R : Qg}
theorem aeI{F:Fr}{s:Nat}:fT F s=iu (F s):=rfl
theorem ajv:
  (∀(k:IntKind)(n:Int),iu (.int k n)= .int k n)/\
  (∀(b:Bool),iu (.bool b)= .bool b)/\
  (∀(e:Nat)(xs:List PV),iu (.sl e xs)= .sl e xs)/\
  (∀(cs:List PV),iu (.agg cs)= .agg cs)/\
  (∀(cs:List PV),iu (.pt cs)= .pt cs)/\
  (iu .aa= .aa)/\(iu .undef= .undef)/\
  (∀(β o n:Nat),iu (.ax β o n)=if kC β then .undef else .ax β o n)/\
  (∀(β o n:Nat),iu (.mp β o n)=if kC β then .undef else .mp β o n)/\
  (∀(β o n:Nat),iu (.rb β o n)=if kC β then .undef else .rb β o n)/\
  (∀(β o n:Nat),iu (.aM β o n)=if lk β then .undef else .aM β o n)/\
  (∀(β o n:Nat),iu (.np β o n)=if lk β then .undef else .np β o n):=by
 refine⟨fun _ _=>rfl,fun _=>rfl,fun _ _=>rfl,fun _=>rfl,fun _=>rfl,rfl,rfl,?_,?_,?_,?_,?_⟩<;>intros<;>simp[iu,PV.refs,PV.bS]
theorem ahE{β:Nat}:lk β=(kC β||decide (β<1000000)):=rfl
theorem ahF{β:Nat}:kC β=decide (2000000<=β):=rfl
theorem acz{d γ n:Nat}{S:List Nat}{x:PV}{s:Nat}:ajt d S γ n x fr s=if s=γ then x else if S.contains s then .aM γ 0 n else bX d (fr s):=rfl
theorem aeJ{by_ ty d:Nat}{k k':IntKind}{n c:Nat}(h2:n<=c)(h3:by_*c<=281474976710656)(h4:c<=9223372036854775807):
  m8 1 by_ ty .aa (.int k (n:Int)) (.int k' (c:Int)) d fr hp K=K (af (cI d fr) d (.ms d n)) (Qy hp d ⟨1,ty,List.replicate n .aa,false⟩):=by
 rw[BM (e:=1) (by omega) rfl (by omega) (by omega) (by omega) (by omega)];rfl
theorem ahG{k c:Nat}(h:c<3000000):(3000000+k=c)=False:=by simp;omega
theorem aeK{k c:Nat}(h:c<3000000):(c=3000000+k)=False:=by simp;omega
theorem ahH{k j:Nat}:(3000000+k=3000000+j)=(k=j):=by simp
attribute [go_sem] ahG aeK ahH aeJ acz aaE aaF aaG aaH acX acv TC TE aju acx acy aaI acw aeF aeG aeI ajv ahE ahF
end Go.FW
namespace Go.FW
open Go
variable {C C' : Ctx} {ρ bd : Nat -> Option Nat} {fr ay : Fr} {hp an : HP} {w : World} {K R : Qg}
theorem mE{sk:List It}{r:RT}{bE:Fr}{aE:HP}(hw:Wk fr hp bE aE)(h:vc C R (.o r::sk) bE aE):vc C R (.o (.wk r)::sk) fr hp:=by rw[DH];exact⟨bE,aE,hw,h⟩
def dD(σ:Nat->Nat):PV->PV
 |.mp β i o=>.mp (σ β) i o
 |.ax β o n=>.ax (σ β) o n
 |.rb β o n=>.rb (σ β) o n
 |.np β i o=>.np (σ β) i o
 |.aM β o n=>.aM (σ β) o n
 |p=>p
def eM(σ:Nat->Nat):PV->PV
 |.fn f a b=>.fn f (a.map (dD σ)) (b.map (dD σ))
 |.aT cs=>.aT (cs.map (dD σ))
 |.eO cs=>.eO (cs.map (dD σ))
 |.eP cs q=>.eP (cs.map (dD σ)) q
 |.aN γ e ty xs=>.aN (σ γ) e ty (xs.map fun x=>gQ (x.bj.map (dD σ)))
 |p=>dD σ p
structure xF(σ:Nat->Nat)(ρ bd:Nat->Option Nat)(hp an:HP)(β:Nat):Prop where
 r:bd (σ β)=ρ β
 h:∀hb,hp β=some hb->∃eU,an (σ β)=some eU/\eU.e=hb.e/\eU.ty=hb.ty/\eU.xs=hb.xs
 b:b9 β=true->b9 (σ β)=true
theorem Qu.dD{X:Nat->Prop}{σ:Nat->Nat}{p:PV}{v:Value}(h:Qu w X p v):FW.dD σ p=p:=by cases h<;>rfl
theorem eG.iX{σ:Nat->Nat}{β o n:Nat}{v:Value}(h:eG ρ hp w β o n v)(hr:xF σ ρ bd hp an β):eG bd an w (σ β) o n v:=by obtain⟨hb,h1,h2,h3⟩:=h;obtain⟨aw,k1,k2,k3,k4⟩:=hr.h hb h1;refine⟨aw,k1,by rw[k4];exact h2,?_⟩;rw[hr.r,k2];exact h3
theorem nF.iX{σ:Nat->Nat}{γ o n:Nat}{v:Value}(h:nF ρ hp w γ o n v)(hr:xF σ ρ bd hp an γ):nF bd an w (σ γ) o n v:=by obtain⟨h0,hb,b,cap,h1,h2,h3⟩:=h;obtain⟨aw,k1,k2,k3,k4⟩:=hr.h hb h1;exact⟨hr.b h0,aw,b,cap,k1,by rw[hr.r];exact h2,by rw[k2];exact h3⟩
theorem Qu.sub{X X':Nat->Prop}{p:PV}{v:Value}(h:Qu w X p v)(hX:∀b,X' b->X b):Qu w X' p v:=h.mono (fun _ _ _=>rfl) (fun b _ hn hx=>hn (hX b hx)) (Kac _)
theorem cT.iX{σ:Nat->Nat}{p:PV}{v:Value}(h:cT C ρ hp w p v)(hX:∀b,aH C' bd an b->aH C ρ hp b)(hr:∀β∈p.dP,xF σ ρ bd hp an β):cT C' bd an w (dD σ p) v:=by
 cases p with
 |undef=>trivial
 |ax β o n=>exact⟨(hr β (by simp[PV.dP])).b h.1,h.2.iX (hr β (by simp[PV.dP]))⟩
 |aM γ o n=>exact nF.iX h (hr γ (by simp[PV.dP]))
 |mp=>cases h
 |rb=>cases h
 |np=>cases h
 |_=>exact Qu.sub h hX
theorem cU.iX{σ:Nat->Nat}{p:PV}{v:Value}(h:cU C ρ hp w p v)(hX:∀b,aH C' bd an b->aH C ρ hp b)(hr:∀β∈p.bN++p.ep,xF σ ρ bd hp an β):cU C' bd an w (dD σ p) v:=by
 cases p with
 |mp β i o=>have hq:=hr β (by simp[PV.bN]);obtain⟨b,hb,h1,h2,h3⟩:=h;obtain⟨aw,k1,k2,k3,k4⟩:=hq.h hb h2;exact⟨b,aw,by rw[hq.r];exact h1,k1,by rw[k2];exact h3⟩
 |ax β o n=>exact eG.iX h (hr β (by simp[PV.bN]))
 |rb β o n=>obtain⟨b,u,h1,h2,h3,h4,h5⟩:=h;exact⟨b,u,h1,h2,fun hx=>h3 (hX b hx),h4,h5.iX (hr β (by simp[PV.bN]))⟩
 |np γ i o=>have hq:=hr γ (by simp[PV.bN,PV.ep]);obtain⟨h0,b,hb,h1,h2,h3⟩:=h;obtain⟨aw,k1,k2,k3,k4⟩:=hq.h hb h2;exact⟨hq.b h0,b,aw,by rw[hq.r];exact h1,k1,by rw[k2];exact h3⟩
 |aM γ o n=>exact nF.iX h (hr γ (by simp[PV.bN,PV.ep]))
 |_=>exact Qu.sub h hX
theorem Rz{cs:List PV}(h:∀c∈cs,(∀ds,c≠ .agg ds)/\∀ds,c≠ .aT ds):(gQ cs).bj=cs:=by
 match cs,h with
 | [],_=>rfl
 | [c],h=>
  obtain⟨h1,h2⟩:=h c (by simp);cases c with
  |agg ds=>exact absurd rfl (h1 ds)
  |aT ds=>exact absurd rfl (h2 ds)
  |_=>rfl
 |c::d::cs,_=>simp only[gQ,nA];split<;>rfl
theorem cT.one{p:PV}{v:Value}(h:cT C ρ hp w p v):(∀ds,p≠ .agg ds)/\∀ds,p≠ .aT ds:=by refine⟨fun ds e=>?_,fun ds e=>?_⟩<;>subst e<;>cases h
theorem Qt.iX{σ:Nat->Nat}{p:PV}{v:Value}(h:Qt C ρ hp w p v)(hX:∀b,aH C' bd an b->aH C ρ hp b)(hr:∀β∈p.refs++p.bS,xF σ ρ bd hp an β):Qt C' bd an w (eM σ p) v:=by
 have hV:∀q u,Qu w (aH C ρ hp) q u->Qu w (aH C' bd an) q u:=fun q u hq=>Qu.sub hq hX;cases p with
 |undef=>trivial
 |mp β i o=>exact cU.iX (w:=w) (p:=.mp β i o) h hX (by simpa[PV.refs,PV.bS,PV.bN,PV.ep]using hr)
 |ax β o n=>exact cU.iX (w:=w) (p:=.ax β o n) h hX (by simpa[PV.refs,PV.bS,PV.bN,PV.ep]using hr)
 |rb β o n=>exact cU.iX (w:=w) (p:=.rb β o n) h hX (by simpa[PV.refs,PV.bS,PV.bN,PV.ep]using hr)
 |np γ i o=>exact cU.iX (w:=w) (p:=.np γ i o) h hX (by simpa[PV.refs,PV.bS,PV.bN,PV.ep]using hr)
 |aM γ o n=>exact cU.iX (w:=w) (p:=.aM γ o n) h hX (by simpa[PV.refs,PV.bS,PV.bN,PV.ep]using hr)
 |aT cs=>obtain⟨vs,rfl,h1,h2⟩:=h;refine⟨vs,rfl,by simpa using h1,fun i x hi=>?_⟩;simp only[Kaw,Kaa]at hi;obtain⟨y,hy,rfl⟩:=hi;exact(h2 i y hy).iX hX fun β al=>hr β (KbG _ (Kaq.2 ⟨y,Kai hy,al⟩))
 |eO cs=>obtain⟨vs,rfl,h1,h2⟩:=h;refine⟨vs,rfl,by simpa using h1,fun i x hi=>?_⟩;simp only[Kaw,Kaa]at hi;obtain⟨y,hy,rfl⟩:=hi;exact(h2 i y hy).iX hX fun β al=>hr β (KbG _ (Kaq.2 ⟨y,Kai hy,al⟩))
 |eP cs q=>obtain⟨vs,u,rfl,h1,h2,h3⟩:=h;refine⟨vs,u,rfl,by simpa using h1,fun i x hi=>?_,h3.mono (fun _ _ _=>rfl) (fun b _ hn hx=>hn (hX b hx)) (Kac _)⟩;simp only[Kaw,Kaa]at hi;obtain⟨y,hy,rfl⟩:=hi;exact(h2 i y hy).iX hX fun β al=>hr β (KbG _ (Kaq.2 ⟨y,Kai hy,al⟩))
 | aN γ e ty xs=>
  obtain⟨h0,he,b,hb,cur,cap,h1,h2,h3,h4,h5,h6,h7,h8,h9,bF,cn⟩:=h;have hq:=hr γ (by simp[PV.bS]);have key:∀(i:Nat)(x:PV),xs[i]? =some x->∀(j:Nat)(y:PV),x.bj[j]? =some y->cT C' bd an w (dD σ y) (cur.getD (i*e+j) undef):=fun i x hx j y hy=>
   (cn i x hx j y hy).iX hX fun β al=>hr β (KbG _ (Kbl _ (Kaq.2 ⟨x,Kai hx,Kaq.2 ⟨y,Kai hy,al⟩⟩)))
  have ks:∀(i:Nat)(x:PV),xs[i]? =some x->(gQ (x.bj.map (dD σ))).bj=x.bj.map (dD σ):=fun i x hx=>by refine Rz fun c hc=>?_;obtain⟨y,hy,rfl⟩:=KaI.1 hc;obtain⟨j,hj⟩:=KaE hy;exact(key i x hx j y hj).one
  obtain⟨aw,k1,k2,k3,k4⟩:=hq.h hb h2;refine⟨hq.b h0,he,b,aw,cur,cap,by rw[hq.r];exact h1,k1,by rw[k4];exact h3,by rw[k2];exact h4,by rw[k3];exact h5,h6,h7,by simpa using h8,h9,fun i x hx=>?_,fun i x hx j y hy=>?_⟩
  ·simp only[Kaw,Kaa]at hx;obtain⟨x0,bp,rfl⟩:=hx;rw[ks i x0 bp,KaV];exact bF i x0 bp
  ·simp only[Kaw,Kaa]at hx;obtain⟨x0,bp,rfl⟩:=hx;rw[ks i x0 bp,Kaw,Kaa]at hy;obtain⟨y0,cV,rfl⟩:=hy;exact key i x0 bp j y0 cV
 | fn f first cap=>
  obtain⟨fv,cv,rfl,h1,h2,h3,h4⟩:=h;have hm:∀(l:List PV)(x:PV),x∈l->∀β∈x.bN++x.ep,β∈l.flatMap PV.bN++l.flatMap PV.ep:=fun l x hx β al=>by
   rcases KaU.1 al with al|al
   ·exact KcQ _ (Kaq.2 ⟨x,hx,al⟩)
   ·exact KbG _ (Kaq.2 ⟨x,hx,al⟩)
  refine⟨fv,cv,rfl,by simpa using h1,by simpa using h2,fun i x hi=>?_,fun i x hi=>?_⟩
  ·simp only[Kaw,Kaa]at hi;obtain⟨y,hy,rfl⟩:=hi;refine(h3 i y hy).iX hX fun β al=>hr β ?_;have:=hm first y (Kai hy) β al
   simp only[PV.refs,PV.bS,KaU]at this⊢;rcases this with h|h
   ·exact .inl (.inl h)
   ·exact .inr (.inl h)
  ·simp only[Kaw,Kaa]at hi;obtain⟨y,hy,rfl⟩:=hi;refine(h4 i y hy).iX hX fun β al=>hr β ?_;have:=hm cap y (Kai hy) β al;simp only[PV.refs,PV.bS,KaU]at this⊢;rcases this with h|h
   ·exact .inl (.inr h)
   ·exact .inr (.inr h)
 |agg cs=>exact dB.move (p:=.agg cs) h hV
 |au cs=>exact dB.move (p:=.au cs) h hV
 |_=>exact hV _ _ h
theorem ahI(σ τ:Nat->Nat)(h1:∀β hb,hp β=some hb->an (σ β)=some hb/\τ (σ β)=β)(h2:∀γ hb,an γ=some hb->hp (τ γ)=some hb/\σ (τ γ)=γ)
  (hB:∀β,hp β≠none->b9 β=true->b9 (σ β)=true) (hY:∀β,hp β≠none->bG (σ β)=bG β/\(bG β=true->σ β=β)) (hf:∀s,ay s=eM σ (fr s)∨ay s= .undef):Wk fr hp ay an:=by
 rintro C tmps w ⟨ρ,hs⟩;obtain⟨bd,bz⟩:∃f:Nat->Option Nat,f=fun γ=>if an γ=none then none else ρ (τ γ):=⟨_,rfl⟩
 have hr:∀β,hp β≠none->xF σ ρ bd hp an β:=fun β al=>by obtain⟨hb,hq⟩:=KcP.1 al;obtain⟨a1,a2⟩:=h1 β hb hq;refine⟨?_,(fun hb hq=>⟨hb,(h1 β hb hq).1,rfl,rfl,rfl⟩),hB β al⟩;rw[bz];simp only[];rw[if_neg (by rw[a1];simp),a2]
 have aw:∀γ hb,an γ=some hb->bd γ=ρ (τ γ):=fun γ hb hq=>by rw[bz];simp only[];rw[if_neg (by rw[hq];simp)]
 have hX:∀b,aH C bd an b->aH C ρ hp b:=by
  rintro b (hx|⟨γ,hg,g1,g2,g3⟩)
  ·exact .inl hx
  ·rw[aw γ hg g1]at g3;exact .inr ⟨τ γ,hg,(h2 γ hg g1).1,g2,g3⟩
 refine⟨bd,hs.sz,hs.ext,hs.gT,fun γ hb ak=>?_,fun γ δ b g1 g2 g3 g4=>?_,fun i=>?_⟩
 ·obtain⟨a1,a2⟩:=h2 γ hb ak;obtain⟨q1,q2,q3,q4,q5⟩:=hs.own (τ γ) hb a1;obtain⟨y1,y2⟩:=hY (τ γ) (by simp[a1]);rw[a2]at y1 y2;refine⟨q1,q2,?_,fun hy=>?_,fun hR=>?_⟩
  rotate_left
  rotate_left
  ·have hy:bG γ=true:=by simp[iW]at hR;simp[bG];omega
   have e:=y2 (by rw[<-y1];exact hy);exact q5 (by rw[<-e];exact hR)
  ·rw[aw γ hb ak];cases hq:ρ (τ γ)with
   |none=>rw[hq]at q3;exact q3
   |some b=>
    rw[hq]at q3;refine⟨?_,q3.2.1,q3.2.2.move rfl rfl rfl rfl fun q u hq=>Qu.sub hq hX⟩;have:=q3.1;unfold Ctx.cls at this⊢;rw[y1];split at this
    ·rename_i hy;rw[if_pos hy,y2 hy];exact this
    ·rename_i hy;rw[if_neg hy];exact this
  ·rw[aw γ hb ak,q4 (by rw[<-y1];exact hy),<-y2 (by rw[<-y1];exact hy)]
 ·obtain⟨x1,k1⟩:=KcP.1 g1;obtain⟨x2,k2⟩:=KcP.1 g2;rw[aw γ x1 k1]at g3;rw[aw δ x2 k2]at g4;have:=hs.inj (τ γ) (τ δ) b (by rw[(h2 γ x1 k1).1];simp) (by rw[(h2 δ x2 k2).1];simp) g3 g4;rw[<-(h2 γ x1 k1).2,<-(h2 δ x2 k2).2,this]
 ·have cH:=hs.eQ i;rcases hf i with e|e
  ·rw[e];exact cH.iX hX fun β al=>hr β (by
    rcases KaU.1 al with h|h
    ·exact cH.known.1 β h
    ·exact cH.known.2 β h)
  ·rw[e];trivial
def l6(β δ x:Nat):Nat:=if x=β then δ else x
def oN(β δ:Nat)(fr:Fr):Fr:=fun s=>eM (l6 β δ) (fr s)
def Bv(β δ:Nat)(hp:HP):HP:=fun x=>if x=δ then hp β else if x=β then none else hp x
theorem FJ(β δ:Nat)(lh:hp δ=none)(h2:2000000<=δ)(hY:bG β=false)(aP:β≠δ):Wk fr hp (oN β δ fr) (Bv β δ hp):=by
 have bδ:b9 δ=true:=by simp[b9];omega
 have yδ:bG δ=false:=by simp[bG];omega
 refine ahI (l6 β δ) (fun y=>if y=δ then β else y) (fun x hb hx=>?_) (fun y hb hy=>?_) (fun x hx hb=>?_) (fun x hx=>?_) (fun s=>.inl rfl)
 ·unfold l6 Bv;by_cases e:x=β
  ·subst e;simp[hx]
  ·have e2:x≠δ:=fun e2=>by rw[e2,lh]at hx;cases hx
   simp[e,e2,hx]
 ·unfold Bv at hy;unfold l6;by_cases e:y=δ
  ·subst e;simp at hy;simp[hy]
  ·rw[if_neg e]at hy;by_cases e2:y=β
   ·rw[if_pos e2]at hy;cases hy
   ·rw[if_neg e2]at hy;simp[e,e2,hy]
 ·unfold l6;split
  ·exact bδ
  ·exact hb
 ·unfold l6;split
  ·rename_i e;subst e;rw[yδ,hY];simp
  ·simp
theorem ahJ{β δ x:Nat}:Bv β δ hp x=if x=δ then hp β else if x=β then none else hp x:=rfl
theorem ahk{β δ s:Nat}:oN β δ fr s=eM (l6 β δ) (fr s):=rfl
theorem ahl{β δ x:Nat}:l6 β δ x=if x=β then δ else x:=rfl
theorem aeL{β δ d:Nat}{v:PV}:oN β δ (af fr d v)=af (oN β δ fr) d (eM (l6 β δ) v):=by funext s;unfold oN af;split<;>rfl
theorem aeM{W:List (Nat×Nat)}{β δ:Nat}{J F:Fr}:oN β δ (aQ W J F)=aQ W (oN β δ J) (oN β δ F):=by funext s;unfold oN aQ;split<;>rfl
theorem ahm{σ:Nat->Nat}{p:PV}(h:∀β∈p.bN++p.ep,σ β=β):dD σ p=p:=by
 cases p with
 |mp β=>simp only[dD];rw[h β (by simp[PV.bN])]
 |ax β=>simp only[dD];rw[h β (by simp[PV.bN])]
 |rb β=>simp only[dD];rw[h β (by simp[PV.bN])]
 |np β=>simp only[dD];rw[h β (by simp[PV.bN,PV.ep])]
 |aM β=>simp only[dD];rw[h β (by simp[PV.bN,PV.ep])]
 |_=>rfl
theorem aeN{σ:Nat->Nat}{p:PV}(h:re p)(sA:∀β∈p.refs++p.bS,σ β=β):eM σ p=p:=by
 have hm:∀(l:List PV),(∀β∈l.flatMap PV.bN++l.flatMap PV.ep,σ β=β)->l.map (dD σ)=l:=fun l hl=>by
  conv=>rhs;rw[<-List.map_id l]
  refine Kba fun x hx=>ahm fun β al=>hl β ?_;rcases KaU.1 al with al|al
  ·exact KcQ _ (Kaq.2 ⟨x,hx,al⟩)
  ·exact KbG _ (Kaq.2 ⟨x,hx,al⟩)
 cases p with
 |aN γ e ty xs=>exact absurd rfl (h.2.2.1 _ _ _ _)
 |aT cs=>exact absurd rfl (h.2.2.2 _).1
 |eO cs=>exact absurd rfl (h.2.2.2 _).2.1
 |eP cs q=>exact absurd rfl ((h.2.2.2 _).2.2 _)
 | fn f a b=>
  simp only[eM];rw[hm a,hm b]
  ·intro β al;refine sA β ?_;simp only[PV.refs,PV.bS,KaU]at al⊢;rcases al with h|h
   ·exact .inl (.inr h)
   ·exact .inr (.inr h)
  ·intro β al;refine sA β ?_;simp only[PV.refs,PV.bS,KaU]at al⊢;rcases al with h|h
   ·exact .inl (.inl h)
   ·exact .inr (.inl h)
 |mp β=>simp only[eM,dD];rw[sA β (by simp[PV.refs])]
 |ax β=>simp only[eM,dD];rw[sA β (by simp[PV.refs])]
 |rb β=>simp only[eM,dD];rw[sA β (by simp[PV.refs])]
 |np β=>simp only[eM,dD];rw[sA β (by simp[PV.refs,PV.bS])]
 |aM β=>simp only[eM,dD];rw[sA β (by simp[PV.refs,PV.bS])]
 |_=>rfl
theorem acA{B:List Nat}{F:Fr}{s β:Nat}(h:β∈(dk B F s).refs):B.contains β=false:=by
 cases hq:B.contains β with
 |false=>rfl
 |true=>
  unfold dk bC at h;split at h
  ·cases h
  ·rename_i hn;exact absurd (Ka4.2 ⟨β,h,hq⟩) hn
theorem aeO{B:List Nat}{F:Fr}{β δ:Nat}(al:B.contains β=true∨2000000<=β)(aqj:β<1000000∨2000000<=β):oN β δ (dk B F)=dk B F:=by
 funext s;have hc:=xd B F s;refine aeN hc fun x hx=>if_neg fun e=>?_;subst e;rcases al with al|al
 ·rcases KaU.1 hx with h|h
  ·rw[acA h]at al;cases al
  ·have h1:=hc.2.1 x h;simp[lk,kC]at h1;omega
 ·rcases KaU.1 hx with h|h
  ·have:=hc.1 x h;simp[kC]at this;omega
  ·have:=hc.2.1 x h;simp[lk,kC]at this;omega
end Go.FW
namespace Go.FW
open Go
variable {C C' : Ctx} {ρ bd : Nat -> Option Nat} {fr ay : Fr} {hp an : HP} {w : World} {K R : Qg}
def fg(γ:Nat):PV->PV
 |.ax β o n=>if β=γ then .aM γ o n else .ax β o n
 |.mp β i o=>if β=γ then .np γ i o else .mp β i o
 |.rb β o n=>if β=γ then .undef else .rb β o n
 |p=>p
def dR(γ:Nat):PV->PV
 |.fn f a b=>bX γ (.fn f a b)
 |.aT cs=>.aT (cs.map (fg γ))
 |.eO cs=>.eO (cs.map (fg γ))
 |.eP cs q=>.eP (cs.map (fg γ)) q
 |.aN bB e ty xs=>if bB=γ then .undef else .aN bB e ty (xs.map fun x=>gQ (x.bj.map (fg γ)))
 |p=>fg γ p
def xv(γ:Nat)(x:PV)(fr:Fr):Fr:=fun s=>if s=γ then x else dR γ (fr s)
theorem Fz {γ e ty:Nat} {xs:List PV} {fz:Bool} (ak:hp γ=some ⟨e,ty,xs,fz⟩) (h0:xs≠[]) (h2:2000000<=γ) (hd:∀x∈xs,x.bj=x.cells):Wk fr hp (xv γ (.aN γ e ty xs) fr) (Qy hp γ ⟨e,ty,[],fz⟩):=by
 rintro C tmps w ⟨ρ,hs⟩;have xJ:b9 γ=true:=by simp[b9];omega
 have bk:=hs.own γ _ ak;have a9:=bk.dS;obtain⟨b,bz⟩:∃b,ρ γ=some b:=by
  cases hq:ρ γ with
  |none=>rw[hq]at a9;exact absurd a9 h0
  |some b=>exact⟨b,rfl⟩
 rw[bz]at a9;obtain⟨b1,b2,cur,cap,c1,c2,c3,c4,c5⟩:=a9;have lK:=bk.lK;obtain⟨an,pJ⟩:∃f,f=Qy hp γ ⟨e,ty,[],fz⟩:=⟨_,rfl⟩
 rw[<-pJ];have sD:an γ=some ⟨e,ty,[],fz⟩:=by rw[pJ];simp[Qy]
 have po:∀β,β≠γ->an β=hp β:=fun β al=>by rw[pJ];simp[Qy,al]
 have hX:aH C ρ an=aH C ρ hp:=by
  funext c;apply propext;constructor
  ·rintro(hx|⟨β,hb,g1,g2,g3⟩)
   ·exact .inl hx
   ·by_cases al:β=γ
    ·subst al;rw[sD]at g1;cases g1;exact .inr ⟨β,_,ak,g2,g3⟩
    ·rw[po β al]at g1;exact .inr ⟨β,hb,g1,g2,g3⟩
  ·rintro(hx|⟨β,hb,g1,g2,g3⟩)
   ·exact .inl hx
   ·by_cases al:β=γ
    ·subst al;rw[ak]at g1;cases g1;exact .inr ⟨β,_,sD,g2,g3⟩
    ·exact .inr ⟨β,hb,by rw[po β al];exact g1,g2,g3⟩
 have aF:nG w w (aH C ρ hp) (aH C ρ an):=by rw[hX];exact⟨fun _ _ _=>rfl,fun _ _ hn=>hn,Kac _⟩
 have c0:∀β,β≠γ->pY ρ ρ hp an w w β:=fun β al=>⟨rfl,fun hb hq=>⟨hb,by rw[po β al];exact hq,rfl,Kac _,fun _ _ _ h=>h,fun h=>⟨h,rfl,fun _ _=>rfl⟩⟩⟩
 have Wz:∀ {o n:Nat} {v:Value},eG ρ hp w γ o n v->nF ρ an w γ o n v:=by
  rintro o n v ⟨hb,g1,g2,g3⟩;rw[ak]at g1;cases g1;rcases g3 with⟨g3,_⟩|⟨b',cp,g3,g4,g5,g6⟩
  ·rw[bz]at g3;cases g3
  ·rw[bz]at g3;cases g3;refine⟨xJ,_,b,cp,sD,bz,g4,g5,g6,?_⟩;obtain⟨cur',ty',d1,d2⟩:=g5;rw[c1]at d1;cases d1;have:cap=o+cp:=KbA lK (by rw[<-c2,<-d2]);simp only at g2 c3;omega
 have cell:∀ {p:PV} {v:Value},cT C ρ hp w p v->cT C ρ an w (fg γ p) v:=by
  intro p v h;cases p with
  |ax β o n=>
   by_cases al:β=γ
   ·subst al;simp only[fg,if_true];exact Wz h.2
   ·simp only[fg,if_neg al];exact cT.move (p:=.ax β o n) h aF fun x hx=>by simp[PV.dP]at hx;subst hx;exact(c0 _ al).BH
  | aM β o n=>
   by_cases al:β=γ
   ·obtain⟨_,hb,b',cp,k1,k2,k3,k4,k5,k6⟩:=h;subst al;rw[ak]at k1;cases k1;exact⟨xJ,_,b',cp,sD,k2,k3,k4,k5,k6⟩
   ·exact cT.move (p:=.aM β o n) h aF fun x hx=>by simp[PV.dP]at hx;subst hx;exact(c0 _ al).BH
  |mp=>cases h
  |rb=>cases h
  |np=>cases h
  |undef=>trivial
  |_=>exact cT.move h aF (fun x hx=>by cases hx)
 refine⟨ρ,hs.sz,hs.ext,hs.gT,fun β hb al=>?_,fun β δ c g1 g2 g3 g4=>?_,fun i=>?_⟩
 ·by_cases hq:β=γ
  ·subst hq;rw[sD]at al;cases al;refine⟨lK,(fun i x hx=>by simp at hx),?_,bk.fix,bk.ro⟩;rw[bz];exact⟨b1,b2,cur,cap,c1,c2,Kbw _,c4,fun i x hx=>by simp at hx⟩
  ·rw[po β hq]at al;obtain⟨q1,q2,q3,q4,q5⟩:=hs.own β hb al;refine⟨q1,q2,?_,q4,q5⟩;cases hr:ρ β with
   |none=>rw[hr]at q3;exact q3
   |some c=>rw[hr]at q3;exact⟨q3.1,q3.2.1,q3.2.2.move rfl rfl rfl rfl aF.rc⟩
 ·have f:∀β,an β≠none->hp β≠none:=fun β al=>by
   by_cases hq:β=γ
   ·subst hq;simp[ak]
   ·rwa[po β hq]at al
  exact hs.inj β δ c (f β g1) (f δ g2) g3 g4
 ·have cH:=hs.eQ i;show Qt C ρ an w (xv γ (.aN γ e ty xs) fr i) _;unfold xv;split
  ·refine⟨xJ,lK,b,_,cur,cap,bz,sD,rfl,rfl,rfl,c1,c2,c3,c4,fun k x hx=>?_,fun k x hx j y hy=>?_⟩
   ·rw[hd x (Kai hx)];exact(bk.len k x hx).1
   ·rw[hd x (Kai hx)]at hy;have:=c5 k x hx j y hy;have h3:Qu w (aH C ρ an) y (cur.getD (k*e+j) undef):=by rw[hX];exact this
    cases y with
    |undef=>trivial
    |ax=>cases h3
    |aM=>cases h3
    |_=>exact h3
  ·generalize fr i=p at cH;cases p with
   |ax β o n=>
    by_cases al:β=γ
    ·subst al;simp only[dR,fg,if_true];exact Wz cH
    ·simp only[dR,fg,if_neg al];exact Qt.pU cH aF (fun x hx=>by simp[PV.refs]at hx;subst hx;exact(c0 _ al).o) (fun x hx=>by cases hx)
   | mp β k o=>
    by_cases al:β=γ
    ·subst al;simp only[dR,fg,if_true];obtain⟨b',hb,g1,g2,g3⟩:=cH;rw[ak]at g2;cases g2;exact⟨xJ,b',_,g1,sD,g3⟩
    ·simp only[dR,fg,if_neg al];exact Qt.pU cH aF (fun x hx=>by simp[PV.refs]at hx;subst hx;exact(c0 _ al).o) (fun x hx=>by cases hx)
   |rb β o n=>
    by_cases al:β=γ
    ·simp only[dR,fg,if_pos al];trivial
    ·simp only[dR,fg,if_neg al];exact Qt.pU cH aF (fun x hx=>by simp[PV.refs]at hx;subst hx;exact(c0 _ al).o) (fun x hx=>by cases hx)
   | np β k o=>
    by_cases al:β=γ
    ·subst al;obtain⟨_,b',hb,g1,g2,g3⟩:=cH;rw[ak]at g2;cases g2;exact⟨xJ,b',_,g1,sD,g3⟩
    ·refine Qt.pU (p:=.np β k o) cH aF (fun x hx=>by cases hx) (fun x hx=>?_);have e1:x=β:=by simpa[PV.bS]using hx
     rw[e1];exact c0 _ al
   |aM β o n=>exact cell (p:=.aM β o n) cH
   |aT cs=>obtain⟨vs,e1,h1,h3⟩:=cH;refine⟨vs,e1,by simpa using h1,fun k x hk=>?_⟩;simp only[Kaw,Kaa]at hk;obtain⟨y,hy,rfl⟩:=hk;exact cell (h3 k y hy)
   |eO cs=>obtain⟨vs,e1,h1,h3⟩:=cH;refine⟨vs,e1,by simpa using h1,fun k x hk=>?_⟩;simp only[Kaw,Kaa]at hk;obtain⟨y,hy,rfl⟩:=hk;exact cell (h3 k y hy)
   |eP cs q=>obtain⟨vs,u,e1,h1,h3,h4⟩:=cH;refine⟨vs,u,e1,by simpa using h1,fun k x hk=>?_,h4.mono aF.dS aF.out aF.size⟩;simp only[Kaw,Kaa]at hk;obtain⟨y,hy,rfl⟩:=hk;exact cell (h3 k y hy)
   | aN β e' ty' ys=>
    simp only[dR];split
    ·trivial
    ·rename_i al;obtain⟨k0,he,b',hb,cur',eI,k1,k2,k3,k4,k5,k6,k7,k8,k9,Bs,ym⟩:=cH;have ks:∀(k:Nat)(x:PV),ys[k]? =some x->(gQ (x.bj.map (fg γ))).bj=x.bj.map (fg γ):=fun k x hx=>by refine Rz fun c hc=>?_;obtain⟨y,hy,rfl⟩:=KaI.1 hc;obtain⟨j,hj⟩:=KaE hy;exact(cell (ym k x hx j y hj)).one
     refine⟨k0,he,b',hb,cur',eI,k1,by rw[po β al];exact k2,k3,k4,k5,k6,k7,by simpa using k8,k9,fun k x hx=>?_,fun k x hx j y hy=>?_⟩
     ·simp only[Kaw,Kaa]at hx;obtain⟨x0,bp,rfl⟩:=hx;rw[ks k x0 bp,KaV];exact Bs k x0 bp
     ·simp only[Kaw,Kaa]at hx;obtain⟨x0,bp,rfl⟩:=hx;rw[ks k x0 bp,Kaw,Kaa]at hy;obtain⟨y0,cV,rfl⟩:=hy;exact cell (ym k x0 bp j y0 cV)
   | fn f a c=>
    simp only[dR,bX];split
    ·trivial
    ·rename_i hn;have yb:γ ∉ (PV.fn f a c).refs:=by simpa using hn
     by_cases hm:γ∈(PV.fn f a c).bS
     ·
      obtain⟨fv,cv,g1,g2,g3,g4,g5⟩:=cH;have DR:∀ {x:PV} {v:Value},γ ∉ x.bN->cU C ρ hp w x v->cU C ρ an w x v:=by
       intro x v hx h;cases x with
       | np β k o=>
        by_cases al:β=γ
        ·subst al;obtain⟨_,b',hb,k1,k2,k3⟩:=h;rw[ak]at k2;cases k2;exact⟨xJ,b',_,k1,sD,k3⟩
        ·exact cU.move (p:=.np β k o) h aF (fun x hx=>by cases hx) (fun x hx=>by simp[PV.ep]at hx;subst hx;exact(c0 _ al).BH)
       |aM β o n=>exact cell (p:=.aM β o n) h
       |mp β k o=>exact cU.move (p:=.mp β k o) h aF (fun x aS=>by simp[PV.bN]at aS hx;subst aS;exact(c0 _ (fun e=>hx e.symm)).o) (fun x hx=>by cases hx)
       |ax β k o=>exact cU.move (p:=.ax β k o) h aF (fun x aS=>by simp[PV.bN]at aS hx;subst aS;exact(c0 _ (fun e=>hx e.symm)).o) (fun x hx=>by cases hx)
       |rb β k o=>exact cU.move (p:=.rb β k o) h aF (fun x aS=>by simp[PV.bN]at aS hx;subst aS;exact(c0 _ (fun e=>hx e.symm)).o) (fun x hx=>by cases hx)
       |_=>exact cU.move h aF (fun x hx=>by cases hx) (fun x hx=>by cases hx)
      exact⟨fv,cv,g1,g2,g3,fun k x hk=>DR (fun hx=>yb (FO hk γ hx)) (g4 k x hk),fun k x hk=>DR (fun hx=>yb (FZ hk γ hx)) (g5 k x hk)⟩
     ·exact Qt.pU cH aF (fun x hx=>(c0 x (fun e=>yb (e▸hx))).o) (fun x hx=>c0 x (fun e=>hm (e▸hx)))
   |_=>exact Qt.pU cH aF (fun x hx=>by cases hx) (fun x hx=>by cases hx)
theorem acB{γ e ty:Nat}{xs xs':List PV}(D:Nat->Option (Nat×Nat))(xW:fr γ= .aN γ e ty xs)(hD:∀δ x,D δ=some x->hp δ=none/\2000000<=δ/\0<x.1)(hl:xs'.length=xs.length)
  (hx:∀(i:Nat)(x x':PV),xs[i]? =some x->xs'[i]? =some x'->x'.bj.length=x.bj.length/\∀(j:Nat)(y y':PV),x.bj[j]? =some y->x'.bj[j]? =some y'->y'=y∨(y= .aa/\∃δ z,D δ=some z/\y'= .ax δ 0 0)):
  Wk fr hp (af fr γ (.aN γ e ty xs')) (fun δ=>match D δ with|some x=>some ⟨x.1,x.2,[],false⟩|none=>hp δ):=by
 rintro C tmps w ⟨ρ,hs⟩;obtain⟨an,pJ⟩:∃f:HP,f=fun δ=>match D δ with|some x=>some ⟨x.1,x.2,[],false⟩|none=>hp δ:=⟨_,rfl⟩
 obtain⟨bd,V'⟩:∃f:Nat->Option Nat,f=fun δ=>if(D δ).isSome then none else ρ δ:=⟨_,rfl⟩
 rw[<-pJ];have pD:∀δ x,D δ=some x->an δ=some ⟨x.1,x.2,[],false⟩/\bd δ=none:=fun δ x lh=>by rw[pJ,V'];simp[lh]
 have po:∀δ,D δ=none->an δ=hp δ/\bd δ=ρ δ:=fun δ lh=>by rw[pJ,V'];simp[lh]
 have hk:∀β,hp β≠none->D β=none:=fun β al=>by
  cases hq:D β with
  |none=>rfl
  |some x=>exact absurd (hD β x hq).1 al
 have hX:∀c,aH C bd an c->aH C ρ hp c:=by
  rintro c (h|⟨β,hb,g1,g2,g3⟩)
  ·exact .inl h
  ·cases hq:D β with
   |none=>rw[(po β hq).1]at g1;rw[(po β hq).2]at g3;exact .inr ⟨β,hb,g1,g2,g3⟩
   |some x=>rw[(pD β x hq).2]at g3;cases g3
 have aF:nG w w (aH C ρ hp) (aH C bd an):=⟨fun _ _ _=>rfl,fun c _ hn h=>hn (hX c h),Kac _⟩
 have c0:∀β,hp β≠none->pY ρ bd hp an w w β:=fun β al=>⟨(po β (hk β al)).2,fun hb hq=>⟨hb,by rw[(po β (hk β al)).1];exact hq,rfl,Kac _,fun _ _ _ h=>h,fun h=>⟨h,rfl,fun _ _=>rfl⟩⟩⟩
 refine⟨bd,hs.sz,hs.ext,hs.gT,fun β hb al=>?_,fun β δ c g1 g2 g3 g4=>?_,fun i=>?_⟩
 ·cases hq:D β with
  |some x=>rw[(pD β x hq).1]at al;cases al;obtain⟨_,d2,d3⟩:=hD β x hq;refine⟨d3,(fun i x hx=>by simp at hx),?_,(fun h=>by simp[bG]at h;omega),fun h=>by simp[iW]at h;omega⟩;rw[(pD β x hq).2]
  |none=>
   rw[(po β hq).1]at al;obtain⟨q1,q2,q3,q4,q5⟩:=hs.own β hb al;refine⟨q1,q2,?_,(by rw[(po β hq).2];exact q4),q5⟩;rw[(po β hq).2];cases hr:ρ β with
   |none=>rw[hr]at q3;exact q3
   |some c=>rw[hr]at q3;exact⟨q3.1,q3.2.1,q3.2.2.move rfl rfl rfl rfl aF.rc⟩
 ·have f:∀β,an β≠none->∀c,bd β=some c->hp β≠none/\ρ β=some c:=fun β al c hc=>by
   cases hq:D β with
   |none=>rw[(po β hq).1]at al;rw[(po β hq).2]at hc;exact⟨al,hc⟩
   |some x=>rw[(pD β x hq).2]at hc;cases hc
  exact hs.inj β δ c (f β g1 c g3).1 (f δ g2 c g4).1 (f β g1 c g3).2 (f δ g2 c g4).2
 ·have L9:=(hs.eQ i).known;have old:Qt C bd an w (fr i) (tmps.getD i undef):=(hs.eQ i).pU aF (fun β al=>(c0 β (L9.1 β al)).o) (fun β al=>c0 β (L9.2 β al));unfold af;split
  ·rename_i hi;subst hi;rw[xW]at old;obtain⟨k0,he,b',hb,cur',eI,k1,k2,k3,k4,k5,k6,k7,k8,k9,Bs,ym⟩:=old;have eK:∀(k:Nat)(x':PV),xs'[k]? =some x'->∃x,xs[k]? =some x:=fun k x' dT=>by
    have:k<xs.length:=by have:=(Kad.1 dT).1;omega
    exact⟨_,Kam this⟩
   refine⟨k0,he,b',hb,cur',eI,k1,k2,k3,k4,k5,k6,k7,by omega,k9,fun k x' dT=>?_,fun k x' dT j y' jC=>?_⟩
   ·obtain⟨x,ss⟩:=eK k x' dT;rw[(hx k x x' ss dT).1];exact Bs k x ss
   ·obtain⟨x,ss⟩:=eK k x' dT;obtain⟨l1,l2⟩:=hx k x x' ss dT;have hj:j<x.bj.length:=by have:=(Kad.1 jC).1;omega
    have hy:=Kam hj;have hr:=ym k x ss j _ hy;rcases l2 j _ y' hy jC with e1|⟨e1,δ,z,e2,e3⟩
    ·rw[e1];exact hr
    ·rw[e1]at hr;obtain⟨_,d2,_⟩:=hD δ z e2;rw[e3];have hv:cur'.getD (k*e+j) undef= .slice none 0 0:=by generalize cur'.getD (k*e+j) undef=u at hr;cases hr;rfl
     exact⟨by simp[b9];omega,_,(pD δ z e2).1,Kac _,.inl ⟨(pD δ z e2).2,hv,rfl,rfl⟩⟩
  ·exact old
def Bu:List PV->PV
 | [c]=>c
 |cs=>.agg cs
def jO(fr:Fr)(hp:HP):Nat->PV->PV
 |0,p=>p
 | k+1,p=>match p with
  |.ax β o n=>match hp β with
   |some hb=>.sl hb.e ((hb.xs.drop o).take n)
   |none=>.undef
  |.aM γ o n=>match fr γ with
   |.aN _ e _ xs=>.sl e (((xs.drop o).take n).map fun x=>Bu (x.bj.map (jO fr hp k)))
   |_=>.undef
  |p=>p
def um(fr:Fr):Nat->PV->List Nat
 |0,_=>[]
 | k+1,p=>match p with
  |.ax β _ _=>[β]
  |.aM γ o n=>match fr γ with
   |.aN _ _ _ xs=>γ::(((xs.drop o).take n).flatMap fun x=>x.bj.flatMap (um fr k))
   |_=>[]
  |_=>[]
def sB(fr:Fr):Nat->PV->Prop
 |0,p=>match p with
  |.undef| .ax _ _ _| .aM _ _ _=>False
  |_=>True
 | k+1,p=>match p with
  |.undef=>False
  |.ax β _ _=>bG β=false
  |.aM γ o n=>match fr γ with
   |.aN bB _ _ xs=>bB=γ/\bG γ=false/\o+n<=xs.length/\∀x∈(xs.drop o).take n,∀c∈x.bj,sB fr k c
   |_=>False
  |_=>True
theorem aeP{tmps:Array Value}(h:aI C ρ fr hp tmps w){β b:Nat}{hb:HB}{l:List Nat}(hB:bG β=false)(al:hp β=some hb)(hl:β∈l)(bz:ρ β=some b):¬aH C ρ (cb hp l) b:=by
 have a9:=(h.own β hb al).dS;rw[bz]at a9;rintro(hx|⟨γ,hg,h1,h2,h3⟩)
 ·exact Ctx.K9 a9.1 (DC hB) hx
 ·obtain⟨ia,g1,_,_,_,_,g6⟩:=yL h1;have:=h.inj γ β b (by simp[g1]) (by simp[al]) h3 bz;subst this;exact g6 h2 hl
theorem aa9{cs:List PV}(h:∀c∈cs,c.cells=[c]):(Bu cs).cells=cs:=by
 match cs,h with
 | [],_=>rfl
 | [c],h=>exact h c (by simp)
 |_::_::_,_=>rfl
theorem Hu{tmps:Array Value}(h:aI C ρ fr hp tmps w){l:List Nat}:∀(k:Nat) {p:PV} {v:Value},cT C ρ hp w p v->sB fr k p->(∀β∈um fr k p,β∈l)->Qu w (aH C ρ (cb hp l)) (jO fr hp k p) v
 |0,p,v,hr,ho,_=>by
  cases p with
  |undef=>cases ho
  |ax=>cases ho
  |aM=>cases ho
  |_=>exact Qu.freeze hr
 | k +1,p,v,hr,ho,hl=>by
  cases p with
  |undef=>cases ho
  |ax β o n=>
   obtain⟨hb,al⟩:∃hb,hp β=some hb:=by obtain⟨_,hb,h1,_⟩:=hr;exact⟨hb,h1⟩
   have:=eG.snap h hr.2 ho (hl β (by simp[um])) al;simp only[jO,al];exact this
  | aM γ o n=>
   simp only[sB]at ho;split at ho
   ·rename_i bB e ty xs ak;obtain⟨rfl,hY,ho1,Mi⟩:=ho;have cH:=h.eQ bB;rw[ak]at cH;obtain⟨k0,he,b,hb,cur,cap,k1,k2,k3,k4,k5,k6,k7,k8,k9,Bs,ym⟩:=cH;obtain⟨_,eU,b2,Am,g1,g2,rfl,g4,g5,g6⟩:=hr;rw[k2]at g1;cases g1;rw[k1]at g2;cases g2;have eo:bB∈l:=hl bB (by simp[um,ak]);have hX:=aeP (l:=l) h hY k2 eo k1;have ar:=(KaG.1 k6).1;obtain⟨cur',ty',d1,d2⟩:=g4;rw[k6]at d1;cases d1;rw[k4]at d2;have gd:cap=o+Am:=KbA he (by rw[<-k7,<-d2]);have key:∀i (x:PV),((xs.drop o).take n)[i]? =some x->i<n/\xs[o+i]? =some x:=fun i x hx=>by
     have hi:i<n:=by have:=(Kad.1 hx).1;simp at this;omega
     rw[KaJ hi,Ka9]at hx;exact⟨hi,hx⟩
    have TZ:∀i (x:PV),((xs.drop o).take n)[i]? =some x->∀j (y:PV),x.bj[j]? =some y->Qu w (aH C ρ (cb hp l)) (jO fr hp k y) (cur.getD ((o+i)*e+j) undef):=fun i x hx j y hy=>by have eZ:=Kai hx;refine Hu h k (ym (o+i) x (key i x hx).2 j y hy) (Mi x eZ y (Kai hy)) fun β al=>hl β ?_;simp only[um,ak];exact Kbl _ (Kaq.2 ⟨x,eZ,Kaq.2 ⟨y,Kai hy,al⟩⟩)
    have ks:∀i (x:PV),((xs.drop o).take n)[i]? =some x->(Bu (x.bj.map (jO fr hp k))).cells=x.bj.map (jO fr hp k):=fun i x hx=>by refine aa9 fun c hc=>?_;obtain⟨y,hy,rfl⟩:=KaI.1 hc;obtain⟨j,hj⟩:=KaE hy;exact(TZ i x hx j y hj).qY.2.2
    simp only[jO,ak];have hlen:(((xs.drop o).take n).map fun x=>Bu (x.bj.map (jO fr hp k))).length=n:=by simp;omega
    have:=Qu.sl (w:=w) (X:=aH C ρ (cb hp l)) e (((xs.drop o).take n).map fun x=>Bu (x.bj.map (jO fr hp k))) b (o*hb.e) Am (fun i j=>cur.getD ((o+i)*e+j) undef) hX ar (by omega) (by omega)
     (fun i x hx=>by simp only[Kaw,Kaa]at hx;obtain⟨x0,bp,rfl⟩:=hx;rw[ks i x0 bp,KaV];exact Bs _ x0 (key i x0 bp).2)
     (fun i hi j hj=>by rw[hlen]at hi;rw[k4];have:=ny (i:=o+i) (e:=e) (o:=0) (j:=j) (n:=e) (cap:=cap) (by omega) (by omega) hj;rw[KaT]at this;rw[show o*e+i*e+j=(o+i)*e+j by rw[KaH]];exact lz k6 (by rw[k7];exact this))
     (fun i x hx j y hy=>by simp only[Kaw,Kaa]at hx;obtain⟨x0,bp,rfl⟩:=hx;rw[ks i x0 bp,Kaw,Kaa]at hy;obtain⟨y0,cV,rfl⟩:=hy;exact TZ i x0 bp j y0 cV)
    rw[hlen]at this;exact this
   ·exact ho.elim
  |_=>exact Qu.freeze hr
def Uc(fr:Fr)(hp:HP)(k:Nat):PV->PV
 |.aT cs=>.agg (cs.map (jO fr hp k))
 |p=>jO fr hp k p
def MT(fr:Fr)(k:Nat):PV->List Nat
 |.aT cs=>cs.flatMap (um fr k)
 |p=>um fr k p
def Wi(fr:Fr)(k:Nat):PV->Prop
 |.aT cs=>∀c∈cs,sB fr k c
 |.aM γ o n=>sB fr k (.aM γ o n)
 |_=>False
theorem ahn(s k:Nat)(ho:Wi fr k (fr s)):Wk fr hp (af fr s (Uc fr hp k (fr s))) (cb hp (MT fr k (fr s))):=by
 rintro C tmps w ⟨ρ,hs⟩;have hf:=hs.freeze (MT fr k (fr s));refine⟨ρ,hf.sz,hf.ext,hf.gT,hf.own,hf.inj,fun i=>?_⟩;unfold af;split
 ·rename_i hi;subst hi;have cH:=hs.eQ i;generalize aE:fr i=p at *
  cases p with
  |aT cs=>obtain⟨vs,e1,h1,h2⟩:=cH;refine⟨vs,e1,by simpa using h1,fun j x hj=>?_⟩;simp only[Kaw,Kaa]at hj;obtain⟨y,hy,rfl⟩:=hj;exact Hu hs k (h2 j y hy) (ho y (Kai hy)) fun β al=>Kaq.2 ⟨y,Kai hy,al⟩
  |aM γ o n=>have:=Hu (l:=um fr k (.aM γ o n)) hs k (p:=.aM γ o n) cH ho (fun β al=>al);exact Qt.ll (aY.pW this)
  |_=>cases ho
 ·exact hf.eQ i
end Go.FW
namespace Go.FW
open Go
variable {C : Ctx} {ρ : Nat -> Option Nat} {fr ay : Fr} {hp an : HP} {w w' : World} {K R : Qg}
def ak7(args:List PV)(G:Fr):Fr:=fun s=>if s<1000000 then(args[s]?).getD .undef else G s
def PV.Wj:PV->Bool
 |.ax β _ _=>b9 β
 |.int .. | .bool _| .aa=>true
 |_=>false
def ajw(fr:Fr)(s n:Nat)(cs:List PV):Prop:=∃γ i o e ty xs,fr s= .np γ i o/\fr γ= .aN γ e ty xs/\∃h:i<xs.length,o+n<=e/\qX true n o (xs[i]'h)= .aT cs
def MV(rs:List RV)(cg:PV->Fr->HP->Prop):Qg:=fun fr hp=>∃ay an,Wk fr hp ay an/\
 (fS rs (fun r=>cg r ay (cb an (rs.flatMap (lr ay)))) ay an∨(∃s,rs=[.t s]/\cg (ay s) ay an)∨(∃s t,rs=[.t s,.t t]/\(ay s).Wj=true/\(ay t).Wj=true/\cg (.eO [ay s,ay t]) ay an)∨∃s n b cs,rs=[.cell s n true,b]/\lr ay b=[]/\jZ ay an b/\ajw ay s n cs/\cg (.eP cs (jD ay an b)) ay an)
theorem aeQ{rs:List RV}{cg:PV->Fr->HP->Prop}:KM (MV rs cg) (MV rs cg):=by rintro f f' hp hf ⟨ay,an,h1,h2⟩;exact⟨ay,an,hf.wk.trans h1,h2⟩
theorem Qo{rs:List RV}{cg:PV->Fr->HP->Prop}:fZ (MV rs cg) []:=⟨aeQ,.nil⟩
structure BU(C:Ctx)(hp:HP)(aE:HP)(gv:Nat->Option Nat):Prop where
 g:∀β γ,gv β=some γ->∃hb,hp γ=some hb/\b9 β=true/\(iW β=true->aE β=some ⟨hb.e,hb.ty,hb.xs,true⟩)/\(iW β=false->aE β=some hb/\hb.fz=false/\b9 γ=true/\(bG β=false->bG γ=false))
 a:∀β,aE β≠none->∃γ,gv β=some γ
 i:∀β du γ,gv β=some γ->gv du=some γ->β=du
def gn(gv:Nat->Option Nat):Nat->Option Nat:=fun β=>if iW β=true then none else gv β
theorem aeR{gv:Nat->Option Nat}{β γ:Nat}(h:gn gv β=some γ):iW β=false/\gv β=some γ:=by
 unfold gn at h;split at h
 ·cases h
 ·rename_i hr;exact⟨by simpa using hr,h⟩
theorem BU.n{C:Ctx}{hp aE:HP}{gv:Nat->Option Nat}(hh:BU C hp aE gv)(β γ:Nat)(h:gn gv β=some γ):∃hb,aE β=some hb/\hp γ=some hb/\hb.fz=false/\b9 β=true/\b9 γ=true/\(bG β=false->bG γ=false):=by obtain⟨hr,h⟩:=aeR h;obtain⟨hb,h1,h2,_,h4⟩:=hh.g β γ h;obtain⟨k1,k2,k3,k4⟩:=h4 hr;exact⟨hb,k1,h1,k2,h2,k3,k4⟩
theorem BU.s{C:Ctx}{hp aE:HP}{gv:Nat->Option Nat}(hh:BU C hp aE gv)(β γ:Nat)(h:gv β=some γ):∃hb aw,hp γ=some hb/\aE β=some aw/\aw.e=hb.e/\aw.ty=hb.ty/\aw.xs=hb.xs/\(aw.fz=false->hb=aw/\iW β=false)/\(iW β=true->aw.fz=true)/\b9 β=true:=by
 obtain⟨hb,h1,h2,h3,h4⟩:=hh.g β γ h;cases hr:iW β with
 |true=>exact⟨hb,_,h1,h3 hr,rfl,rfl,rfl,(fun h=>by cases h),fun _=>rfl,h2⟩
 |false=>obtain⟨k1,k2,_⟩:=h4 hr;exact⟨hb,hb,h1,k1,rfl,rfl,rfl,(fun _=>⟨rfl,rfl⟩),(fun h=>by cases h),h2⟩
end Go.FW
namespace Go.FW
open Go
variable {C : Ctx} {R : Qg} {fr : Fr} {hp : HP} {K : Qg}
end Go.FW
