/- Part 3 of the proof of TriangularEquation: TPn, TM, FwPC, FwSA, FwSB, FwSC, FwTA, FwSet, FwSt, FwUB, FwNA, FwNB, FwND, FwNE, FwNF, FwSu. Own lemmas; no conditions. -/
import Derived.Test.YtdaldpkjhcfblaaGreatTriangularEquationPart2
import Derived.WalkKit
import Derived.Shelf.Abstract
import Derived.OwnWalk
import Derived.OwnWalkIn
import Derived.TacticsInMore
import Derived.LoopNIn
import Derived.LoopIn
import Derived.Laws.EntriesVeiled
import Derived.Laws.Rows
import Derived.Deep.Onto
import Derived.Test.YtdaldpkjhcfblaaGreatProg
import Derived.WalkMore
import Derived.Deep.LoopGhost
import Derived.Deep.MidRow
import Derived.Maps.Own
import Derived.Maps.OwnOps
import Derived.Maps.AppendAt
import Derived.Maps.Views
import Derived.ChangeSame
import Derived.ChangeStays
import Derived.Deep.Slices
import Derived.OpenShut
import Derived.RowKit
import Derived.ProofKit
import Derived.JoinedCond
set_option maxHeartbeats 1000000
set_option linter.unusedSimpArgs false
set_option linter.unusedVariables false
set_option linter.unnecessarySimpa false
set_option maxRecDepth 100000
namespace Go.Proofs.YtdaldpkjhcfblaaGreat
open Go Go.FW Go.RowKit Go.Shelf
attribute [local go_sem] Oper.semAt_some
theorem mixT:Tryz.prog.follows .mixedOrders=true:=by kernel_rfl
theorem hdd(k:Nat):Fence.wide.depth.isSome=true->1<=k:=fun h=>by cases h
theorem Qkj{f:FuncId}{args:List PV}{R:PV->Prop}(h:Qd Tryz.prog f args R){vals:Array Value}{w:World}(hs:vals.size=args.length)(X:Nat->Prop)(hX:∀b,X b->b<w.heap.size)(hr:∀(i:Nat)(x:PV),args[i]? =some x->Qai w X x (vals.getD i undef))(n:Nat):
  CallsIn Fence.wide n Tryz.prog f vals w fun e w'=>∃v r,e= .returned v/\Ext Qaw w w'/\Qco w' X r v/\R r:=callsIn_wide.2 (h.2 w X vals hX hs hr)
theorem Qaq3:(Tryz.prog.info? 23).map (fun i=>(i.zero,i.size,i.bytes))=some (some (.slice none 0 0),1,24):=by kernel_rfl
theorem Qih{w:World}{X:Nat->Prop}{e:Nat}{xs:List PV}{v:Value}(h:Qs w X (.sl e xs) v):∃a c,v= .slice a xs.length c:=by
 generalize hY:PV.sl e xs=Y at h;cases h with
 |slE _ a cap=>cases hY;exact⟨_,_,rfl⟩
 |sl _ _ b off cap=>cases hY;exact⟨_,_,rfl⟩
 |_=>cases hY
structure PrmI(X:Nat->Prop)(O Ab R:Nat)(base:Nat)(vq:Value)(ca:List Value)(es:List (List Tm))(W0 W:World):Prop where
 ex:Ext Qaw W0 W
 rb:W.heap[R]? =some (.cells #[.slice none 0 0,.slice none 0 0] 62 (0,0))
 ab:W.heap[Ab]? =some (.cells ca.toArray 51 (0,0))
 bx:∃(vo:Value)(vs:List Value),W.heap[O]? =some (.cells #[vq,vo] 62 (0,0))/\W.ownsRow base 23 1 vo es.length vs/\
  ∀j (h:j<es.length),Qs W (fun b=>X b∨b=O∨vo.ownBlock=some b∨b=R∨b=Ab) (PV.poly es[j]) (vs.getD j undef)
theorem Q5y {p q:List Tm} {cs ds:List (List Tm)} {a:Rat} (hlen:ds.length=cs.length) (hl:cs.length<=100) {vp vc:Value} {W:World} (X:Nat->Prop) (hX:∀b,X b->b<W.heap.size) (hp:Qs W X (PV.poly p) vp) (hc:Qs W X (PV.polys cs) vc)
  (hPr:Qd Tryz.prog 141 [PV.poly p] (· = .tup [PV.poly q,PV.rat a])) (hSc:∀i (h:i<cs.length),Qd Tryz.prog 142 [PV.poly cs[i],PV.rat a] (· =PV.poly (ds.getD i [])))
  (hLg:Qd Tryz.prog 38 [PV.poly q] (· = .bool false)) (hq0:0<q.length)
  (hCF:Qd Tryz.prog 143 [PV.polys ds,.fn 38 [] []] (· = .bool false)) (hCn:Qd Tryz.prog 144 [PV.poly q] (· = .bool false)) (m:Nat):
  CallsIn Fence.wide m Tryz.prog 103 #[vp,vc] W fun e w'=>∃v,e= .returned v/\Ext Qaw W w'/\Qco w' X (.tup [.agg [PV.poly q,PV.polys ds],.int .i64 0]) v:=by
 refine callsIn_of_wp Tryz.func103 rfl trivial ?_ rfl;simp only[Tryz.ntmps103,List.size_toArray,List.length_cons,List.length_nil,Nat.reduceAdd,Nat.reduceSub,Array.replicate_succ,Array.replicate_zero,List.push_toArray,List.append_toArray,List.nil_append,List.cons_append]
 gi_wp2
 refine⟨trivial,hdd _,?_⟩;have hE0:Ext Qaw W (W.alloc (.cells #[.slice none 0 0,.slice none 0 0] 62)):=Ext.alloc' _ _ _;have hXR:∀b,(X b∨b=W.heap.size)->b<(W.alloc (.cells #[.slice none 0 0,.slice none 0 0] 62)).heap.size:=by
  rintro b (hb|rfl)
  ·have:=hX b hb;simp;omega
  ·simp
 refine(Qkj hPr rfl (fun b=>X b∨b=W.heap.size) hXR (fun i x hx=>?_) _).mono ?_
 ·match i,hx with
  |0,hx=>simp at hx;subst hx;exact Qai.mono (p:=PV.poly p) hp (fun b hb _=>hE0.block b hb id) (fun b hb h h'=>h'.elim h (fun h=>by omega)) hE0.size
  |i+1,hx=>simp at hx
 rintro e w1 ⟨v,r,rfl,hE1,hrep,rfl⟩;obtain⟨vs,rfl,hvs,hr⟩:=hrep;obtain⟨vq,va,rfl⟩:∃vq va,vs= #[vq,va]:=by
  obtain⟨l⟩:=vs
  match l,hvs with
  | [x,y],_=>exact⟨x,y,rfl⟩
 have hq:Qs w1 (fun b=>X b∨b=W.heap.size) (PV.poly q) vq:=hr 0 _ rfl;obtain⟨us,hva,hus,hu⟩:Qai w1 (fun b=>X b∨b=W.heap.size) (PV.rat a) va:=hr 1 _ rfl;obtain rfl:va= .agg us:=hva;obtain⟨u0,u1,u2,rfl⟩:∃u0 u1 u2,us= #[u0,u1,u2]:=by
  obtain⟨l⟩:=us
  match l,hus with
  | [x,y,z],_=>exact⟨x,y,z,rfl⟩
 have hu0:=hu 0 _ rfl;have hu1:Qs w1 (fun b=>X b∨b=W.heap.size) (PV.num a.num.natAbs) u1:=hu 1 _ rfl;have hu2:Qs w1 (fun b=>X b∨b=W.heap.size) (PV.num a.den) u2:=hu 2 _ rfl;have hu0:Qs w1 (fun b=>X b∨b=W.heap.size) (.bool (decide (a.num<0))) u0:=hu0;obtain⟨aq,cq,rfl⟩:=Qih hq;obtain⟨a1,c1,rfl⟩:=Qih hu1;obtain⟨a2,c2,rfl⟩:=Qih hu2;obtain⟨ac,cc,rfl⟩:=Qih hc;cases hu0;dsimp only
 gi_wp2
 obtain⟨W2,hW2⟩:∃W2,W2=(w1.alloc (.cells #[.bool (decide (a.num<0)),.slice a1 (dig a.num.natAbs).length c1,.slice a2 (dig a.den).length c2] 51)).alloc (.cells #[.slice aq q.length cq,.slice none 0 0] 62):=⟨_,rfl⟩
 have hs1:=hE1.size;simp only[World.size_alloc]at hs1;have hE2:Ext Qaw w1 W2:=by rw[hW2];exact(Ext.alloc' _ _ _).trans (Ext.alloc' _ _ _)
 have hs2:W2.heap.size=w1.heap.size+2:=by rw[hW2];simp
 have hI0:PrmI X (w1.heap.size+1) w1.heap.size W.heap.size (w1.heap.size+2) (.slice aq q.length cq) [.bool (decide (a.num<0)),.slice a1 (dig a.num.natAbs).length c1,.slice a2 (dig a.den).length c2] (ds.take 0) w1 W2:=by
  refine⟨hE2,?_,?_,.slice none 0 0,[],?_,World.ownsRow_nil _ _ _ _,fun j h=>by simp at h⟩
  ·exact(hE2.block _ (by omega) id).trans ((hE1.block _ (by simp) id).trans (World.alloc_heap_new W _))
  ·rw[hW2];exact(Below.heap_alloc _ _ _ (by simp)).trans (World.alloc_heap_new w1 _)
  ·rw[hW2];have:=World.alloc_heap_new (w1.alloc (.cells #[.bool (decide (a.num<0)),.slice a1 (dig a.num.natAbs).length c1,.slice a2 (dig a.den).length c2] 51)) (.cells #[.slice aq q.length cq,.slice none 0 0] 62);simp only[World.size_alloc]at this;exact this
 rw[<-hW2];clear hW2;have hnc:(cs.map PV.poly).length=cs.length:=by simp
 gi_loopw [20] (fun v wr=>∃i:Nat,v= .int .i64 (i:Nat)/\i<=cs.length/\PrmI X (w1.heap.size+1) w1.heap.size W.heap.size (w1.heap.size+2) (.slice aq q.length cq) [.bool (decide (a.num<0)),.slice a1 (dig a.num.natAbs).length c1,.slice a2 (dig a.den).length c2] (ds.take i) w1 wr) (fun v _=>cs.length-(intOf v).toNat)
 case atStart=>exact⟨0,rfl,by omega,hI0⟩
 case round=>
  obtain⟨i,rfl,hi,hI⟩:=hrel;obtain⟨wo,hwo⟩:∃wo,wo=wr:=⟨_,rfl⟩
  subst hwo;obtain⟨vo,vs,hO,hrow,hreps⟩:=hI.bx;have hEW:=(hE0.trans hE1).trans hI.ex;by_cases hin:i<cs.length
  ·have hc':Qs W X (.sl 1 (cs.map PV.poly)) (.slice ac (cs.map PV.poly).length cc):=hc;generalize hY:cs.map PV.poly=Y at hc';cases hc' with
   |slE=>rw[List.map_eq_nil_iff]at hY;subst hY;simp at hin
   | sl _ _ b off cap vs' hXb hb hlc hcc he hv hr2=>
    subst hY;have cl:=hv i (by rw[hnc];exact hin) 0 (by omega);have rl:=hr2 i (PV.poly cs[i]) (by rw[List.getElem?_map,List.getElem?_eq_getElem hin];rfl) 0 _ rfl;generalize vs' i 0=ui at cl rl;simp only[Nat.mul_one,Nat.add_zero]at cl;have cl2:wo.cell? ⟨b,off+i,none⟩=some ui:=(World.cell?_of_block (w:=W) (a:=⟨b,off+i,none⟩) (hEW.block b hb id)).trans cl;have d1:(i:Int)<((cs.map PV.poly).length:Int):=by rw[hnc];omega
    have d2:(0:Int)<=(i:Int):=by omega
    gi_wp2
    rename_i K0 hK0;have hds:(ds.take i).length=i:=by rw[List.length_take];omega
    have hXw:∀x,X x->x<W.heap.size:=hX;obtain⟨i0,hi0,z0,z1,z2⟩:=info_parts Qaq3;have hOl:=(Array.getElem?_eq_some_iff.1 hO).1;have hAl:=(Array.getElem?_eq_some_iff.1 hI.ab).1;have hRl:=(Array.getElem?_eq_some_iff.1 hI.rb).1;obtain⟨F4,hF4⟩:∃F4:Value×World×Value×World->Prop,∀g,F4 g↔(∃a4 n4 c4,g.1= .slice a4 n4 c4)/\Ext Qaw wo g.2.1/\Qs g.2.1 (fun x=>X x∨x=w1.heap.size+1∨vo.ownBlock=some x∨x=W.heap.size∨x=w1.heap.size) (PV.poly (ds.getD i [])) g.1:=⟨_,fun _=>Iff.rfl⟩
    obtain⟨F6,hF6⟩:∃F6:Value×World×Value×World->Prop,∀g,F6 g↔g.2.2.2.ownsRow (w1.heap.size+2) 23 1 g.2.2.1 (i+1) (vs++[g.1])/\(g.2.1.alloc (.cells #[g.1] 23)).grownBy g.2.2.2 vo.ownBlock/\(g.2.2.1.ownBlock=vo.ownBlock∨g.2.2.1.ownBlock=some (g.2.1.heap.size+1)):=⟨_,fun _=>Iff.rfl⟩
    refine Q67 (G:=Value×World×Value×World) mixT 52 (fun g j=>match j with|0=>.pointer (some ⟨w1.heap.size+1,1,none⟩)|1=>vo|2=>ui|3=>.agg #[.bool (decide (a.num<0)),.slice a1 (dig a.num.natAbs).length c1,.slice a2 (dig a.den).length c2]|4=>g.1|5=>.slice (some ⟨g.2.1.heap.size,0,none⟩) 1 1|6=>g.2.2.1|7=>.pointer (some ⟨w1.heap.size+1,1,none⟩)|_=>undef)
     [(0,vp),(1,.slice (some ⟨b,off,none⟩) cs.length cc),(2,undef),(3,undef),(4,.pointer (some ⟨W.heap.size,0,none⟩)),(5,.int .i64 0),(6,.slice aq q.length cq),(7,.pointer (some ⟨w1.heap.size,0,none⟩)),(8,.pointer (some ⟨w1.heap.size+1,0,none⟩)),(9,undef),(10,ui),(11,.tuple #[.slice aq q.length cq,.agg #[.bool (decide (a.num<0)),.slice a1 (dig a.num.natAbs).length c1,.slice a2 (dig a.den).length c2]]),(12,vp),(13,.tuple #[.slice aq q.length cq,.agg #[.bool (decide (a.num<0)),.slice a1 (dig a.num.natAbs).length c1,.slice a2 (dig a.den).length c2]]),(14,.slice aq q.length cq),(15,.agg #[.bool (decide (a.num<0)),.slice a1 (dig a.num.natAbs).length c1,.slice a2 (dig a.den).length c2]),(16,.slice aq q.length cq),(17,.agg #[.slice aq q.length cq,.slice none 0 0]),(18,.slice (some ⟨b,off,none⟩) cs.length cc),(19,.int .i64 (cs.length:Nat)),(20,.int .i64 i),(33,undef),(34,undef),(35,undef),(36,undef),(37,undef),(38,undef),(39,undef),(40,undef),(41,undef),(42,undef),(43,undef),(44,undef),(45,undef),(46,undef),(47,undef),(48,undef),(49,undef),(50,undef),(51,undef)]
     (fun g q w=>(q 8=true/\w=g.2.2.2.setCell ⟨w1.heap.size+1,1,none⟩ g.2.2.1/\F4 g/\F6 g)∨(q 8=false/\q 6=true/\w=g.2.2.2/\F4 g/\F6 g)∨(q 6=false/\q 5=true/\w=g.2.1.alloc (.cells #[g.1] 23)/\F4 g)∨(q 5=false/\q 4=true/\w=g.2.1/\F4 g)∨(q 4=false/\w=wo.drew)) (by decide) ?_ ?_ ?_
    ·exact⟨(undef,wo,undef,wo),rfl,rfl,by simp,fun _ _ _ h=>(by cases h),fun _ h=>(by cases h),.inr (.inr (.inr (.inr ⟨rfl,rfl⟩)))⟩
    ·rintro qs j hj hq hpr a3 w3 ⟨g,hT⟩;have f7:=hT.fixed (7,.pointer (some ⟨w1.heap.size,0,none⟩)) (by simp);have f8:=hT.fixed (8,.pointer (some ⟨w1.heap.size+1,0,none⟩)) (by simp);have f10:=hT.fixed (10,ui) (by simp);simp only at f7 f8 f10;have hE6:qs 6=false->Ext Qaw wo w3:=by
      intro h6;have h8:qs 8=false:=by
       cases h:qs 8 with
       |false=>rfl
       |true=>exact absurd (hT.cl 8 h 6 (by decide)) (by rw[h6];decide)
      rcases hT.wd with⟨h,_⟩|⟨_,h,_⟩|⟨_,_,h,hf⟩|⟨_,_,h,hf⟩|⟨_,h⟩
      ·rw[h8]at h;cases h
      ·rw[h6]at h;cases h
      ·rw[h];exact((hF4 g).1 hf).2.1.trans (Ext.alloc' _ _ _)
      ·rw[h];exact((hF4 g).1 hf).2.1
      ·rw[h];exact⟨rfl,rfl,rfl,Nat.le_refl _,fun _ _ _=>rfl⟩
     match j,hj with
     |0,_=>refine Qik.of (hT.val (w':=w3) hpr (by rfl) rfl rfl rfl (fun c h=>by cases h) ?_ (by simpa using hT.wd));simp[execOp,go_sem,f8]
     |2,_=>refine Qik.of (hT.val (w':=w3) hpr (by rfl) rfl rfl rfl (fun c h=>by cases h) ?_ (by simpa using hT.wd));simp[execOp,go_sem,f10]
     |7,_=>refine Qik.of (hT.val (w':=w3) hpr (by rfl) rfl rfl rfl (fun c h=>by cases h) ?_ (by simpa using hT.wd));simp[execOp,go_sem,f8]
     | 1,_=>
      have h6:qs 6=false:=by
       cases h:qs 6 with
       |false=>rfl
       |true=>exact absurd (hT.cl 6 h 1 (by decide)) (by rw[hq];decide)
      have hO3:=((hE6 h6).block _ hOl id).trans hO;refine Qik.of (hT.val (w':=w3) hpr (by rfl) rfl rfl rfl (fun c h=>by cases h) ?_ (by simpa[h6]using hT.wd));have e24:a3.tmps[24]?.getD undef= .pointer (some ⟨w1.heap.size+1,1,none⟩):=hT.slot 0 _ 24 (hpr 0 (by decide)) rfl rfl;simp[execOp,go_sem,e24,World.cell?,hO3]
     | 3,_=>
      have h6:qs 6=false:=by
       cases h:qs 6 with
       |false=>rfl
       |true=>exact absurd (hT.cl 4 (hT.cl 5 (hT.cl 6 h 5 (by decide)) 4 (by decide)) 3 (by decide)) (by rw[hq];decide)
      have hA3:=((hE6 h6).block _ hAl id).trans hI.ab;refine Qik.of (hT.val (w':=w3) hpr (by rfl) rfl rfl rfl (fun c h=>by cases h) ?_ (by simpa[h6]using hT.wd));simp[execOp,go_sem,f7,World.cell?,hA3]
     | 4,_=>
      have h5:qs 5=false:=by
       cases h:qs 5 with
       |false=>rfl
       |true=>exact absurd (hT.cl 5 h 4 (by decide)) (by rw[hq];decide)
      have h6:qs 6=false:=by
       cases h:qs 6 with
       |false=>rfl
       |true=>exact absurd (hT.cl 6 h 5 (by decide)) (by rw[h5];decide)
      have h8:qs 8=false:=by
       cases h:qs 8 with
       |false=>rfl
       |true=>exact absurd (hT.cl 8 h 6 (by decide)) (by rw[h6];decide)
      have hw:w3=wo.drew:=by
       rcases hT.wd with⟨h,_⟩|⟨_,h,_⟩|⟨_,h,_⟩|⟨_,h,_⟩|⟨_,h⟩
       ·rw[h8]at h;cases h
       ·rw[h6]at h;cases h
       ·rw[h5]at h;cases h
       ·rw[hq]at h;cases h
       ·exact h
      have e26:a3.tmps[26]?.getD undef=ui:=hT.slot 2 _ 26 (hpr 2 (by decide)) rfl rfl;have e27:a3.tmps[27]?.getD undef= .agg #[.bool (decide (a.num<0)),.slice a1 (dig a.num.natAbs).length c1,.slice a2 (dig a.den).length c2]:=hT.slot 3 _ 27 (hpr 3 (by decide)) rfl rfl;subst hw;have hED:Ext Qaw wo wo.drew:=⟨rfl,rfl,rfl,Nat.le_refl _,fun _ _ _=>rfl⟩
      have hsz:W.heap.size<=wo.heap.size:=hEW.size;refine hT.calG hpr rfl (by rfl) rfl rfl rfl rfl (vs:= #[ui,.agg #[.bool (decide (a.num<0)),.slice a1 (dig a.num.natAbs).length c1,.slice a2 (dig a.den).length c2]]) (by simp[Act.eval,e26,e27]) trivial (fun _ _=>rfl)
       (Qkj (hSc i hin) rfl (fun x=>X x∨x=w1.heap.size+1∨vo.ownBlock=some x∨x=W.heap.size∨x=w1.heap.size) (fun x hx=>?_) (fun k x hx=>?_) 0) ?_
      ·show x<wo.heap.size;rcases hx with hx|rfl|hx|rfl|rfl
       ·exact Nat.lt_of_lt_of_le (hX x hx) hsz
       ·exact hOl
       ·exact(hrow.lt x hx).2
       ·exact hRl
       ·exact hAl
      ·have ho:∀b,vo.ownBlock=some b->w1.heap.size+2<=b:=fun b h=>(hrow.lt b h).1
       match k,hx with
       |0,hx=>
        simp at hx;subst hx;refine Qai.mono (p:=PV.poly cs[i]) rl (fun b hb _=>hEW.block b hb id) (fun b hb h h'=>?_) hEW.size;rcases h' with h'|rfl|h'|rfl|rfl
        ·exact h h'
        ·omega
        ·have:=ho b h';omega
        ·omega
        ·omega
       | 1,hx=>
        simp at hx;subst hx;refine Qai.mono (p:=PV.rat a) (w:=w1) (X:=fun b=>X b∨b=W.heap.size) ⟨_,rfl,rfl,fun k x hk=>?_⟩ (fun b hb _=>hI.ex.block b hb id) (fun b hb h h'=>?_) hI.ex.size
        ·match k,hk with
         |0,hk=>cases hk;exact .bool _
         |1,hk=>cases hk;simpa using hu1
         |2,hk=>cases hk;simpa using hu2
        ·rcases h' with h'|rfl|h'|rfl|rfl
         ·exact h (.inl h')
         ·omega
         ·have:=ho b h';omega
         ·exact h (.inr rfl)
         ·omega
       |k+2,hx=>simp at hx
      ·rintro e w' ⟨v,r,rfl,hE,hrep,rfl⟩;refine⟨(v,w',g.2.2),rfl,fun j hj=>?_,.inr (.inr (.inr (.inl ⟨by simp[h5],by simp,rfl,(hF4 _).2 ⟨?_,hED.trans hE,hrep⟩⟩)))⟩
       ·match j,hj with
        |0,_=>rfl
        |1,_=>rfl
        |2,_=>rfl
        |3,_=>rfl
        |4,h=>rw[hq]at h;cases h
        |5,h=>rw[h5]at h;cases h
        |6,h=>rfl
        |7,_=>rfl
        |j+8,_=>rfl
       ·obtain⟨x,c,h⟩:=Qih hrep;exact⟨x,_,c,h⟩
     | 5,_=>
      have h6:qs 6=false:=by
       cases h:qs 6 with
       |false=>rfl
       |true=>exact absurd (hT.cl 6 h 5 (by decide)) (by rw[hq];decide)
      have h4:qs 4=true:=hpr 4 (by decide);have e28:a3.tmps[28]?.getD undef=g.1:=hT.slot 4 _ 28 h4 rfl rfl;have h8:qs 8=false:=by
       cases h:qs 8 with
       |false=>rfl
       |true=>exact absurd (hT.cl 8 h 6 (by decide)) (by rw[h6];decide)
      have hw:w3=g.2.1/\F4 g:=by
       rcases hT.wd with⟨h,_⟩|⟨_,h,_⟩|⟨_,h,_⟩|⟨_,_,h,hf⟩|⟨h,_⟩
       ·rw[h8]at h;cases h
       ·rw[h6]at h;cases h
       ·rw[hq]at h;cases h
       ·exact⟨h,hf⟩
       ·rw[h4]at h;cases h
      obtain⟨rfl,hf4⟩:=hw;refine Qik.of (hT.val (w':=g.2.1.alloc (.cells #[g.1] 23)) hpr (by rfl) rfl rfl rfl (fun c h=>by cases h) ?_ (.inr (.inr (.inl ⟨by simp[h6],by simp,rfl,hf4⟩))));obtain⟨a4,n4,c4,h1⟩:=((hF4 g).1 hf4).1;simp[execOp,go_sem,e28,h1]
     | 6,_=>
      have h5:qs 5=true:=hpr 5 (by decide);have h4:qs 4=true:=hT.cl 5 h5 4 (by decide);have h8:qs 8=false:=by
       cases h:qs 8 with
       |false=>rfl
       |true=>exact absurd (hT.cl 8 h 6 (by decide)) (by rw[hq];decide)
      have e25:a3.tmps[25]?.getD undef=vo:=hT.slot 1 _ 25 (hpr 1 (by decide)) rfl rfl;have e29:a3.tmps[29]?.getD undef= .slice (some ⟨g.2.1.heap.size,0,none⟩) 1 1:=hT.slot 5 _ 29 h5 rfl rfl;have hw:w3=g.2.1.alloc (.cells #[g.1] 23)/\F4 g:=by
       rcases hT.wd with⟨h,_⟩|⟨_,h,_⟩|⟨_,_,h,hf⟩|⟨h,_⟩|⟨h,_⟩
       ·rw[h8]at h;cases h
       ·rw[hq]at h;cases h
       ·exact⟨h,hf⟩
       ·rw[h5]at h;cases h
       ·rw[h4]at h;cases h
      obtain⟨rfl,hf4⟩:=hw;have f4:=(hF4 g).1 hf4;obtain⟨a4,n4,c4,h1⟩:=f4.1;have hrow2:(g.2.1.alloc (.cells #[g.1] 23)).ownsRow (w1.heap.size+2) 23 1 vo i vs:=by rw[hds]at hrow;exact(hrow.kept (row:=none) ⟨f4.2.1.os,f4.2.1.tape,f4.2.1.output,f4.2.1.size,fun k hk _=>f4.2.1.block k hk id⟩ (by cases vo.ownBlock<;>simp)).alloc _
      obtain⟨v',w',hrun,ho',hg',_,hb'⟩:=run_append_own_at (P:=Tryz.prog) (w:=g.2.1.alloc (.cells #[g.1] 23)) (w1.heap.size+2) 24 24 23 i0 (.slice none 0 0) 1 24 (by kernel_rfl) hi0 z0 z1 z2 rfl (by omega) vo i vs hrow2
       ⟨g.2.1.heap.size,0,none⟩ 1 1 [g.1] rfl (fun j u hj=>by
        match j,hj with
        |0,hj=>simp at hj;subst hj;have hn:=World.alloc_heap_new g.2.1 (.cells #[g.1] 23);rw[Addr.add_lit];simp only[World.cell?,hn];rfl
        |j+1,hj=>simp at hj) (fun u hu=>by simp at hu;subst hu;rw[h1];rfl) (by simp only[maxLen];omega) (by omega) (by have:=hI.ex.size;have:=f4.2.1.size;simp;omega)
      have hT2:Qe9 _ _ ((fun(g:Value×World×Value×World) (j:Nat)=>match j with|0=>.pointer (some ⟨w1.heap.size+1,1,none⟩)|1=>vo|2=>ui|3=>.agg #[.bool (decide (a.num<0)),.slice a1 (dig a.num.natAbs).length c1,.slice a2 (dig a.den).length c2]|4=>g.1|5=>.slice (some ⟨g.2.1.heap.size,0,none⟩) 1 1|6=>g.2.2.1|7=>.pointer (some ⟨w1.heap.size+1,1,none⟩)|_=>undef) (g.1,g.2.1,v',w')) _ (fun k w=>k 6=false∨(k 8=false/\k 6=true/\w=w'/\F4 (g.1,g.2.1,v',w')/\F6 (g.1,g.2.1,v',w'))) qs a3 (g.2.1.alloc (.cells #[g.1] 23)):=
       ⟨hT.d0,hT.sz,hT.fixed,fun j o d hj ho hd=>(hT.slot j o d hj ho hd).trans (by
        match j,hj with
        |6,h=>rw[hq]at h;cases h
        |0,_=>rfl
        |1,_=>rfl
        |2,_=>rfl
        |3,_=>rfl
        |4,_=>rfl
        |5,_=>rfl
        |7,_=>rfl
        |j+8,_=>rfl),hT.cl,.inl hq⟩
      refine wpOpIn_mono ?_ (hT2.app (w':=w') hpr (by rfl) rfl rfl rfl (v:=vo) (u:=.slice (some ⟨g.2.1.heap.size,0,none⟩) 1 1) (by simp[Act.eval,e25]) (by simp[Act.eval,e29]) hrun (.inr ⟨by simp[h8],by simp,rfl,(hF4 _).2 f4,(hF6 _).2 ⟨ho',hg',by simpa using hb'⟩⟩));intro a5 w5 h;refine⟨(g.1,g.2.1,v',w'),h.d0,h.sz,h.fixed,h.slot,h.cl,?_⟩;rcases h.wd with h|h
      ·simp at h
      ·exact .inr (.inl h)
     | 8,_=>
      have h6:qs 6=true:=hpr 6 (by decide);have e30:a3.tmps[30]?.getD undef=g.2.2.1:=hT.slot 6 _ 30 h6 rfl rfl;have e31:a3.tmps[31]?.getD undef= .pointer (some ⟨w1.heap.size+1,1,none⟩):=hT.slot 7 _ 31 (hpr 7 (by decide)) rfl rfl;have hw:w3=g.2.2.2/\F4 g/\F6 g:=by
       rcases hT.wd with⟨h,_⟩|⟨_,_,h,hf⟩|⟨h,_⟩|⟨h,_⟩|⟨h,_⟩
       ·rw[hq]at h;cases h
       ·exact⟨h,hf⟩
       ·rw[h6]at h;cases h
       ·exact absurd (hT.cl 6 h6 5 (by decide)) (by rw[h];decide)
       ·exact absurd (hT.cl 5 (hT.cl 6 h6 5 (by decide)) 4 (by decide)) (by rw[h];decide)
      obtain⟨rfl,hf4,hf6⟩:=hw;have f4:=(hF4 g).1 hf4;have f6:=(hF6 g).1 hf6;have hO2:g.2.2.2.heap[w1.heap.size+1]? =some (.cells #[.slice aq q.length cq,vo] 62 (0,0)):=by have hl2:=Nat.lt_of_lt_of_le hOl f4.2.1.size;refine(f6.2.1.block _ (by simp;omega) (fun h=>?_)).trans ((Below.heap_alloc _ _ _ hl2).trans ((f4.2.1.block _ hOl id).trans hO));have:=(hrow.lt _ h.symm).1;omega
      refine Qik.of (hT.sto (w':=g.2.2.2.setCell ⟨w1.heap.size+1,1,none⟩ g.2.2.1) hpr (by rfl) rfl rfl rfl (fun c h=>by cases h) ?_ (.inl ⟨by simp,rfl,hf4,hf6⟩));obtain⟨gb,gc,h30⟩:∃gb gc,g.2.2.1= .slice (some ⟨gb,0,none⟩) (i+1) gc:=by
       rcases f6.1.2 with⟨_,h⟩|⟨gb,gc,_,h,_⟩
       ·omega
       ·exact⟨gb,gc,h⟩
      simp[execOp,go_sem,e30,e31,h30,storeCells,World.cell?,World.frozen?,hO2]
     |j+9,hj=>exact absurd hj (by simp)
    ·rintro qs a3 w3 hq ⟨g,hT⟩;refine hK0 a3 w3 ?_;have q8:qs 8=true:=hq 8 (by simp);have hw:w3=g.2.2.2.setCell ⟨w1.heap.size+1,1,none⟩ g.2.2.1/\F4 g/\F6 g:=by
      rcases hT.wd with⟨_,h⟩|⟨h,_⟩|⟨h,_⟩|⟨h,_⟩|⟨h,_⟩
      ·exact h
      ·rw[q8]at h;cases h
      ·rw[hq 6 (by simp)]at h;cases h
      ·rw[hq 5 (by simp)]at h;cases h
      ·rw[hq 4 (by simp)]at h;cases h
     obtain⟨rfl,hf4,hf6⟩:=hw;have f4:=(hF4 g).1 hf4;have f6:=(hF6 g).1 hf6;have hI2:PrmI X (w1.heap.size+1) w1.heap.size W.heap.size (w1.heap.size+2) (.slice aq q.length cq) [.bool (decide (a.num<0)),.slice a1 (dig a.num.natAbs).length c1,.slice a2 (dig a.den).length c2] (ds.take (i+1)) w1 (g.2.2.2.setCell ⟨w1.heap.size+1,1,none⟩ g.2.2.1):=by
      have hds2:(ds.take (i+1)).length=i+1:=by rw[List.length_take];omega
      have sz1:=f4.2.1.size;have sz2:=f6.2.1.size;simp only[World.size_alloc]at sz2;have hto:∀k,k<wo.heap.size->vo.ownBlock≠some k->g.2.2.2.heap[k]? =wo.heap[k]? :=fun k hk hv=>by have hk2:=Nat.lt_of_lt_of_le hk sz1;exact(f6.2.1.block k (by simp;omega) (fun h=>hv h.symm)).trans ((Below.heap_alloc _ _ _ hk2).trans (f4.2.1.block k hk id))
      have hto2:∀k,k<wo.heap.size->vo.ownBlock≠some k->k≠w1.heap.size+1->(g.2.2.2.setCell ⟨w1.heap.size+1,1,none⟩ g.2.2.1).heap[k]? =wo.heap[k]? :=fun k hk hv hne=>(Below.heap_setCell _ _ _ k hne).trans (hto k hk hv);have ho:∀b,vo.ownBlock=some b->w1.heap.size+2<=b/\b<wo.heap.size:=fun b h=>hrow.lt b h;have hno:∀k,k<w1.heap.size+2->vo.ownBlock≠some k:=fun k hk h=>by have:=(ho k h).1;omega
      have ssz:(g.2.2.2.setCell ⟨w1.heap.size+1,1,none⟩ g.2.2.1).heap.size=g.2.2.2.heap.size:=by simp
      have hO2e:=(hto _ hOl (hno _ (by omega))).trans hO;have iez:=hI.ex.size;refine⟨⟨?_,?_,?_,by rw[ssz];omega,fun k hk _=>?_⟩,?_,?_,g.2.2.1,vs++[g.1],?_,?_,?_⟩
      ·exact f6.2.1.os.trans (f4.2.1.os.trans hI.ex.os)
      ·exact f6.2.1.tape.trans (f4.2.1.tape.trans hI.ex.tape)
      ·exact f6.2.1.output.trans (f4.2.1.output.trans hI.ex.output)
      ·exact(hto2 k (by omega) (hno k (by omega)) (by omega)).trans (hI.ex.block k hk id)
      ·exact(hto2 _ hRl (hno _ (by omega)) (by omega)).trans hI.rb
      ·exact(hto2 _ hAl (hno _ (by omega)) (by omega)).trans hI.ab
      ·have hlt:=(Array.getElem?_eq_some_iff.1 hO2e).1;have h':g.2.2.2.heap[w1.heap.size+1]= .cells #[.slice aq q.length cq,vo] 62 (0,0):=by simpa[Array.getElem?_eq_getElem hlt]using hO2e
       show(g.2.2.2.heap.modify (w1.heap.size+1) _)[w1.heap.size+1]? =_;rw[Array.getElem?_eq_getElem (by simpa using hlt),Array.getElem_modify_self,h'];rfl
      ·rw[hds2];exact ownsRow_setCell_below f6.1 (by simp) _
      ·intro j hj;rw[hds2]at hj;have hg1:∀b,g.2.2.1.ownBlock=some b->vo.ownBlock=some b∨b=g.2.1.heap.size+1:=fun b hb=>by
        rcases f6.2.2 with h|h
        ·exact .inl (h.symm.trans hb)
        ·rw[hb]at h;cases h;exact .inr rfl
       have hvl:vs.length=i:=by have:=hrow.1;rw[hds]at this;omega
       by_cases hji:j<i
       ·have e1:(vs++[g.1]).getD j undef=vs.getD j undef:=by simp[List.getD,List.getElem?_append_left (show j<vs.length by omega)]
        have e2:(ds.take (i+1))[j]'(by omega)=(ds.take i)[j]'(by omega):=by simp
        rw[e1,e2];refine Qs.mono (hreps j (by omega)) (fun b hb h=>hto2 b hb (fun h'=>h (.inr (.inr (.inl h')))) (fun h'=>h (.inr (.inl h')))) (fun b hb h h'=>?_) (by rw[ssz];omega);rcases h' with h'|h'|h'|h'|h'
        ·exact h (.inl h')
        ·exact h (.inr (.inl h'))
        ·rcases hg1 b h' with h'|h'
         ·exact h (.inr (.inr (.inl h')))
         ·omega
        ·exact h (.inr (.inr (.inr (.inl h'))))
        ·exact h (.inr (.inr (.inr (.inr h'))))
       ·obtain rfl:j=i:=by omega
        have e1:(vs++[g.1]).getD j undef=g.1:=by simp[List.getD,<-hvl]
        have e2:(ds.take (j+1))[j]'(by omega)=ds.getD j []:=by simp[List.getD,List.getElem?_eq_getElem (show j<ds.length by omega)]
        rw[e1,e2];refine Qs.mono f4.2.2 (fun b hb h=>?_) (fun b hb h h'=>?_) (by rw[ssz];omega)
        ·exact(Below.heap_setCell _ _ _ b (fun h'=>h (.inr (.inl h')))).trans ((f6.2.1.block b (by simp;omega) (fun h'=>h (.inr (.inr (.inl h'.symm))))).trans (Below.heap_alloc _ _ _ hb))
        ·rcases h' with h'|h'|h'|h'|h'
         ·exact h (.inl h')
         ·exact h (.inr (.inl h'))
         ·rcases hg1 b h' with h'|h'
          ·exact h (.inr (.inr (.inl h')))
          ·omega
         ·exact h (.inr (.inr (.inr (.inl h'))))
         ·exact h (.inr (.inr (.inr (.inr h'))))
     obtain⟨y,hy⟩:∃y:Nat->Value,a3.tmps= #[vp,.slice (some ⟨b,off,none⟩) cs.length cc,undef,undef,.pointer (some ⟨W.heap.size,0,none⟩),.int .i64 0,.slice aq q.length cq,.pointer (some ⟨w1.heap.size,0,none⟩),.pointer (some ⟨w1.heap.size+1,0,none⟩),undef,y 10,.tuple #[.slice aq q.length cq,.agg #[.bool (decide (a.num<0)),.slice a1 (dig a.num.natAbs).length c1,.slice a2 (dig a.den).length c2]],vp,.tuple #[.slice aq q.length cq,.agg #[.bool (decide (a.num<0)),.slice a1 (dig a.num.natAbs).length c1,.slice a2 (dig a.den).length c2]],.slice aq q.length cq,.agg #[.bool (decide (a.num<0)),.slice a1 (dig a.num.natAbs).length c1,.slice a2 (dig a.den).length c2],.slice aq q.length cq,.agg #[.slice aq q.length cq,.slice none 0 0],.slice (some ⟨b,off,none⟩) cs.length cc,.int .i64 (cs.length:Nat),.int .i64 i,y 21,y 22,y 23,y 24,y 25,y 26,y 27,y 28,y 29,y 30,y 31,y 32,undef,undef,undef,undef,undef,undef,undef,undef,undef,undef,undef,undef,undef,undef,undef,undef,undef,undef,undef]:=by
      refine⟨fun k=>a3.tmps[k]?.getD undef,Array.ext (by simp[hT.sz]) (fun k hk hk2=>?_)⟩;have e:a3.tmps[k]=a3.tmps[k]?.getD undef:=by simp[hk]
      rw[e];have hk3:k<52:=by rw[<-hT.sz];exact hk
      match k,hk3 with
      |0,_=>exact hT.fixed (0,_) (by simp)
      |1,_=>exact hT.fixed (1,_) (by simp)
      |2,_=>exact hT.fixed (2,_) (by simp)
      |3,_=>exact hT.fixed (3,_) (by simp)
      |4,_=>exact hT.fixed (4,_) (by simp)
      |5,_=>exact hT.fixed (5,_) (by simp)
      |6,_=>exact hT.fixed (6,_) (by simp)
      |7,_=>exact hT.fixed (7,_) (by simp)
      |8,_=>exact hT.fixed (8,_) (by simp)
      |9,_=>exact hT.fixed (9,_) (by simp)
      |10,_=>rfl
      |11,_=>exact hT.fixed (11,_) (by simp)
      |12,_=>exact hT.fixed (12,_) (by simp)
      |13,_=>exact hT.fixed (13,_) (by simp)
      |14,_=>exact hT.fixed (14,_) (by simp)
      |15,_=>exact hT.fixed (15,_) (by simp)
      |16,_=>exact hT.fixed (16,_) (by simp)
      |17,_=>exact hT.fixed (17,_) (by simp)
      |18,_=>exact hT.fixed (18,_) (by simp)
      |19,_=>exact hT.fixed (19,_) (by simp)
      |20,_=>exact hT.fixed (20,_) (by simp)
      |21,_=>rfl
      |22,_=>rfl
      |23,_=>rfl
      |24,_=>rfl
      |25,_=>rfl
      |26,_=>rfl
      |27,_=>rfl
      |28,_=>rfl
      |29,_=>rfl
      |30,_=>rfl
      |31,_=>rfl
      |32,_=>rfl
      |33,_=>exact hT.fixed (33,_) (by simp)
      |34,_=>exact hT.fixed (34,_) (by simp)
      |35,_=>exact hT.fixed (35,_) (by simp)
      |36,_=>exact hT.fixed (36,_) (by simp)
      |37,_=>exact hT.fixed (37,_) (by simp)
      |38,_=>exact hT.fixed (38,_) (by simp)
      |39,_=>exact hT.fixed (39,_) (by simp)
      |40,_=>exact hT.fixed (40,_) (by simp)
      |41,_=>exact hT.fixed (41,_) (by simp)
      |42,_=>exact hT.fixed (42,_) (by simp)
      |43,_=>exact hT.fixed (43,_) (by simp)
      |44,_=>exact hT.fixed (44,_) (by simp)
      |45,_=>exact hT.fixed (45,_) (by simp)
      |46,_=>exact hT.fixed (46,_) (by simp)
      |47,_=>exact hT.fixed (47,_) (by simp)
      |48,_=>exact hT.fixed (48,_) (by simp)
      |49,_=>exact hT.fixed (49,_) (by simp)
      |50,_=>exact hT.fixed (50,_) (by simp)
      |51,_=>exact hT.fixed (51,_) (by simp)
      |k+52,h=>exact absurd h (by omega)
     have hd0:=hT.d0;clear hT;rcases a3 with⟨tm,df⟩
     simp only at hy hd0;subst hy hd0
     gi_wp2
     have hcast:((i+1:Nat):Int)=(i:Int)+1:=by simp
     refine⟨⟨y 10,.int .i64 ((i:Int)+1),y 21,y 22,y 23,y 24,y 25,y 26,y 27,y 28,y 29,y 30,y 31,.int .i64 ((i:Int)+1),⟨i+1,by rw[hcast],by omega,hI2⟩,by simp⟩,?_⟩;simp[intOf];omega
  ·have hic:i=cs.length:=by omega
   have d1:¬((i:Int)<((cs.map PV.poly).length:Int)):=by rw[hnc];omega
   gi_wp2
   refine⟨trivial,hdd _,(Qkj hLg rfl X (fun b hb=>Nat.lt_of_lt_of_le (hX b hb) hEW.size) (fun k x hx=>?_) _).mono ?_⟩
   ·match k,hx with
    |0,hx=>simp at hx;subst hx;exact Qai.mono (p:=PV.poly q) (w:=w1) (X:=fun b=>X b∨b=W.heap.size) (show Qs w1 _ (PV.poly q) _ by simpa using hq) (fun b hb _=>hI.ex.block b hb id) (fun b hb h h'=>h (.inl h')) hI.ex.size
    |k+1,hx=>simp at hx
   rintro e w4 ⟨v,r,rfl,hE4,hrep,rfl⟩;cases hrep;have cO:w4.cell? ⟨w1.heap.size+1,1,none⟩=some vo:=by have hO4:=(hE4.block _ (Array.getElem?_eq_some_iff.1 hO).1 id).trans hO;simp only[World.cell?,hO4];rfl
   gi_wp2
   have hdt:ds.take i=ds:=List.take_of_length_le (by omega);have hX4:∀b,X b->b<w4.heap.size:=fun b hb=>Nat.lt_of_lt_of_le (Nat.lt_of_lt_of_le (hX b hb) hEW.size) hE4.size;have hrow':Qs wo (fun b=>X b∨b=W.heap.size) (PV.polys ds) vo:=by
    rw[hdt]at hrow hreps;refine Qagx hrow (by simp) (fun b hb h=>?_) (fun p hp=>by obtain⟨y,_,rfl⟩:=List.mem_map.1 hp;rfl) (fun j hj=>?_)
    ·have hbb:=(hrow.lt b hb).1;rcases h with h|h
     ·have:=hX b h;omega
     ·omega
    ·have hj2:j<ds.length:=by simpa using hj
     have hh:=hreps j hj2;rw[List.getElem_map];exact hh.mono (fun _ _ _=>rfl) (fun b _ hn hm=>hm.elim (fun h=>hn (.inl h)) (fun h=>hn (.inr (.inr (.inr (.inl h)))))) (Nat.le_refl _)
   have hrow4:Qs w4 (fun b=>X b∨b=W.heap.size) (PV.polys ds) vo:=hrow'.mono (fun b hb _=>hE4.block b hb id) (fun _ _ h=>h) hE4.size;refine⟨trivial,hdd _,(Qkj hCF rfl X hX4 (fun k x hx=>?_) _).mono ?_⟩
   ·match k,hx with
    |0,hx=>simp at hx;subst hx;exact Qai.mono (p:=PV.polys ds) hrow4 (fun _ _ _=>rfl) (fun b _ h h'=>h (.inl h')) (Nat.le_refl _)
    |1,hx=>simp at hx;subst hx;exact .fn _ [] [] #[] #[] rfl rfl (fun k x h=>by simp at h) (fun k x h=>by simp at h)
    |k+2,hx=>simp at hx
   rintro e w5 ⟨v,r,rfl,hE5,hrep,rfl⟩;cases hrep;have d2:(0:Int)<(q.length:Int):=by omega
   gi_wp2
   refine⟨trivial,hdd _,(Qkj hCn rfl X (fun b hb=>Nat.lt_of_lt_of_le (hX4 b hb) hE5.size) (fun k x hx=>?_) _).mono ?_⟩
   ·match k,hx with
    |0,hx=>simp at hx;subst hx;exact Qai.mono (p:=PV.poly q) (w:=w1) (X:=fun b=>X b∨b=W.heap.size) (show Qs w1 _ (PV.poly q) _ by simpa using hq) (fun b hb _=>((hI.ex.trans hE4).trans hE5).block b hb id) (fun b hb h h'=>h (.inl h')) ((hI.ex.trans hE4).trans hE5).size
    |k+1,hx=>simp at hx
   rintro e w6 ⟨v,r,rfl,hE6,hrep,rfl⟩;cases hrep;have hE46:=(hE4.trans hE5).trans hE6;have hO6:=(hE46.block _ (Array.getElem?_eq_some_iff.1 hO).1 id).trans hO;have hR6:=(hE46.block _ (Array.getElem?_eq_some_iff.1 hI.rb).1 id).trans hI.rb;have cO1:w6.cell? ⟨w1.heap.size+1,0,none⟩=some (.slice aq q.length cq):=by simp only[World.cell?,hO6];rfl
   have cO2:w6.cell? ⟨w1.heap.size+1,1,none⟩=some vo:=by simp only[World.cell?,hO6];rfl
   have cR1:w6.cell? ⟨W.heap.size,0,none⟩=some (.slice none 0 0):=by simp only[World.cell?,hR6];rfl
   have cR2:w6.cell? ⟨W.heap.size,1,none⟩=some (.slice none 0 0):=by simp only[World.cell?,hR6];rfl
   have hR7:=heap_setCell_same w6 W.heap.size 0 _ _ (.slice aq q.length cq) hR6;have cR3:(w6.setCell ⟨W.heap.size,0,none⟩ (.slice aq q.length cq)).cell? ⟨W.heap.size,1,none⟩=some (.slice none 0 0):=by simp only[World.cell?,hR7];rfl
   have fR1:w6.frozen? ⟨W.heap.size,0,none⟩=false:=by simp only[World.frozen?,hR6];rfl
   have fR2:(w6.setCell ⟨W.heap.size,0,none⟩ (.slice aq q.length cq)).frozen? ⟨W.heap.size,1,none⟩=false:=by simp only[World.frozen?,hR7];rfl
   have hR8:=heap_setCell_same (w6.setCell ⟨W.heap.size,0,none⟩ (.slice aq q.length cq)) W.heap.size 1 _ _ vo hR7;obtain⟨ao,co,rfl⟩:=Qih hrow4;have hdl:(ds.map PV.poly).length=cs.length:=by rw[List.length_map,hlen]
   rw[hdl]at hR8
   gi_wp2
   have hE06:=(hEW.trans hE46)
   have hEs:Ext Qaw W ((w6.setCell ⟨W.heap.size,0,none⟩ (.slice aq q.length cq)).setCell ⟨W.heap.size,1,none⟩ (.slice ao cs.length co)):=by have e1:=Ext.setCell (Y:=fun b=>b=W.heap.size) w6 ⟨W.heap.size,0,none⟩ (.slice aq q.length cq) rfl;have e2:=Ext.setCell (Y:=fun b=>b=W.heap.size) (w6.setCell ⟨W.heap.size,0,none⟩ (.slice aq q.length cq)) ⟨W.heap.size,1,none⟩ (.slice ao cs.length co) rfl;exact(hE06.trans' e1 (fun i hi h=>by omega)).trans' e2 (fun i hi h=>by omega)
   have hE6s:Ext (fun b=>b=W.heap.size) w6 ((w6.setCell ⟨W.heap.size,0,none⟩ (.slice aq q.length cq)).setCell ⟨W.heap.size,1,none⟩ (.slice ao cs.length co)):=
    (Ext.setCell (Y:=fun b=>b=W.heap.size) w6 ⟨W.heap.size,0,none⟩ (.slice aq q.length cq) rfl).trans (Ext.setCell (Y:=fun b=>b=W.heap.size) _ ⟨W.heap.size,1,none⟩ (.slice ao cs.length co) rfl)
   refine bodyPost_ret (Qoe rfl _ _ W.heap.size _ _ _ _ rfl hR8 Tryz.underlying62 rfl (by kernel_rfl)) rfl ⟨_,rfl,hEs,_,rfl,rfl,fun k x hk=>?_⟩
   match k,hk with
   | 0,hk=>
    cases hk;refine⟨_,rfl,rfl,fun k x hk=>?_⟩
    match k,hk with
    |0,hk=>
     cases hk;refine Qs.mono (w:=w1) (X:=fun b=>X b∨b=W.heap.size) (show Qs w1 _ (PV.poly q) (.slice aq q.length cq)by simpa using hq) (fun b hb hn=>?_) (fun b _ h h'=>h (.inl h')) ?_
     ·exact(hE6s.block b (Nat.lt_of_lt_of_le hb ((hI.ex.trans hE46).size)) (fun h=>hn (.inr h))).trans ((hI.ex.trans hE46).block b hb id)
     ·exact Nat.le_trans (hI.ex.trans hE46).size hE6s.size
    |1,hk=>
     cases hk;refine Qs.mono (w:=wo) (X:=fun b=>X b∨b=W.heap.size) (by simpa[hlen]using hrow') (fun b hb hn=>?_) (fun b _ h h'=>h (.inl h')) ?_
     ·exact(hE6s.block b (Nat.lt_of_lt_of_le hb hE46.size) (fun h=>hn (.inr h))).trans (hE46.block b hb id)
     ·exact Nat.le_trans hE46.size hE6s.size
    |k+2,hk=>simp at hk
   |1,hk=>cases hk;exact .int _ _
   |k+2,hk=>simp at hk
theorem Q2m{p q:List Tm}{cs ds:List (List Tm)}{a:Rat}(hlen:ds.length=cs.length)(hl:cs.length<=100)
  (hPr:Qd Tryz.prog 141 [PV.poly p] (· = .tup [PV.poly q,PV.rat a])) (hSc:∀i (h:i<cs.length),Qd Tryz.prog 142 [PV.poly cs[i],PV.rat a] (· =PV.poly (ds.getD i [])))
  (hLg:Qd Tryz.prog 38 [PV.poly q] (· = .bool false)) (hq0:0<q.length)
  (hCF:Qd Tryz.prog 143 [PV.polys ds,.fn 38 [] []] (· = .bool false)) (hCn:Qd Tryz.prog 144 [PV.poly q] (· = .bool false)):
  Qd Tryz.prog 103 [PV.poly p,PV.polys cs] (· = .tup [.agg [PV.poly q,PV.polys ds],.int .i64 0]):=by
 refine⟨by unfold Ql3;kernel_rfl,fun w X vals hX hs hr=>?_⟩;obtain⟨v0,v1,rfl⟩:∃v0 v1,vals= #[v0,v1]:=by
  obtain⟨l⟩:=vals
  match l,hs with
  | [x,y],_=>exact⟨x,y,rfl⟩
 refine(callsIn_wide.1 (Q5y hlen hl X hX (hr 0 _ rfl) (hr 1 _ rfl) hPr hSc hLg hq0 hCF hCn 0)).mono ?_;rintro e w' ⟨v,rfl,h1,h2⟩;exact⟨v,_,rfl,h1,h2,rfl⟩
end Go.Proofs.YtdaldpkjhcfblaaGreat
namespace Go.Proofs.YtdaldpkjhcfblaaGreat
open Go Go.FW Go.RowKit Go.Shelf Go.Maps
theorem Qlb{w:World}{X:Nat->Prop}{e:Nat}{xs:List PV}{v:Value}(h:Qs w X (.sl e xs) v):∃a c,v= .slice a xs.length c:=by
 generalize hY:PV.sl e xs=Y at h;cases h with
 |slE _ a cap=>cases hY;exact⟨_,_,rfl⟩
 |sl _ _ b off cap=>cases hY;exact⟨_,_,rfl⟩
 |_=>cases hY
abbrev ElT:=List Tm×List (List Tm)
abbrev PV.em(x:ElT):PV:=.agg [PV.poly x.1,PV.polys x.2]
abbrev PV.ems(l:List ElT):PV:=.sl 2 (l.map PV.em)
abbrev zEl:Value:=.agg #[.slice none 0 0,.slice none 0 0]
def RZ(v:Value):Option (DataW Value×List MemPlace):=some (.held v,[])
theorem keyM:Keyed Tryz.prog 3:=int_keyed Tryz.underlying3
def ElV(W:World)(X:Nat->Prop):Option ElT->Value->Prop
 |none,v=>v=zEl
 |some e,v=>∃u1 u2,v= .agg #[u1,u2]/\Qs W X (PV.poly e.1) u1/\Qs W X (PV.polys e.2) u2
theorem ElV.mono{w w':World}{X X':Nat->Prop}{p:Option ElT}{v:Value}(h:ElV w X p v)
  (hb:∀b,b<w.heap.size->¬X b->w'.heap[b]? =w.heap[b]?) (hx:∀b,b<w.heap.size->¬X b->¬X' b) (hs:w.heap.size<=w'.heap.size):ElV w' X' p v:=by
 cases p with
 |none=>exact h
 |some e=>obtain⟨u1,u2,rfl,h1,h2⟩:=h;exact⟨u1,u2,rfl,h1.mono hb hx hs,h2.mono hb hx hs⟩
inductive Qi4(v:Nat):List ElT->List ElT->Option ElT->Nat->Prop
 |none (L:List ElT) (at_:Int):Qd Tryz.prog 60 [PV.ems L,.int .i64 v] (· = .tup [.int .i64 at_,.int .i64 0])->Qi4 v L L none 0
 |one (L:List ElT) (i:Nat) (h:i<L.length):Qd Tryz.prog 60 [PV.ems L,.int .i64 v] (· = .tup [.int .i64 i,.int .i64 1])->Qi4 v L L (some L[i]) 0
 | more (L L1 L2:List ElT) (at_ n:Int) (k:Option ElT) (m:Nat):Qd Tryz.prog 60 [PV.ems L,.int .i64 v] (· = .tup [.int .i64 at_,.int .i64 n])->2<=n->
   Qd Tryz.prog 61 [PV.ems L,.int .i64 at_,.int .i64 v] (· = .tup [PV.ems L1,.int .i64 0])->Qi4 v L1 L2 k m->Qi4 v L L2 k (m+1)
structure MkI(X:Nat->Prop)(B:Nat)(K:Nat->Option ElT)(g:Nat)(W0 W:World):Prop where
 ex:Ext (fun b=>b=B) W0 W
 mp:∃D n,n+g<=64/\W.ownsMap Tryz.prog 3 RZ B n D/\IsMap D/\∀u,u<64->∃val,D.atKey (.int .i64 (u:Nat)) (.held zEl)= .held val/\ElV W (fun b=>X b∨b=B) (if g<=u then K u else none) val
theorem Qtm{w:World}{X:Nat->Prop}{a b:Int}{v:Value}(h:Qco w X (.tup [.int .i64 a,.int .i64 b]) v):v= .tuple #[.int .i64 a,.int .i64 b]:=by
 obtain⟨vs,rfl,hvs,hr⟩:=h;obtain⟨x,y,rfl⟩:∃x y,vs= #[x,y]:=by
  obtain⟨l⟩:=vs
  match l,hvs with
  | [x,y],_=>exact⟨x,y,rfl⟩
 have h0:Qs w X (.int .i64 a) x:=hr 0 _ rfl;have h1:Qs w X (.int .i64 b) y:=hr 1 _ rfl;cases h0;cases h1;rfl
theorem Qahr{w:World}{X:Nat->Prop}{L:List ElT}{b:Int}{v:Value}(h:Qco w X (.tup [PV.ems L,.int .i64 b]) v):∃vl,v= .tuple #[vl,.int .i64 b]/\Qs w X (PV.ems L) vl:=by
 obtain⟨vs,rfl,hvs,hr⟩:=h;obtain⟨x,y,rfl⟩:∃x y,vs= #[x,y]:=by
  obtain⟨l⟩:=vs
  match l,hvs with
  | [x,y],_=>exact⟨x,y,rfl⟩
 have h0:Qs w X (PV.ems L) x:=hr 0 _ rfl;have h1:Qs w X (.int .i64 b) y:=hr 1 _ rfl;cases h1;exact⟨x,rfl,h0⟩
theorem MkI.ext{X:Nat->Prop}{B:Nat}{K:Nat->Option ElT}{g:Nat}{W0 W W':World}(h:MkI X B K g W0 W)(hE:Ext Qaw W W'):MkI X B K g W0 W':=by obtain⟨D,n,hn,hm,hi,hu⟩:=h.mp;refine⟨h.ex.trans' hE (fun i hi h=>h.elim),D,n,hn,hm.kept (row:=none) ⟨hE.os,hE.tape,hE.output,hE.size,fun k hk _=>hE.block k hk id⟩ (by simp),hi,fun u hu'=>?_⟩;obtain⟨val,h1,h2⟩:=hu u hu';exact⟨val,h1,h2.mono (fun b hb _=>hE.block b hb id) (fun b _ h=>h) hE.size⟩
theorem MkI.skip{X:Nat->Prop}{B:Nat}{K:Nat->Option ElT}{g:Nat}{W0 W:World}(h:MkI X B K (g+1) W0 W)(hK:K g=none):MkI X B K g W0 W:=by
 obtain⟨D,n,hn,hm,hi,hu⟩:=h.mp;refine⟨h.ex,D,n,by omega,hm,hi,fun u hu'=>?_⟩;obtain⟨val,h1,h2⟩:=hu u hu';refine⟨val,h1,?_⟩;by_cases e:u=g
 ·subst e;rw[if_neg (by omega)]at h2;rw[if_pos (Nat.le_refl _),hK];exact h2
 ·by_cases e2:g<=u
  ·rw[if_pos e2];rwa[if_pos (by omega)]at h2
  ·rw[if_neg e2];rwa[if_neg (by omega)]at h2
theorem MkI.put{X:Nat->Prop}{B:Nat}{K:Nat->Option ElT}{g:Nat}{W0 W W':World}(h:MkI X B K (g+1) W0 W){x:ElT}(hK:K g=some x){D:DataW Value}{n:Nat}(hn:n+(g+1)<=64)
  (hi:IsMap D) (hu:∀u,u<64->∃val,D.atKey (.int .i64 (u:Nat)) (.held zEl)= .held val/\ElV W (fun b=>X b∨b=B) (if g+1<=u then K u else none) val) {u1 u2:Value}
  (h1:Qs W (fun b=>X b∨b=B) (PV.poly x.1) u1) (h2:Qs W (fun b=>X b∨b=B) (PV.polys x.2) u2)
  (hm:W'.ownsMap Tryz.prog 3 RZ B (n+1) (D.put (.int .i64 (g:Nat)) (.held (.agg #[u1,u2])))) (hg:W.grownBy W' (some B)):MkI X B K g W0 W':=by
 have hE:Ext (fun b=>b=B) W W':=⟨hg.os,hg.tape,hg.output,hg.size,fun b hb hn=>hg.block b hb (by simpa using hn)⟩
 refine⟨h.ex.trans hE,_,n+1,by omega,hm,hi.put _ _,fun u hu'=>?_⟩;by_cases e:u=g
 ·subst e;refine⟨_,atKey_put_same hi (by trivial) _ _,?_⟩;rw[if_pos (Nat.le_refl _),hK];exact⟨u1,u2,rfl,h1.mono (fun b hb hn=>hE.block b hb (fun e=>hn (.inr e))) (fun _ _ h=>h) hE.size,h2.mono (fun b hb hn=>hE.block b hb (fun e=>hn (.inr e))) (fun _ _ h=>h) hE.size⟩
 ·obtain⟨val,e1,e2⟩:=hu u hu';refine⟨val,by rw[atKey_put_other (fun h=>e (by injection h with _ h;omega))];exact e1,?_⟩;have e3:=e2.mono (w':=W') (X':=fun b=>X b∨b=B) (fun b hb hn=>hE.block b hb (fun e=>hn (.inr e))) (fun _ _ h=>h) hE.size;by_cases e4:g<=u
  ·rw[if_pos e4];rwa[if_pos (by omega)]at e3
  ·rw[if_neg e4];rwa[if_neg (by omega)]at e3
theorem Qags(w:World):(zeroValue 62).run Tryz.prog w= .ok zEl w:=by kernel_rfl
theorem Qaq4:(Tryz.prog.info? 62).map (fun i=>(i.zero,i.size,i.bytes))=some (some zEl,2,48):=by kernel_rfl
theorem Qk3{P:Program}(w:World){ops:Array Oper}{rest:List Oper}{o:Oper}{a:Act}{Q:Exit->Act->World->Prop}
  (hg:o.guard=none) (m x:Operand) (t:TypeId) (hop:o.op=Op.lookup t m x false)
  (k e:TypeId) (K:Keyed P k) (ht:P.underlying t=some (.map k e)) (z:Value) (hz:(zeroValue e).run P w= .ok z w) (b n:Nat) (D:DataW Value)
  (hm:a.eval m= .map (some b)) (hown:w.ownsMap P k RZ b n D) (key:Value) (kl:Lit) (hx:a.eval x=key) (hkey:keyOf P k key=some kl) (val:Value) (hat:D.atKey kl (.held z)= .held val)
  (hK:wpList P ops Q rest (a.put o.dst val) w):
  wpList P ops Q (o::rest) a w:=by
 refine wpList_plain hg fun K' hK'=>?_;obtain⟨v,ps,hrun,hv⟩:=hown.lookup (e:=e) K ht hz (zd:=.held z) (zp:=[]) rfl hkey;obtain rfl:v=val:=by rw[hat]at hv;simp only[RZ,Option.some.injEq,Prod.mk.injEq,DataW.held.injEq]at hv;exact hv.1
 unfold Oper.wp;simp[execOp,hop,hm,hx,hrun,Result.andThen];exact hK' _ _ hK
theorem Q0z(w:World)(x y:Value)(t:TypeId){g:Nat}(hg:g=w.heap.size):∀j u,[x,y][j]? =some u->(w.alloc (.cells #[x,y] t)).cell? ((⟨g,0,none⟩:Addr).add j)=some u:=by
 intro j u hj;subst hg;have hn:=World.alloc_heap_new w (.cells #[x,y] t)
 match j,hj with
 |0,hj=>simp at hj;subst hj;rw[Addr.add_lit];simp only[World.cell?,hn];rfl
 |1,hj=>simp at hj;subst hj;rw[Addr.add_lit];simp only[World.cell?,hn];rfl
 |j+2,hj=>simp at hj
theorem Q86{a1 a2:Option Addr}{n1 n2 c1 c2:Nat}:∀u∈[Value.slice a1 n1 c1,.slice a2 n2 c2],u.oneCell'=true:=fun u hu=>by simp at hu;rcases hu with rfl|rfl<;>rfl
def Qfr(K:Nat->Option ElT)(j:Nat):List ElT:=(List.range j).filterMap K
theorem Qx9(K:Nat->Option ElT)(j:Nat):Qfr K (j+1)=Qfr K j++(K j).toList:=by unfold Qfr;rw[List.range_succ,List.filterMap_append];cases h:K j<;>simp[h]
theorem Qacu(K:Nat->Option ElT)(j:Nat):(Qfr K j).length<=j:=by unfold Qfr;exact Nat.le_trans (List.length_filterMap_le _ _) (by simp)
set_option maxHeartbeats 2000000 in
theorem Q5z {list:List (List Tm)} {Ls:Nat->List ElT} {K:Nat->Option ElT} (hst:Qd Tryz.prog 59 [PV.polys list] (· = .tup [PV.ems (Ls 64),.int .i64 0]))
  (hT:∀v,v<64->∃m,Qi4 v (Ls (v+1)) (Ls v) (K v) m) (hK:∀v e,K v=some e->0<e.1.length) {vp:Value} {W:World} (X:Nat->Prop) (hX:∀b,X b->b<W.heap.size) (hp:Qs W X (PV.polys list) vp):
  Calls Tryz.prog 27 #[vp] W fun e w'=>∃v,e= .returned v/\Ext Qaw W w'/\Qco w' X (.tup [PV.ems ((List.range 64).filterMap K),.int .i64 0]) v:=by
 have hmm:= @run_makeMap Tryz.prog;have cSt:=hst.2 W X #[vp] hX rfl (fun i x hx=>by
  match i,hx with
  |0,hx=>simp at hx;subst hx;exact hp
  |i+1,hx=>simp at hx)
 go_enter Tryz.func27,Tryz.ntmps27
 go_wp2
 go_step3
 go_wp2_with (first|(go_at_call 59;refine cSt.mono ?_))
 rintro e w1 ⟨v,r,rfl,hE1,hrep,rfl⟩;obtain⟨vs,rfl,hvs,hr⟩:=hrep;obtain⟨vl,ve,rfl⟩:∃vl ve,vs= #[vl,ve]:=by
  obtain⟨l⟩:=vs
  match l,hvs with
  | [x,y],_=>exact⟨x,y,rfl⟩
 have hl:Qs w1 X (PV.ems (Ls 64)) vl:=hr 0 _ rfl;have hve:Qs w1 X (.int .i64 0) ve:=hr 1 _ rfl;cases hve;dsimp only
 go_wp2
 go_step3
 go_wp2
 clear hmm;have hsz1:=hE1.size;have hX1:∀b,X b->b<w1.heap.size:=fun b hb=>Nat.lt_of_lt_of_le (hX b hb) hsz1;have hE2:Ext Qaw w1 (w1.alloc (.map #[] 0)):=Ext.alloc' _ _ _;have hl2:Qs (w1.alloc (.map #[] 0)) (fun b=>X b∨b=w1.heap.size) (PV.ems (Ls 64)) vl:=hl.mono (fun b hb _=>hE2.block b hb id) (fun b hb h h'=>h'.elim h (fun h=>by omega)) hE2.size;have hM0:MkI X w1.heap.size K 64 (w1.alloc (.map #[] 0)) (w1.alloc (.map #[] 0)):=
  ⟨Ext.refl _ _,.map [],0,by omega,World.ownsMap_made _ _ _ _,isMap_empty,fun u hu=>⟨zEl,rfl,by rw[if_neg (by omega)];rfl⟩⟩
 have HT:Aside (∀v,v<64->∃m,Qi4 v (Ls (v+1)) (Ls v) (K v) m):=hT;have HK:Aside (∀v e,K v=some e->0<e.1.length):=hK;have HS:Aside (Qs w1 X (PV.ems (Ls 64)) vl):=hl;clear hT hK hl;generalize hWm:w1.alloc (.map #[] 0)=Wm at *
 have hs2:w1.heap.size<Wm.heap.size:=by rw[<-hWm];simp
 clear hWm
 go_loopg [4,7] 64 (fun g s4 s7 wx=>∃v:Int,s7= .int .i64 v/\v=(g:Int)-1/\g<=64/\Qs wx (fun b=>X b∨b=w1.heap.size) (PV.ems (Ls g)) s4/\MkI X w1.heap.size K g Wm wx)
 case atStart=>exact⟨63,rfl,rfl,Nat.le_refl _,hl2,hM0⟩
 case round=>
  obtain⟨v,rfl,hv,hg,hl,hM⟩:=hrel;cases gk with
  | zero =>
   obtain rfl:v= -1:=by simpa using hv
   clear hv
   go_wp2
   obtain⟨D,n,hn,hmD,hDi,hDu⟩:=hM.mp;have HD:Aside (∀u,u<64->∃val,D.atKey (.int .i64 (u:Nat)) (.held zEl)= .held val/\ElV wr (fun b=>X b∨b=w1.heap.size) (K u) val):=fun u hu=>by obtain⟨val,h1,h2⟩:=hDu u hu;exact⟨val,h1,by rwa[if_pos (Nat.zero_le _)]at h2⟩
   clear hDu;obtain⟨W2,hW2⟩:∃W2,W2=wr:=⟨_,rfl⟩
   subst hW2;have HM:Aside (MkI X w1.heap.size K 0 Wm W2):=hM;have HE:Aside (Ext Qaw W w1/\Ext Qaw w1 Wm/\Ext (fun b=>b=w1.heap.size) Wm W2):=⟨hE1,hE2,hM.ex⟩
   clear hM
   go_loopg [10,52] 64 (fun g s10 s52 wx=>∃(j:Nat)(vs:List Value),j+g=64/\s52= .int .i64 (j:Nat)/\Ext Qaw W2 wx/\wx.ownsRow W2.heap.size 62 2 s10 (Qfr K j).length vs/\
    Aside (∀k (h:k<(Qfr K j).length),Qs W2 (fun b=>X b∨b=w1.heap.size) (PV.poly (Qfr K j)[k].1) (vs.getD (k*2) undef)/\Qs W2 (fun b=>X b∨b=w1.heap.size) (PV.polys (Qfr K j)[k].2) (vs.getD (k*2+1) undef)))
   case atStart=>exact⟨0,[],rfl,rfl,Ext.refl _ _,World.ownsRow_nil _ _ _ _,fun k h=>by simp[Qfr]at h⟩
   case round=>
    obtain⟨j,vs,hj,rfl,hEx,hrow,HR⟩:=hrel;cases gk with
    | zero=>
     obtain rfl:j=64:=by omega
     go_wp2
     have hX6:∀b,u10.ownBlock=some b->¬X b:=fun b hb hx=>by have h1:=(hrow.lt b hb).1;have h2:=hX1 b hx;have h3:=HE.out.2.2.size;omega
     have hres:Qs wr X (PV.ems (Qfr K 64)) u10:=by
      refine Qaa2 hrow (by simp) hX6 (fun p hp=>by obtain⟨y,_,rfl⟩:=List.mem_map.1 hp;rfl) (fun k hk c y hy=>?_);have hk2:k<(Qfr K 64).length:=by simpa using hk
      obtain⟨r1,r2⟩:=HR.out k hk2;rw[List.getElem_map]at hy
      match c,hy with
      |0,hy=>cases hy;exact r1.mono (fun b hb _=>hEx.block b hb id) (fun b _ h h'=>h (.inl h')) hEx.size
      |1,hy=>cases hy;exact r2.mono (fun b hb _=>hEx.block b hb id) (fun b _ h h'=>h (.inl h')) hEx.size
      |c+2,hy=>simp[PV.cells]at hy
     refine bodyPost_ret (by simp[results,go_sem];rfl) rfl ⟨_,rfl,?_,_,rfl,rfl,fun k x hk=>?_⟩
     ·exact((HE.out.1.trans HE.out.2.1).trans' HE.out.2.2 (fun i hi h=>by have:=hsz1;omega)).trans hEx
     ·match k,hk with
      |0,hk=>cases hk;exact hres
      |1,hk=>cases hk;exact .int _ _
      |k+2,hk=>simp at hk
    | succ g=>
     have d0:(j:Int)<64:=by omega
     obtain⟨val,hat,hEl⟩:=HD.out j (by omega);have hmD2:wr.ownsMap Tryz.prog 3 RZ w1.heap.size n D:=hmD.kept (row:=none) ⟨hEx.os,hEx.tape,hEx.output,hEx.size,fun k hk _=>hEx.block k hk id⟩ (by simp);have hkey:keyOf Tryz.prog 3 (.int .i64 (j:Nat))=some (.int .i64 (j:Nat)):=keyOf_int_mk Tryz.underlying3 (WalkArith.wf_i64 (by omega));generalize hKj:K j=kj at hEl;cases kj with
     | none=>
      obtain rfl:val=zEl:=hEl
      go_wp2_with (first
       |(at_lookup;refine Qk3 _ rfl _ _ 79 rfl 3 62 keyM Tryz.underlying79 zEl (Qags _) w1.heap.size n D rfl hmD2 _ _ rfl hkey _ hat ?_))
      have ho:Qfr K (j+1)=Qfr K j:=by rw[Qx9,hKj];simp
      go_roundg g
      case measure=>omega
      case rel=>
       refine⟨j+1,vs,by omega,by first|rfl|simp,hEx.trans (Ext.alloc' _ _ _),?_,?_⟩
       ·rw[ho];exact hrow.alloc _
       ·rw[ho];exact HR
     | some x=>
      obtain⟨y1,y2,rfl,ry1,ry2⟩:=hEl;have hx0:=HK.out j x hKj;obtain⟨a1,c1,rfl⟩:=Qlb ry1;obtain⟨a2,c2,rfl⟩:=Qlb ry2;rw[show(x.1.map PV.term).length=x.1.length from List.length_map ..]at hat ry1;rw[show(x.2.map PV.poly).length=x.2.length from List.length_map ..]at hat ry2;have d1:(0:Int)<(x.1.length:Int):=by omega
      have ho:Qfr K (j+1)=Qfr K j++[x]:=by rw[Qx9,hKj];simp
      have hol:=Qacu K j;obtain⟨i0,hi0,z0,z1,z2⟩:=info_parts Qaq4;have hbase:W2.heap.size<=wr.heap.size:=hEx.size
      go_wp2_with (first
       |(at_lookup;refine Qk3 _ rfl _ _ 79 rfl 3 62 keyM Tryz.underlying79 zEl (Qags _) w1.heap.size n D rfl hmD2 _ _ rfl hkey _ hat ?_)
       |(at_builtin;refine wpList_append_own_at _ rfl _ _ 56 rfl W2.heap.size 62 i0 zEl 2 48 Tryz.underlying56 hi0 z0 z1 z2 rfl (by decide) _ _ _ rfl ((hrow.alloc _).alloc _) ⟨wr.heap.size+1,0,none⟩ 1 1 [.slice a1 x.1.length c1,.slice a2 x.2.length c2] rfl rfl (Q0z _ _ _ _ (by simp)) Q86 (by unfold maxLen;omega) (by omega) (by simp;omega) ?_;intro v' w3 hown' hgrow hnil hloc))
      have hE3:Ext Qaw W2 w3:=by
       have e1:Ext Qaw W2 ((wr.alloc (.cells #[.slice a1 x.1.length c1,.slice a2 x.2.length c2] 62)).alloc (.cells #[.slice a1 x.1.length c1,.slice a2 x.2.length c2] 62)):=hEx.trans ((Ext.alloc' _ _ _).trans (Ext.alloc' _ _ _));have e2:Ext (fun b=>W2.heap.size<=b) ((wr.alloc (.cells #[.slice a1 x.1.length c1,.slice a2 x.2.length c2] 62)).alloc (.cells #[.slice a1 x.1.length c1,.slice a2 x.2.length c2] 62)) w3:=
        ⟨hgrow.os,hgrow.tape,hgrow.output,hgrow.size,fun b hb hn=>hgrow.block b hb (fun e=>hn ((hrow.lt b e.symm).1))⟩
       exact e1.trans' e2 (fun i hi h=>by omega)
      go_roundg g
      case measure=>omega
      case rel=>
       refine⟨j+1,vs++[.slice a1 x.1.length c1,.slice a2 x.2.length c2],by omega,by first|rfl|simp,hE3,?_,?_⟩
       ·rw[ho,List.length_append];exact hown'
       ·rw[ho];intro k hk;have hvl:vs.length=(Qfr K j).length*2:=hrow.1;rw[List.length_append,List.length_singleton]at hk;by_cases e:k<(Qfr K j).length
        ·rw[List.getElem_append_left e,List.getD_eq_getElem?_getD,List.getD_eq_getElem?_getD,List.getElem?_append_left (by omega),List.getElem?_append_left (by omega),<-List.getD_eq_getElem?_getD,<-List.getD_eq_getElem?_getD];exact HR.out k e
        ·obtain rfl:k=(Qfr K j).length:=by omega
         rw[List.getElem_append_right (Nat.le_refl _),List.getD_eq_getElem?_getD,List.getD_eq_getElem?_getD,List.getElem?_append_right (by omega),List.getElem?_append_right (by omega)];simp only[Nat.sub_self,List.getElem_cons_zero,hvl,show(Qfr K j).length*2+1-(Qfr K j).length*2=1 by omega];exact⟨ry1,ry2⟩
  | succ g=>
   obtain rfl:v=(g:Int):=by omega
   clear hv;obtain⟨m,hTm⟩:=HT.out g (by omega)
   go_wp2
   have HTm:Aside (Qi4 g (Ls (g+1)) (Ls g) (K g) m):=hTm;clear hTm
   go_loopg [4] m (fun k s4 wx=>∃L,Aside (Qi4 g L (Ls g) (K g) k)/\Qs wx (fun b=>X b∨b=w1.heap.size) (PV.ems L) s4/\MkI X w1.heap.size K (g+1) Wm wx)
   case atStart=>exact⟨_,HTm,hl,hM⟩
   case round=>
    obtain⟨L,HL,hlL,hM⟩:=hrel;have hX2:∀b,(X b∨b=w1.heap.size)->b<wr.heap.size:=fun b hb=>hb.elim (fun h=>by have:=hX1 b h;have:=hM.ex.size;omega) (fun h=>by have:=hM.ex.size;omega);generalize hgk:gk=k at *
    have HL:=HL.out;generalize hKg:K g=kg at HL;generalize hLg:Ls g=lg at HL;cases HL with
    | none _ at_ hLe=>
     have cL:=hLe.2 wr _ #[u4,.int .i64 (g:Nat)] hX2 rfl (fun i x hx=>by
      match i,hx with
      |0,hx=>simp at hx;subst hx;exact hlL
      |1,hx=>simp at hx;subst hx;exact .int _ _
      |i+2,hx=>simp at hx)
     go_wp2_with (first|(go_at_call 60;refine cL.mono ?_;rintro e w2 ⟨v,r,rfl,hE1,hrep,rfl⟩;obtain rfl:=Qtm hrep))
     go_roundg g
     case measure=>omega
     case rel=>
      subst hLg;exact⟨(g:Int)-1,rfl,rfl,by omega,hlL.mono (fun b hb _=>hE1.block b hb id) (fun _ _ h=>h) hE1.size,(hM.skip hKg).ext hE1⟩
    | one _ i hi hLe=>
     have cL:=hLe.2 wr _ #[u4,.int .i64 (g:Nat)] hX2 rfl (fun i x hx=>by
      match i,hx with
      |0,hx=>simp at hx;subst hx;exact hlL
      |1,hx=>simp at hx;subst hx;exact .int _ _
      |i+2,hx=>simp at hx)
     obtain⟨b,off,cap,x1,x2,rfl,cx1,cx2,rx1,rx2,hbX,hbl⟩:=hlL.at2 (i:=i) (by simpa using hi) (by rw[List.getElem_map]);obtain⟨a1,c1,rfl⟩:=Qlb rx1;obtain⟨a2,c2,rfl⟩:=Qlb rx2;have d1:(i:Int)<(L.length:Int):=by omega
     rw[List.length_map]at cL;have d2:(0:Int)<=(i:Int):=by omega
     have hkey:keyOf Tryz.prog 3 (.int .i64 (g:Nat))=some (.int .i64 (g:Nat)):=keyOf_int_mk Tryz.underlying3 (WalkArith.wf_i64 (by omega));have key:∀w2,Ext Qaw wr w2->∃D n,n+(g+1)<=64/\w2.ownsMap Tryz.prog 3 RZ w1.heap.size n D/\Aside (IsMap D/\∀u,u<64->∃val,D.atKey (.int .i64 (u:Nat)) (.held zEl)= .held val/\ElV w2 (fun b=>X b∨b=w1.heap.size) (if g+1<=u then K u else none) val)/\
       w2.cell? ⟨b,off+i*2,none⟩=some (.slice a1 (L[i].1.map PV.term).length c1)/\w2.cell? ⟨b,off+i*2+1,none⟩=some (.slice a2 (L[i].2.map PV.poly).length c2):=fun w2 hE=>by
      obtain⟨D,n,hn,hmD,hDi,hDu⟩:=(hM.ext hE).mp;exact⟨D,n,hn,hmD,⟨hDi,hDu⟩,(World.cell?_of_block (w:=wr) (w':=w2) (a:=⟨b,off+i*2,none⟩) (hE.block b hbl id)).trans cx1,(World.cell?_of_block (w:=wr) (w':=w2) (a:=⟨b,off+i*2+1,none⟩) (hE.block b hbl id)).trans cx2⟩
     clear cx1 cx2
     go_wp2_with (first
      |(go_at_call 60;refine cL.mono ?_;rintro e w2 ⟨v,r,rfl,hE1,hrep,rfl⟩;obtain rfl:=Qtm hrep;obtain⟨D,n,hn,hmD,HD,cx1,cx2⟩:=key w2 hE1)
      |(at_mapUpdate;refine wpList_mapUpdate_own _ rfl _ _ _ 79 rfl 3 62 keyM Tryz.underlying79 RZ w1.heap.size n D rfl hmD (by unfold maxLen;omega) _ _ _ rfl rfl hkey _ [] rfl ?_;intro w3 hown1 hgrow1))
     have hE3:Ext (fun b=>b=w1.heap.size) wr w3:=(hE1.mono (fun _ _ h=>h.elim)).trans ⟨hgrow1.os,hgrow1.tape,hgrow1.output,hgrow1.size,fun b hb hn=>hgrow1.block b hb (by simpa using hn)⟩;have hl3:Qs w3 (fun b=>X b∨b=w1.heap.size) (PV.ems L) (.slice (some ⟨b,off,none⟩) L.length cap):=by rw[List.length_map]at hlL;exact hlL.mono (fun b hb hn=>hE3.block b hb (fun e=>hn (.inr e))) (fun _ _ h=>h) hE3.size
     have hx1:Qs w2 (fun b=>X b∨b=w1.heap.size) (PV.poly L[i].1) (.slice a1 L[i].1.length c1):=by rw[show(L[i].1.map PV.term).length=L[i].1.length from List.length_map ..]at rx1;exact rx1.mono (fun b hb _=>hE1.block b hb id) (fun _ _ h=>h) hE1.size
     have hx2:Qs w2 (fun b=>X b∨b=w1.heap.size) (PV.polys L[i].2) (.slice a2 L[i].2.length c2):=by rw[show(L[i].2.map PV.poly).length=L[i].2.length from List.length_map ..]at rx2;exact rx2.mono (fun b hb _=>hE1.block b hb id) (fun _ _ h=>h) hE1.size
     go_roundg g
     case measure=>omega
     case rel=>
      subst hLg;exact⟨(g:Int)-1,rfl,rfl,by omega,hl3,MkI.put (hM.ext hE1) hKg hn HD.out.1 HD.out.2 hx1 hx2 hown1 hgrow1⟩
    | more _ L1 _ at_ n _ m hLe h2 hRo hT2=>
     have cL:=hLe.2 wr _ #[u4,.int .i64 (g:Nat)] hX2 rfl (fun i x hx=>by
      match i,hx with
      |0,hx=>simp at hx;subst hx;exact hlL
      |1,hx=>simp at hx;subst hx;exact .int _ _
      |i+2,hx=>simp at hx)
     have cR:=fun w2 (hE:Ext Qaw wr w2)=>hRo.2 w2 _ #[u4,.int .i64 at_,.int .i64 (g:Nat)] (fun b hb=>Nat.lt_of_lt_of_le (hX2 b hb) hE.size) rfl (fun i x hx=>by
      match i,hx with
      |0,hx=>simp at hx;subst hx;exact Qai.mono (p:=PV.ems L) hlL (fun b hb _=>hE.block b hb id) (fun _ _ h=>h) hE.size
      |1,hx=>simp at hx;subst hx;exact .int _ _
      |2,hx=>simp at hx;subst hx;exact .int _ _
      |i+3,hx=>simp at hx)
     have hn2:¬n<2:=by omega
     have HT2:Aside (Qi4 g L1 lg kg m):=hT2;clear hT2
     go_wp2_with (first|(go_at_call 60;refine cL.mono ?_;rintro e w2 ⟨v,r,rfl,hE1,hrep,rfl⟩;obtain rfl:=Qtm hrep)|(go_at_call 61;refine(cR _ hE1).mono ?_;rintro e w3 ⟨v,r,rfl,hE2,hrep2,rfl⟩;obtain⟨vl2,rfl,hl2⟩:=Qahr hrep2))
     go_roundg m
     case measure=>omega
     case rel=>
      subst hLg hKg;exact⟨L1,HT2,hl2,(hM.ext hE1).ext hE2⟩
theorem Qaml{list:List (List Tm)}{Ls:Nat->List ElT}{K:Nat->Option ElT}(hst:Qd Tryz.prog 59 [PV.polys list] (· = .tup [PV.ems (Ls 64),.int .i64 0]))
  (hT:∀v,v<64->∃m,Qi4 v (Ls (v+1)) (Ls v) (K v) m) (hK:∀v e,K v=some e->0<e.1.length):Qd Tryz.prog 27 [PV.polys list] (· = .tup [PV.ems ((List.range 64).filterMap K),.int .i64 0]):=by
 refine⟨by unfold Ql3;kernel_rfl,fun w X vals hX hs hr=>?_⟩;obtain⟨v0,rfl⟩:∃v0,vals= #[v0]:=by
  obtain⟨l⟩:=vals
  match l,hs with
  | [x],_=>exact⟨x,rfl⟩
 refine(Q5z hst hT hK X hX (hr 0 _ rfl)).mono ?_;rintro e w' ⟨v,rfl,h1,h2⟩;exact⟨v,_,rfl,h1,h2,rfl⟩
end Go.Proofs.YtdaldpkjhcfblaaGreat
namespace Go.FW
open Go
structure RTm where
 n:Bool
 a:List Nat
 d:List Nat
 m:List Int
abbrev PV.rterm(t:RTm):PV:=.agg [.bool t.n,PV.nat t.a,PV.nat t.d,PV.mono t.m]
abbrev PV.rpoly(l:List RTm):PV:=.sl 4 (l.map PV.rterm)
def RTm.q(t:RTm):Rat:=rv t.n t.a t.d
def RTm.tm(t:RTm):Tm:=(t.q,t.m)
structure RB(k:Nat)(t:RTm):Prop where
 r:Ql t.a/\Ql t.d/\t.a.length<=k/\t.d.length<=k
 l:t.m.length<2^40
def rOk(t:RTm):Bool:=Qi1 t.n t.a t.d&&(decide (t.q≠0)&&Qby t.m)
def Qcu:List RTm->Bool
 | []=>true
 | [t]=>rOk t
 |s::t::l=>rOk s&&(decide (0<Qak s.m t.m)&&Qcu (t::l))
theorem Qtn:∀(l:List RTm),Qcu l=true↔(∀i (h:i<l.length),rOk l[i]=true)/\(∀i (h:i+1<l.length),0<Qak l[i].m l[i+1].m)
 | []=>by simp[Qcu]
 | [t]=>by
  rw[Qcu];constructor
  ·intro h;exact⟨fun i hi=>by have:i=0:=(by simp at hi;omega);subst this;exact h,fun i hi=>by simp at hi⟩
  ·intro h;exact h.1 0 (by simp)
 | s::t::l=>by
  rw[Qcu,Bool.and_eq_true,Bool.and_eq_true,decide_eq_true_eq,Qtn (t::l)];constructor
  ·rintro⟨h1,h2,h3,h4⟩;refine⟨fun i hi=>?_,fun i hi=>?_⟩
   ·cases i with
    |zero=>exact h1
    |succ i=>exact h3 i (by simpa using hi)
   ·cases i with
    |zero=>exact h2
    |succ i=>exact h4 i (by simpa using hi)
  ·rintro⟨h1,h2⟩;exact⟨h1 0 (by simp),h2 0 (by simp),fun i hi=>h1 (i+1) (by simpa using hi),fun i hi=>h2 (i+1) (by simpa using hi)⟩
theorem Q87{s:RTm}{l:List RTm}(h:Qcu (s::l)=true):rOk s=true/\Qcu l=true:=by
 cases l with
 |nil=>exact⟨h,rfl⟩
 |cons t l=>rw[Qcu,Bool.and_eq_true,Bool.and_eq_true]at h;exact⟨h.1,h.2.2⟩
structure TV(t:Tm):Prop where
 c:t.1≠0
 m:Qby t.2=true
def Qbc:List Tm->Prop
 | []=>True
 |s::p=>(∀t∈p,0<Qak s.2 t.2)/\Qbc p
structure PVd(p:List Tm):Prop where
 t:∀t∈p,TV t
 s:Qbc p
theorem Qacv{t:RTm}{k:Nat}(hb:RB k t)(h:rOk t=true):PV.rterm t=PV.term t.tm/\TV t.tm:=by simp only[rOk,Bool.and_eq_true,decide_eq_true_eq]at h;obtain⟨h1,h2,h3⟩:=h;obtain⟨e1,e2,e3⟩:=Qaco hb.r.1 hb.r.2.1 h1;refine⟨?_,h2,h3⟩;rw[PV.rterm,PV.term,RTm.tm,RTm.q,<-e1,PV.num,PV.num,<-e2,<-e3]
theorem Qfc{a b c:List Int}(h1:0<Qak a b)(h2:0<Qak b c):0<Qak a c:=by have e1:=Qia a b;have e2:=Qia b c;have e3:=Qia a c;have:=Q5u (a:=c) (b:=b) (c:=a) (by omega) (by omega);omega
theorem Qqs{k:Nat}:∀ {l:List RTm},(∀t∈l,RB k t)->Qcu l=true->PV.rpoly l=PV.poly (l.map RTm.tm)/\PVd (l.map RTm.tm):=by
 intro l;induction l with
 |nil=>intro _ _;exact⟨rfl,⟨by simp,trivial⟩⟩
 | cons s l ih=>
  intro hb h;obtain⟨h1,h2⟩:=Q87 h;obtain⟨e1,v1⟩:=Qacv (hb s (by simp)) h1;obtain⟨e2,v2⟩:=ih (fun t ht=>hb t (by simp[ht])) h2;refine⟨?_,⟨fun t ht=>?_,?_,v2.s⟩⟩
  ·have e2':l.map PV.rterm=(l.map RTm.tm).map PV.term:=by injection e2
   show PV.sl 4 (PV.rterm s::l.map PV.rterm)=PV.sl 4 (PV.term s.tm::(l.map RTm.tm).map PV.term);rw[e1,e2']
  ·simp only[List.map_cons,List.mem_cons]at ht;rcases ht with rfl|ht
   ·exact v1
   ·exact v2.t t ht
  ·cases l with
   |nil=>intro t ht;simp at ht
   |cons u l=>
    rw[Qcu,Bool.and_eq_true,Bool.and_eq_true,decide_eq_true_eq]at h;intro t ht;rw[List.map_cons]at ht v2;rcases List.mem_cons.1 ht with rfl|ht
    ·exact h.2.1
    ·exact Qfc h.2.1 (v2.s.1 t ht)
theorem Qso{a:List Int}(h:Qby a=true):a.getLast? ≠some 0:=by simp only[Qby,Bool.and_eq_true,decide_eq_true_eq]at h;exact h.2.1
variable {C : Ctx} {ρ : Nat -> Option Nat} {fr : Fr} {hp : HP} {w : World} {K R : Qg}
theorem Q31(s:Nat)(hd:(Qaa hp (fr s)).isData=true):Wk fr hp (upd fr s (Qaa hp (fr s))) (FW.Qaj hp (fr s).refs):=by
 rintro C tmps w ⟨ρ,hs⟩;have hf:=hs.freeze (fr s).refs;refine⟨ρ,hf.sz,hf.ext,hf.keep,hf.own,hf.inj,fun i=>?_⟩;unfold upd;split
 ·rename_i hi;subst hi;exact Qr.ofData (Qfm hs (hs.slots i) (fun β h=>h) hd)
 ·exact hf.slots i
def Qo2(W:List (Nat×Nat))(F:Fr)(I:Nat->Fr->HP->Prop)(n:Nat):Qg:=fun fr' hp'=>∃J hp2 m,Wk fr' hp' (ovr W J F) hp2/\m<n/\I m J hp2
theorem Qacw{W:List (Nat×Nat)}{F:Fr}{I:Nat->Fr->HP->Prop}{n:Nat}:KM (Qo2 W F I n) (Qo2 W F I n):=by rintro f f' hp hf ⟨J,hp2,m,h1,h2,h3⟩;exact⟨J,hp2,m,hf.wk.trans h1,h2,h3⟩
theorem Qz{sk:List It}{W:List (Nat×Nat)}{F:Fr}{I:Nat->Fr->HP->Prop}{n:Nat}(h:Qd6 R sk):Qd6 R (.el (Qo2 W F I n)::sk):=⟨h.1,.el Qacw h.2⟩
theorem Qmz{W:List (Nat×Nat)}{F J:Fr}{I:Nat->Fr->HP->Prop}{n:Nat}(m:Nat)(hl:m<n)(h:I m J hp):Qo2 W F I n (ovr W J F) hp:=⟨J,hp,m,Wk.refl _ _,hl,h⟩
theorem Qu3{W:List (Nat×Nat)}{F J:Fr}{I:Nat->Fr->HP->Prop}{n:Nat}(s m:Nat)(hs:inW W s=true)(hd:(Qaa hp (J s)).isData=true)(hl:m<n)(h:I m (upd J s (Qaa hp (J s))) (FW.Qaj hp (J s).refs)):Qo2 W F I n (ovr W J F) hp:=by
 have e:ovr W J F s=J s:=by rw[Q8r,if_pos hs]
 have hw:=Q31 (fr:=ovr W J F) (hp:=hp) s (by rw[e];exact hd);rw[e,Q3r hs]at hw;exact⟨_,_,m,hw,hl,h⟩
theorem Q00{sk:List It}{x:SC}(hok:Qd6 R sk)(W:List (Nat×Nat))(B:List Nat)(I:Nat->Fr->HP->Prop)(m0:Nat)(h0:I m0 fr hp)
  (h:∀m J hp,I m J hp->vc C R (.c x:: .el (Qo2 W (Qah B fr) I m)::sk) (ovr W J (Qah B fr)) hp):vc C R (.c (.loop x)::sk) fr hp:=by
 refine Qkc (fun m fr' hp'=>∃J,fr'=ovr W J (Qah B fr)/\I m J hp') m0 (Qti W B).wk ⟨fr,rfl,h0⟩ ?_;rintro m _ hp' ⟨J,rfl,hI⟩;refine Qiz hok.1 _ _ _ _ _ _ (Nat.le_refl _) (.c x (.el ?_ hok.2)) (Fle.refl _) (h m J hp' hI);rintro f f' hp2 hf ⟨J2,hp3,m2,e2,hl,h2⟩;exact Qtc hl (hf.wk.trans e2) ⟨J2,rfl,h2⟩
abbrev dg(a:List Nat)(i:Nat):Nat:=a.getD i 0
theorem Qo3{a:List Nat}(h:Ql a)(i:Nat):dg a i<65536:=by
 by_cases hi:i<a.length
 ·rw[dg,Qbu hi];exact Qas h hi
 ·rw[dg,Qbv hi];omega
theorem Qii(a:List Nat)(i:Nat):val (a.drop i)=dg a i+65536*val (a.drop (i+1)):=by
 by_cases hi:i<a.length
 ·rw[Qda hi,dg,Qbu hi]
 ·rw[dg,Qbv hi,List.drop_of_length_le (by omega),List.drop_of_length_le (by omega)];rfl
theorem Qo4(a:List Nat)(i:Nat):val a=val (a.take i)+65536^i*val (a.drop i):=by
 by_cases hi:i<=a.length
 ·exact Qd5 a i hi
 ·rw[List.take_of_length_le (by omega),List.drop_of_length_le (by omega)];simp[val]
theorem Q01{a:List Nat}(h:Ql a)(i:Nat):val (a.take i)<65536^i:=by
 by_cases hi:i<=a.length
 ·exact Qem h i hi
 ·rw[List.take_of_length_le (by omega)];exact Nat.lt_of_lt_of_le (Qgj h) (Nat.pow_le_pow_right (by omega) (by omega))
theorem Qn6(a:List Nat)(i:Nat):val (a.take (i+1))=val (a.take i)+65536^i*dg a i:=by
 by_cases hi:i<a.length
 ·rw[Qgk hi,dg,Qbu hi]
 ·rw[dg,Qbv hi,List.take_of_length_le (by omega),List.take_of_length_le (by omega)];simp
theorem Qsp{a b:List Nat}(ha:Ql a){i:Nat}(h:val (a.drop i)<val (b.drop i)):val a<val b:=by rw[Qo4 a i,Qo4 b i];have h1:=Q01 ha i;have:65536^i*(val (a.drop i)+1)<=65536^i*val (b.drop i):=Nat.mul_le_mul_left _ h;rw[Nat.mul_add]at this;omega
theorem Q32{l:List Nat}{j v:Nat}(h:j<l.length):val (l.set j v)+65536^j*l[j]=val l+65536^j*v:=by have e:l.set j v=l.take j++v::l.drop (j+1):=List.set_eq_take_append_cons_drop.trans (by rw[if_pos h]);have e2:=Qd5 l j (by omega);rw[Qda h]at e2;rw[e,Qcm,List.length_take,Nat.min_eq_left (by omega),val,e2,Nat.mul_add,Nat.mul_add];omega
theorem Qo5(l:List Nat)(x:Nat):val (l++[x])=val l+65536^l.length*x:=by rw[Qcm];simp[val]
theorem Q50{l:List Nat}{j:Nat}(h:val (l.drop j)=0):dg l j=0:=by have:=Qii l j;omega
theorem Qamm{bt:Bool}{n d:Nat}:Qa9 .rem bt (.int .u64 (n:Int)) (.int .u64 65536) d fr hp K=K (upd fr d (.int .u64 ((n%65536:Nat):Int))) hp:=by rw[show(65536:Int)=((65536:Nat):Int)from rfl,Qgm (by omega)]
theorem Qamn{bt:Bool}{n d:Nat}(h:n<18446744073709551616):Qa9 .quo bt (.int .u64 (n:Int)) (.int .u64 65536) d fr hp K=K (upd fr d (.int .u64 ((n/65536:Nat):Int))) hp:=by rw[show(65536:Int)=((65536:Nat):Int)from rfl,Qn2 (by omega) h]
theorem Qahs{bt:Bool}{n d:Nat}:Qa9 .rem bt (.int .i64 (n:Int)) (.int .i64 65536) d fr hp K=K (upd fr d (.int .i64 ((n%65536:Nat):Int))) hp:=by rw[show(65536:Int)=((65536:Nat):Int)from rfl,Qgm (by omega)]
theorem Qaht{bt:Bool}{n d:Nat}(h:n<9223372036854775808):Qa9 .quo bt (.int .i64 (n:Int)) (.int .i64 65536) d fr hp K=K (upd fr d (.int .i64 ((n/65536:Nat):Int))) hp:=by rw[show(65536:Int)=((65536:Nat):Int)from rfl,Qwu (by omega) h]
theorem Qamo(n:Nat):(n:Int)*65536=((n*65536:Nat):Int):=by omega
end Go.FW
namespace Go.FW
theorem Qya{P x y V ai c q r M S T:Nat}(h1:S+P*x=M+P*r)(h2:M+P*(c+ai*(y+65536*V))=T)(h3:65536*q+r=x+ai*y+c):S+P*65536*(q+ai*V)=T:=by
 have e:P*(65536*q+r)=P*(x+ai*y+c):=by rw[h3]
 have a1:P*(c+ai*(y+65536*V))=P*c+P*(ai*y)+65536*(P*(ai*V)):=by rw[Nat.mul_add ai,Nat.mul_add,Nat.mul_add,Nat.mul_left_comm ai 65536,Nat.mul_left_comm P 65536];omega
 have a2:P*65536*(q+ai*V)=65536*(P*q)+65536*(P*(ai*V)):=by rw[Nat.mul_comm P,Nat.mul_assoc,Nat.mul_add,Nat.mul_add]
 have a3:P*(65536*q+r)=65536*(P*q)+P*r:=by rw[Nat.mul_add,Nat.mul_left_comm]
 have a4:P*(x+ai*y+c)=P*x+P*(ai*y)+P*c:=by rw[Nat.mul_add,Nat.mul_add]
 omega
theorem Qyb{l:List Nat}{i j v:Nat}(h:i≠j):dg (l.set i v) j=dg l j:=by simp[dg,List.getD_eq_getElem?_getD,List.getElem?_set_ne h]
open Go
variable {C : Ctx} {ρ : Nat -> Option Nat} {fr : Fr} {hp : HP} {w : World} {K R : Qg}
theorem Qu4{x V d q:Nat}(hd:0<d)(h:q=V/d):(V%d*65536+x)/d+65536*q=(x+65536*V)/d/\(V%d*65536+x)%d=(x+65536*V)%d:=by
 subst h;have e:x+65536*V=(V%d*65536+x)+d*(65536*(V/d)):=by
  have:=Nat.div_add_mod V d
  calc x+65536*V=x+65536*(d*(V/d)+V%d):=by rw[this]
   _=_:=by rw[Nat.mul_add,Nat.mul_left_comm];omega
 rw[e,Nat.add_mul_div_left _ _ hd,Nat.add_mul_mod_self_left];exact⟨rfl,rfl⟩
theorem Qahu(i e:Nat)(hi:fr i= .nilS):Wk fr hp (upd fr i (.sl e [])) hp:=by
 rintro C tmps w ⟨ρ,hs⟩;refine⟨ρ,hs.sz,hs.ext,hs.keep,hs.own,hs.inj,fun j=>?_⟩;unfold upd;split
 ·rename_i hj;subst hj;have:=hs.slots j;rw[hi]at this;rw[Qr.nil_inv this];exact Qs.slE _ _ _ (Nat.zero_le _)
 ·exact hs.slots j
theorem Qhn{sk:List It}{x:SC}(i e:Nat)(hi:fr i= .nilS)(h:vc C R (.c (.loop x)::sk) (upd fr i (.sl e [])) hp):vc C R (.c (.loop x)::sk) fr hp:=by rw[Qf6]at h⊢;obtain⟨I,μ,⟨fr0,hp0,h1,h1'⟩,h2⟩:=h;exact⟨I,μ,⟨fr0,hp0,(Qahu i e hi).trans h1,h1'⟩,h2⟩
end Go.FW
namespace Go.FW
open Go Go.ChangeShapes Go.WideShapes
section
variable {H : Type} {enc : TypeId × Value -> H} {P : Program} {w : World} {base : Nat} {spare : Nat -> Bool} {held : Bool}
structure Bulk(Qcy:DataW H->Nat):Prop where
 len:∀(elems spare:List (DataW H)),elems.length<=Qcy (.slice elems spare)
 sl:∀(elems spare:List (DataW H))(d:DataW H),d∈elems->Qcy d<=Qcy (.slice elems spare)
 ag:∀(parts:List (DataW H))(d:DataW H),d∈parts->Qcy d<=Qcy (.agg parts)
def Qgd(enc:TypeId×Value->H)(P:Program)(Qcy:DataW H->Nat)(N:Nat)(t:TypeId)(Q:List PV->Prop):Prop:=
 ∀(w:World)(base:Nat)(spare:Nat->Bool)(held:Bool)(fuel:Nat)(cs:List Value)(x:DataW H×List MemPlace),DataW.trod enc P w base spare held fuel t cs=some x->Qcy x.1<=N->
  ∃ps,Q ps/\ps.length=cs.length/\∀(i:Nat)(p:PV),ps[i]? =some p->Qs w Qaw p (cs.getD i undef)
variable {Qcy : DataW H -> Nat} {N : Nat}
theorem Qo6{w:World}{p:PV}{v:Value}(h:Qs w Qaw p v):∀(i:Nat)(q:PV),[p][i]? =some q->Qs w Qaw q ([v].getD i undef):=by
 intro i q hq
 match i,hq with
 |0,hq=>simp at hq;subst hq;exact h
 |i+1,hq=>simp at hq
theorem Qgd.mono{t:TypeId}{Q Q':List PV->Prop}(h:Qgd enc P Qcy N t Q)(hQ:∀ps,Q ps->Q' ps):Qgd enc P Qcy N t Q':=
 fun w base spare held fuel cs x hx hn=>let⟨ps,h1,h2,h3⟩:=h w base spare held fuel cs x hx hn;⟨ps,hQ ps h1,h2,h3⟩
theorem Qyc{t:TypeId}{k:IntKind}(ht:P.underlying t=some (.int k)):Qgd enc P Qcy N t fun ps=>∃n,ps=[.int k n]/\(Lit.int k n).wf=true:=by intro w base spare held fuel cs x hx _;obtain⟨n,rfl,rfl,hw⟩:=DataW.trod_int ht hx;exact⟨_,⟨n,rfl,hw⟩,rfl,Qo6 (.int k n)⟩
theorem Q51{t:TypeId}(ht:P.underlying t=some .bool):Qgd enc P Qcy N t fun ps=>∃b,ps=[.bool b]:=by intro w base spare held fuel cs x hx _;obtain⟨b,rfl,rfl⟩:=DataW.trod_bool ht hx;exact⟨_,⟨b,rfl⟩,rfl,Qo6 (.bool b)⟩
theorem Q88{t:TypeId}(ht:P.underlying t=some (.int .u16)):Qgd enc P Qcy N t fun ps=>∃n:Nat,ps=[.int .u16 n]/\n<65536:=by refine(Qyc ht).mono ?_;rintro ps ⟨n,rfl,hw⟩;simp[Lit.wf,IntKind.min,IntKind.max,IntKind.signed,IntKind.bits]at hw;obtain⟨m,rfl⟩:=Int.eq_ofNat_of_zero_le hw.1;exact⟨m,rfl,by omega⟩
theorem Q89{t:TypeId}(ht:P.underlying t=some (.int .i64)):Qgd enc P Qcy N t fun ps=>∃n:Int,ps=[.int .i64 n]/\ -9223372036854775808<=n/\n<=9223372036854775807:=by refine(Qyc ht).mono ?_;rintro ps ⟨n,rfl,hw⟩;simp[Lit.wf,IntKind.min,IntKind.max,IntKind.signed,IntKind.bits]at hw;exact⟨n,rfl,by omega⟩
theorem Qj1{α:Type}[Inhabited α]{f:α->PV}{G:α->Prop}{t e:TypeId}(hB:Bulk Qcy)(ht:P.underlying t=some (.slice e))(hpos:0<P.cellsOf e)
  (he:Qgd enc P Qcy N e fun ps=>∃a:α,ps=(f a).cells/\G a):Qgd enc P Qcy N t fun ps=>∃l:List α,ps=[.sl (P.cellsOf e) (l.map f)]/\l.length<=N/\∀a∈l,G a:=by
 intro w base spare held fuel cs x hx hn;rcases Deep.open_slice ht hx with⟨rfl,rfl⟩|⟨a,len,cap,m,n,D,Pl,rfl,_,hl,hm,hmm,rfl,hall⟩
 ·exact⟨_,⟨[],rfl,Nat.zero_le _,fun _ h=>by cases h⟩,rfl,Qo6 (.slE _ none 0 (Nat.zero_le _))⟩
 have hlm:len<=m:=by rw[hmm];split<;>omega
 obtain⟨A,hA⟩:=Deep.choose_lt (α:=α×List Value) (n:=len) (p:=fun i y=>w.cells? base (a.add (i*P.cellsOf e)) (P.cellsOf e)=some y.2/\G y.1/\(f y.1).cells.length=y.2.length/\∀(j:Nat)(p:PV),(f y.1).cells[j]? =some p->Qs w Qaw p (y.2.getD j undef)) (fun i hi=>by obtain⟨cs',h1,h2⟩:=hall i (by omega);have hd:D i∈(List.range len).map D:=List.mem_map_of_mem (List.mem_range.2 hi);obtain⟨_,⟨b,rfl,hG⟩,h3,h4⟩:=he w base spare held n cs' _ h2 (Nat.le_trans (hB.sl _ _ _ hd) hn);exact⟨(b,cs'),h1,hG,h3,h4⟩);have hlen:=hB.len ((List.range len).map D) ((List.range (m-len)).map fun j=>D (len+j));simp only[List.length_map,List.length_range]at hlen hn;refine⟨_,⟨(List.range len).map fun i=>(A i).1,rfl,by simp;omega,fun b hb=>?_⟩,rfl,Qo6 ?_⟩
 ·obtain⟨i,hi,rfl⟩:=List.mem_map.1 hb;exact(hA i (List.mem_range.1 hi)).2.1
 ·rcases Nat.eq_zero_or_pos len with rfl|hp
  ·exact .slE _ _ _ hm
  have sp:a.spot=none:=by obtain⟨_,h2,h3⟩:=World.cells?_some (hA 0 hp).1;have h4:=h3 0 hpos;rw[List.getElem?_eq_getElem (by omega)]at h4;simpa[Addr.add]using World.cell?_spot h4
  obtain⟨b,off,spot⟩:=a;have sp':spot=none:=sp;subst sp';have hcell:∀i,i<len->∀j,j<P.cellsOf e->w.cell? ⟨b,off+i*P.cellsOf e+j,none⟩=some ((A i).2.getD j undef):=fun i hi j hj=>by obtain⟨_,h2,h3⟩:=World.cells?_some (hA i hi).1;have h4:=h3 j hj;rw[List.getElem?_eq_getElem (by omega),add_plain,add_plain]at h4;rw[h4];simp[List.getD_eq_getElem?_getD,List.getElem?_eq_getElem (show j<(A i).2.length by omega)]
  have e1:((List.range len).map fun i=>(A i).1).map f=(List.range len).map fun i=>f (A i).1:=by simp
  have e2:((List.range len).map fun i=>f (A i).1).length=len:=by simp
  have get:∀(i:Nat)(x:PV),((List.range len).map fun i=>f (A i).1)[i]? =some x->i<len/\x=f (A i).1:=fun i x hx=>by obtain⟨hi,h⟩:=List.getElem?_eq_some_iff.1 hx;rw[e2]at hi;exact⟨hi,by simpa using h.symm⟩
  rw[e1];have:=Qs.sl (w:=w) (X:=Qaw) (P.cellsOf e) ((List.range len).map fun i=>f (A i).1) b off cap (fun i j=>(A i).2.getD j undef) (fun h=>h) (Q4u (hcell 0 hp 0 hpos)) (by rw[e2];exact hl) hm
   (fun i x hx=>by obtain⟨hi,rfl⟩:=get i x hx;rw[(hA i hi).2.2.1];exact(World.cells?_some (hA i hi).1).2.1)
   (fun i hi j hj=>hcell i (by rwa[e2]at hi) j hj)
   (fun i x hx j y hy=>by obtain⟨hi,rfl⟩:=get i x hx;exact(hA i hi).2.2.2 j y hy)
  rwa[e2]at this
theorem Qky{t:TypeId}{f0 f1:Field}{Q0 Q1:List PV->Prop}(hB:Bulk Qcy)(ht:P.underlying t=some (.struct #[f0,f1]))(h0:f0.offset=0)(h1:f1.offset=P.cellsOf f0.type)(hc:P.cellsOf t=P.cellsOf f0.type+P.cellsOf f1.type)
  (r0:Qgd enc P Qcy N f0.type Q0) (r1:Qgd enc P Qcy N f1.type Q1):Qgd enc P Qcy N t fun ps=>∃p q,ps=p++q/\Q0 p/\Q1 q:=by
 intro w base spare held fuel cs x hx hn;obtain⟨y0,y1,n,rfl,hl,g0,g1⟩:=trod_struct2 ht hx;obtain⟨p,hp,hp2,hp3⟩:=r0 _ _ _ _ _ _ _ g0 (Nat.le_trans (hB.ag _ _ (by simp)) hn);obtain⟨q,hq,hq2,hq3⟩:=r1 _ _ _ _ _ _ _ g1 (Nat.le_trans (hB.ag _ _ (by simp)) hn);rw[h0]at hp2 hp3;rw[h1]at hq2 hq3;simp only[List.drop_zero,List.length_take,List.length_drop]at hp2 hq2;have lp:p.length=P.cellsOf f0.type:=by omega
 have lq:q.length=P.cellsOf f1.type:=by omega
 refine⟨_,⟨p,q,rfl,hp,hq⟩,by rw[List.length_append];omega,fun i v hv=>?_⟩;by_cases hi:i<p.length
 ·rw[List.getElem?_append_left hi]at hv;have:=hp3 i v hv;rw[List.drop_zero,List.getD_eq_getElem?_getD,List.getElem?_take,if_pos (by omega)]at this;rw[List.getD_eq_getElem?_getD];exact this
 ·rw[List.getElem?_append_right (by omega)]at hv;have:=hq3 _ v hv;have hi2:i-p.length<q.length:=(List.getElem?_eq_some_iff.1 hv).1;rw[List.getD_eq_getElem?_getD,List.getElem?_take,if_pos (by omega),List.getElem?_drop,show P.cellsOf f0.type+(i-p.length)=i by omega]at this;rw[List.getD_eq_getElem?_getD];exact this
theorem Qahv{r:Reach}{b0:Nat}{t:TypeId}{v:Value}{d:DataW H}{ps:List MemPlace}{Q:List PV->Prop}(hr:Qgd enc P Qcy N t Q)(hd:DataW.Trod enc P w base spare held t v d ps)(hn:Qcy d<=N)
  (hv:v.cells= #[v]):∃p,Q [p]/\Qai w Qaw p v:=by
 obtain⟨fuel,hf⟩:=hd;obtain⟨qs,h1,h2,h3⟩:=hr _ _ _ _ _ _ _ hf hn;rw[hv]at h2 h3
 match qs,h2 with
 | [p],_=>exact⟨p,h1,Qai.of_c (by simpa using h3 0 p rfl)⟩
theorem Qyd{r:Reach}{b0:Nat}{t e:TypeId}{v:Value}{d:DataW H}{ps:List MemPlace}{Q:List PV->Prop}(ht:P.underlying t=some (.slice e))(Qdy:Value.okWide P w r b0 t v)(hr:Qgd enc P Qcy N t Q)(hd:DataW.Trod enc P w base spare held t v d ps)(hn:Qcy d<=N):
  ∃p,Q [p]/\Qai w Qaw p v:=by
 obtain⟨a,len,cap,rfl⟩:=okWide_slice ht Qdy;exact Qahv (r:=r) (b0:=b0) hr hd hn rfl
theorem Ext.sameAt{W W':World}(h:Ext Qaw W W'){p:MemPlace}(hp:p.block<W.heap.size):W.sameAt W' p:=by
 cases p with
 |cell b off=>exact Qfk (h.block b hp (fun h=>h))
 |map b=>exact h.block b hp (fun h=>h)
theorem Ext.keptBut{W W':World}(h:Ext Qaw W W')(may:MemPlace->Prop):W.keptBut W' may:=by
 refine⟨h.os,h.output,fun i hi=>?_⟩;rw[h.block i hi (fun h=>h)];cases hh:W.heap[i]? with
 |none=>rfl
 |some o=>cases o with
  |cells c t fr=>exact⟨rfl,rfl,rfl,fun _ _=>rfl⟩
  |map es clock=>exact Or.inr ⟨rfl,rfl⟩
  |_=>rfl
theorem Ext.frozen{W W':World}(h:Ext Qaw W W'){a:Addr}(ha:a.block<W.heap.size):W'.frozen? a=W.frozen? a:=by unfold World.frozen?;rw[h.block _ ha (fun h=>h)]
theorem Qye(hl:laidOutB P=true)(hm:mapsRowed P=true)(hsz:∀ {t e:TypeId},t<P.types.size->P.underlying t=some (.slice e)->0<P.cellsOf e){W W':World}(hx:Ext Qaw W W')(sp:Nat->Bool):
  ∀ {ts:List TypeId} {vs:List Value} {ds:List (DataW H)} {ps:List MemPlace},(∀t∈ts,t<P.types.size)->DataW.TrodAll enc P W 0 (fun _=>true) true ts vs ds ps->(∀p∈ps,sp p.block=true)->DataW.TrodAll enc P W' 0 sp true ts vs ds ps
 | [],_,_,_,_,h,_=>by obtain⟨rfl,rfl,rfl⟩:=trodAll_nil h;rfl
 |t::ts,_,_,_,hts,h,hs=>by obtain⟨v,vs,d,ds,p,q,rfl,rfl,rfl,⟨fuel,h1⟩,h2⟩:=trodAll_cons h;refine⟨p,q,⟨fuel,?_⟩,Qye hl hm hsz hx sp (fun t ht=>hts t (by simp[ht])) h2 (fun x hx'=>hs x (by simp[hx'])),rfl⟩;exact DataW.trod_stays (kids_rows hl hm) hsz (fun h=>by cases h) (hts t (by simp)) h1 (fun x hx'=>hx.sameAt (DataW.trod_lt _ _ _ _ h1 x hx')) (fun x hx'=>hs x (by simp[hx']))
theorem Q02{f:FuncId}{fn:Func}{s:ChangeSpec}{ap fresh handsOn Qru:Bool}{W:World}{args:Array Value}{ds gs:List (DataW H)}{before:List MemPlace}{pargs:List PV}{tb:TypeId}
  (hW:DataW.Whole enc P fn.params.toList s.vars ap W args.toList ds gs before) (hvars:s.vars=[]) (hres:fn.resultTypes= #[tb]) (htb:P.underlying tb=some .bool)
  (hl:laidOutB P=true) (hm:mapsRowed P=true) (hsz:∀ {t e:TypeId},t<P.types.size->P.underlying t=some (.slice e)->0<P.cellsOf e) (hpar:∀t∈fn.params.toList,t<P.types.size)
  (hfn:s.fn H (ds++gs)={ results:=[.lit (.bool true)],args:=ds })
  (hF:Qd P f pargs (· = .bool true)) (hsize:args.size=pargs.length) (hrep:∀(i:Nat)(x:PV),pargs[i]? =some x->Qai W Qaw x (args.getD i undef)):
  Calls P f args W fun e W'=>∃v,e= .returned v/\s.post enc P fn ap fresh handsOn Qru W args v W':=by
 refine(hF.2 W Qaw args (fun _ h=>h.elim) hsize hrep).mono ?_;rintro e W' ⟨v,r,rfl,hx,hr,rfl⟩;have hv:v= .bool true:=by cases hr;rfl
 subst hv;refine⟨_,rfl,?_⟩;have hW':=hW;obtain⟨p,q,hA,hV,rfl,hz,hn⟩:=hW;rw[hvars]at hV;obtain⟨rfl,rfl⟩:=trodVars_none hV;simp only[List.append_nil]at hW' hz hn;have hlt:∀x∈p,x.block<W.heap.size:=fun x hx'=>by simpa using hW'.lt x hx'
 have hA':∀sp:Nat->Bool,(∀x∈p,sp x.block=true)->DataW.TrodAll enc P W' 0 sp true fn.params.toList args.toList ds p:=fun sp hs=>Qye hl hm hsz hx sp hpar hA hs;have hR:∀(b:Nat)(sp:Nat->Bool)(hd:Bool),DataW.TrodAll enc P W' b sp hd fn.resultTypes.toList ((Value.bool true).resultList fn.resultTypes.size) [.lit (.bool true)] []:=fun b sp hd=>by rw[hres];exact trodAll_mk1 ⟨1,by simp[DataW.trod,Value.cells,htb]⟩
 have hold:∀x∈p,(fun b=>decide (b<W.heap.size)) x.block=true:=fun x hx'=>by simpa using hlt x hx'
 refine⟨ds,[],p,[],p,[],hW',?_,?_,?_,hx.keptBut _,fun _=>⟨?_,?_⟩⟩
 ·rw[hfn];exact hR _ _ _
 ·rw[hfn];simpa using hA' _ hold
 ·rw[hfn,hvars];rfl
 ·exact RowKit.ok_one hres rfl (RowKit.okWide_bool_mk htb _)
 ·refine⟨[.lit (.bool true)]++ds,[],p,⟨[]++p,[],trodAll_append (hA' _ (fun _ _=>rfl)) (hR _ _ _),?_,by simp,?_,?_⟩,?_⟩
  ·rw[hvars];rfl
  ·intro b off hp;rw[hx.frozen (hlt _ hp)];exact hz b off hp
  ·exact hn
  ·intro x hx' _;exact hx'
end
end Go.FW
namespace Go.FW
open Go
attribute [go_sem ↓] vcs ops1
attribute [go_sem] ops2 ops3 opsE opsS Qamd Qach Qaci Qame Qamf Qamg Qamh Qacj Qack Qaqz Qaq0 Q5o Qacl Qahj bld0 bld1 bld2 bld3 Q8y Q5p List.drop_succ_cons List.drop_zero List.take_succ_cons List.take_zero List.headD_cons List.cons_append List.nil_append Q8x gv_t gv_c Qacm Qahk Qahl and_true List.length_cons List.length_nil Qal1 Qal2 Qal3 B0 Qag4 Q76 Qahb Qacd Qace Qacf Qacg Qahc Qalw Qalx Qabx Qahe Qahf Qaqs Qaly Qalz Qal0 Q79 Q0g Qals bs1 bs2 Qalu Qag8 Qag9 Qaha Qalv Nat.add_zero Qqi Q77 Qxu Int.toNat_natCast Nat.zero_add Option.map_some Option.map_none Qaqv Qal9 Qaqy true_and Q8r Qab5 Q8s Qy4 Qb3 Qqo Qor Qahg Bool.and_true Bool.true_and Bool.and_false Bool.false_and decide_true decide_false List.contains_cons List.contains_nil Bool.or_false Bool.false_or Bool.or_true Bool.true_or List.any_cons List.any_nil Bool.false_eq_true SOp.dst Qh7 Qabn Qf7 Qoo Qag1 Bool.not_true Bool.not_false List.length_map List.map_cons List.map_nil Qaqx Option.some.injEq Qgr List.getElem?_cons_zero List.getElem?_cons_succ Option.getD_some
attribute [go_sem] Qamm Qamn Qahs Qaht Qamo Qacr Qaq2 Q2l Qamj Q30
theorem Dz0{p:Prop}(h:p:=by first|omega|rfl|(simp+decide only[go_sem,↓reduceIte]<;>rfl)|fail):p:=h
theorem Dz1{p A0:Prop}(x0:A0)(h:A0->p:=by intro x0;first|omega|rfl|(simp+decide only[go_sem,↓reduceIte,x0]<;>rfl)|fail):p:=h x0
theorem Dz2{p A0 A1:Prop}(x0:A0)(x1:A1)(h:A0->A1->p:=by intro x0 x1;first|omega|rfl|(simp+decide only[go_sem,↓reduceIte,x0,x1]<;>rfl)|fail):p:=h x0 x1
theorem Dz3{p A0 A1 A2:Prop}(x0:A0)(x1:A1)(x2:A2)(h:A0->A1->A2->p:=by intro x0 x1 x2;first|omega|rfl|(simp+decide only[go_sem,↓reduceIte,x0,x1,x2]<;>rfl)|fail):p:=h x0 x1 x2
theorem Dz4{p A0 A1 A2 A3:Prop}(x0:A0)(x1:A1)(x2:A2)(x3:A3)(h:A0->A1->A2->A3->p:=by intro x0 x1 x2 x3;first|omega|rfl|(simp+decide only[go_sem,↓reduceIte,x0,x1,x2,x3]<;>rfl)|fail):p:=h x0 x1 x2 x3
theorem Dz5{p A0 A1 A2 A3 A4:Prop}(x0:A0)(x1:A1)(x2:A2)(x3:A3)(x4:A4)(h:A0->A1->A2->A3->A4->p:=by intro x0 x1 x2 x3 x4;first|omega|rfl|(simp+decide only[go_sem,↓reduceIte,x0,x1,x2,x3,x4]<;>rfl)|fail):p:=h x0 x1 x2 x3 x4
theorem Dz6{p A0 A1 A2 A3 A4 A5:Prop}(x0:A0)(x1:A1)(x2:A2)(x3:A3)(x4:A4)(x5:A5)(h:A0->A1->A2->A3->A4->A5->p:=by intro x0 x1 x2 x3 x4 x5;first|omega|rfl|(simp+decide only[go_sem,↓reduceIte,x0,x1,x2,x3,x4,x5]<;>rfl)|fail):p:=h x0 x1 x2 x3 x4 x5
theorem Dz7{p A0 A1 A2 A3 A4 A5 A6:Prop}(x0:A0)(x1:A1)(x2:A2)(x3:A3)(x4:A4)(x5:A5)(x6:A6)(h:A0->A1->A2->A3->A4->A5->A6->p:=by intro x0 x1 x2 x3 x4 x5 x6;first|omega|rfl|(simp+decide only[go_sem,↓reduceIte,x0,x1,x2,x3,x4,x5,x6]<;>rfl)|fail):p:=h x0 x1 x2 x3 x4 x5 x6
theorem Dz8{p A0 A1 A2 A3 A4 A5 A6 A7:Prop}(x0:A0)(x1:A1)(x2:A2)(x3:A3)(x4:A4)(x5:A5)(x6:A6)(x7:A7)(h:A0->A1->A2->A3->A4->A5->A6->A7->p:=by intro x0 x1 x2 x3 x4 x5 x6 x7;first|omega|rfl|(simp+decide only[go_sem,↓reduceIte,x0,x1,x2,x3,x4,x5,x6,x7]<;>rfl)|fail):p:=h x0 x1 x2 x3 x4 x5 x6 x7
theorem Dz9{p A0 A1 A2 A3 A4 A5 A6 A7 A8:Prop}(x0:A0)(x1:A1)(x2:A2)(x3:A3)(x4:A4)(x5:A5)(x6:A6)(x7:A7)(x8:A8)(h:A0->A1->A2->A3->A4->A5->A6->A7->A8->p:=by intro x0 x1 x2 x3 x4 x5 x6 x7 x8;first|omega|rfl|(simp+decide only[go_sem,↓reduceIte,x0,x1,x2,x3,x4,x5,x6,x7,x8]<;>rfl)|fail):p:=h x0 x1 x2 x3 x4 x5 x6 x7 x8
theorem Dz10{p A0 A1 A2 A3 A4 A5 A6 A7 A8 A9:Prop}(x0:A0)(x1:A1)(x2:A2)(x3:A3)(x4:A4)(x5:A5)(x6:A6)(x7:A7)(x8:A8)(x9:A9)(h:A0->A1->A2->A3->A4->A5->A6->A7->A8->A9->p:=by intro x0 x1 x2 x3 x4 x5 x6 x7 x8 x9;first|omega|rfl|(simp+decide only[go_sem,↓reduceIte,x0,x1,x2,x3,x4,x5,x6,x7,x8,x9]<;>rfl)|fail):p:=h x0 x1 x2 x3 x4 x5 x6 x7 x8 x9
theorem Dz11{p A0 A1 A2 A3 A4 A5 A6 A7 A8 A9 A10:Prop}(x0:A0)(x1:A1)(x2:A2)(x3:A3)(x4:A4)(x5:A5)(x6:A6)(x7:A7)(x8:A8)(x9:A9)(x10:A10)(h:A0->A1->A2->A3->A4->A5->A6->A7->A8->A9->A10->p:=by intro x0 x1 x2 x3 x4 x5 x6 x7 x8 x9 x10;first|omega|rfl|(simp+decide only[go_sem,↓reduceIte,x0,x1,x2,x3,x4,x5,x6,x7,x8,x9,x10]<;>rfl)|fail):p:=h x0 x1 x2 x3 x4 x5 x6 x7 x8 x9 x10
theorem Dz13{p A0 A1 A2 A3 A4 A5 A6 A7 A8 A9 A10 A11 A12:Prop}(x0:A0)(x1:A1)(x2:A2)(x3:A3)(x4:A4)(x5:A5)(x6:A6)(x7:A7)(x8:A8)(x9:A9)(x10:A10)(x11:A11)(x12:A12)(h:A0->A1->A2->A3->A4->A5->A6->A7->A8->A9->A10->A11->A12->p:=by intro x0 x1 x2 x3 x4 x5 x6 x7 x8 x9 x10 x11 x12;first|omega|rfl|(simp+decide only[go_sem,↓reduceIte,x0,x1,x2,x3,x4,x5,x6,x7,x8,x9,x10,x11,x12]<;>rfl)|fail):p:=h x0 x1 x2 x3 x4 x5 x6 x7 x8 x9 x10 x11 x12
theorem Dz14{p A0 A1 A2 A3 A4 A5 A6 A7 A8 A9 A10 A11 A12 A13:Prop}(x0:A0)(x1:A1)(x2:A2)(x3:A3)(x4:A4)(x5:A5)(x6:A6)(x7:A7)(x8:A8)(x9:A9)(x10:A10)(x11:A11)(x12:A12)(x13:A13)(h:A0->A1->A2->A3->A4->A5->A6->A7->A8->A9->A10->A11->A12->A13->p:=by intro x0 x1 x2 x3 x4 x5 x6 x7 x8 x9 x10 x11 x12 x13;first|omega|rfl|(simp+decide only[go_sem,↓reduceIte,x0,x1,x2,x3,x4,x5,x6,x7,x8,x9,x10,x11,x12,x13]<;>rfl)|fail):p:=h x0 x1 x2 x3 x4 x5 x6 x7 x8 x9 x10 x11 x12 x13
theorem Sz0{p q:Prop}(h:q)(e:p=q:=by conv=>lhs;simp+decide (disch:=try exact Dz0) only[go_sem,↓reduceIte]):p:=e▸h
theorem Tz0{p:Prop}(h:p:=by simp+decide (disch:=try exact Dz0) only[go_sem,↓reduceIte]):p:=h
theorem Qcv{p:Prop}(h:p:=by simp+decide (disch:=try exact Dz0) only[go_sem,↓reduceIte]<;>rfl):p:=h
theorem Sz1{p q A0:Prop}(x0:A0)(h:q)(e:A0->p=q:=by intro x0;conv=>lhs;simp+decide (disch:=try exact Dz1 @x0) only[go_sem,↓reduceIte,x0]):p:=(e x0)▸h
theorem Tz1{p A0:Prop}(x0:A0)(h:A0->p:=by intro x0;simp+decide (disch:=try exact Dz1 @x0) only[go_sem,↓reduceIte,x0]):p:=h x0
theorem Sz2{p q A0 A1:Prop}(x0:A0)(x1:A1)(h:q)(e:A0->A1->p=q:=by intro x0 x1;conv=>lhs;simp+decide (disch:=try exact Dz2 @x0 @x1) only[go_sem,↓reduceIte,x0,x1]):p:=(e x0 x1)▸h
theorem Tz2{p A0 A1:Prop}(x0:A0)(x1:A1)(h:A0->A1->p:=by intro x0 x1;simp+decide (disch:=try exact Dz2 @x0 @x1) only[go_sem,↓reduceIte,x0,x1]):p:=h x0 x1
theorem Sz3{p q A0 A1 A2:Prop}(x0:A0)(x1:A1)(x2:A2)(h:q)(e:A0->A1->A2->p=q:=by intro x0 x1 x2;conv=>lhs;simp+decide (disch:=try exact Dz3 @x0 @x1 @x2) only[go_sem,↓reduceIte,x0,x1,x2]):p:=(e x0 x1 x2)▸h
theorem Tz3{p A0 A1 A2:Prop}(x0:A0)(x1:A1)(x2:A2)(h:A0->A1->A2->p:=by intro x0 x1 x2;simp+decide (disch:=try exact Dz3 @x0 @x1 @x2) only[go_sem,↓reduceIte,x0,x1,x2]):p:=h x0 x1 x2
theorem Sz4{p q A0 A1 A2 A3:Prop}(x0:A0)(x1:A1)(x2:A2)(x3:A3)(h:q)(e:A0->A1->A2->A3->p=q:=by intro x0 x1 x2 x3;conv=>lhs;simp+decide (disch:=try exact Dz4 @x0 @x1 @x2 @x3) only[go_sem,↓reduceIte,x0,x1,x2,x3]):p:=(e x0 x1 x2 x3)▸h
theorem Tz4{p A0 A1 A2 A3:Prop}(x0:A0)(x1:A1)(x2:A2)(x3:A3)(h:A0->A1->A2->A3->p:=by intro x0 x1 x2 x3;simp+decide (disch:=try exact Dz4 @x0 @x1 @x2 @x3) only[go_sem,↓reduceIte,x0,x1,x2,x3]):p:=h x0 x1 x2 x3
theorem Sz5{p q A0 A1 A2 A3 A4:Prop}(x0:A0)(x1:A1)(x2:A2)(x3:A3)(x4:A4)(h:q)(e:A0->A1->A2->A3->A4->p=q:=by intro x0 x1 x2 x3 x4;conv=>lhs;simp+decide (disch:=try exact Dz5 @x0 @x1 @x2 @x3 @x4) only[go_sem,↓reduceIte,x0,x1,x2,x3,x4]):p:=(e x0 x1 x2 x3 x4)▸h
theorem Tz5{p A0 A1 A2 A3 A4:Prop}(x0:A0)(x1:A1)(x2:A2)(x3:A3)(x4:A4)(h:A0->A1->A2->A3->A4->p:=by intro x0 x1 x2 x3 x4;simp+decide (disch:=try exact Dz5 @x0 @x1 @x2 @x3 @x4) only[go_sem,↓reduceIte,x0,x1,x2,x3,x4]):p:=h x0 x1 x2 x3 x4
theorem Sz6{p q A0 A1 A2 A3 A4 A5:Prop}(x0:A0)(x1:A1)(x2:A2)(x3:A3)(x4:A4)(x5:A5)(h:q)(e:A0->A1->A2->A3->A4->A5->p=q:=by intro x0 x1 x2 x3 x4 x5;conv=>lhs;simp+decide (disch:=try exact Dz6 @x0 @x1 @x2 @x3 @x4 @x5) only[go_sem,↓reduceIte,x0,x1,x2,x3,x4,x5]):p:=(e x0 x1 x2 x3 x4 x5)▸h
theorem Sz7{p q A0 A1 A2 A3 A4 A5 A6:Prop}(x0:A0)(x1:A1)(x2:A2)(x3:A3)(x4:A4)(x5:A5)(x6:A6)(h:q)(e:A0->A1->A2->A3->A4->A5->A6->p=q:=by intro x0 x1 x2 x3 x4 x5 x6;conv=>lhs;simp+decide (disch:=try exact Dz7 @x0 @x1 @x2 @x3 @x4 @x5 @x6) only[go_sem,↓reduceIte,x0,x1,x2,x3,x4,x5,x6]):p:=(e x0 x1 x2 x3 x4 x5 x6)▸h
theorem Sz8{p q A0 A1 A2 A3 A4 A5 A6 A7:Prop}(x0:A0)(x1:A1)(x2:A2)(x3:A3)(x4:A4)(x5:A5)(x6:A6)(x7:A7)(h:q)(e:A0->A1->A2->A3->A4->A5->A6->A7->p=q:=by intro x0 x1 x2 x3 x4 x5 x6 x7;conv=>lhs;simp+decide (disch:=try exact Dz8 @x0 @x1 @x2 @x3 @x4 @x5 @x6 @x7) only[go_sem,↓reduceIte,x0,x1,x2,x3,x4,x5,x6,x7]):p:=(e x0 x1 x2 x3 x4 x5 x6 x7)▸h
theorem Sz9{p q A0 A1 A2 A3 A4 A5 A6 A7 A8:Prop}(x0:A0)(x1:A1)(x2:A2)(x3:A3)(x4:A4)(x5:A5)(x6:A6)(x7:A7)(x8:A8)(h:q)(e:A0->A1->A2->A3->A4->A5->A6->A7->A8->p=q:=by intro x0 x1 x2 x3 x4 x5 x6 x7 x8;conv=>lhs;simp+decide (disch:=try exact Dz9 @x0 @x1 @x2 @x3 @x4 @x5 @x6 @x7 @x8) only[go_sem,↓reduceIte,x0,x1,x2,x3,x4,x5,x6,x7,x8]):p:=(e x0 x1 x2 x3 x4 x5 x6 x7 x8)▸h
theorem Qkz{p q A0 A1 A2 A3 A4 A5 A6 A7 A8 A9:Prop}(x0:A0)(x1:A1)(x2:A2)(x3:A3)(x4:A4)(x5:A5)(x6:A6)(x7:A7)(x8:A8)(x9:A9)(h:q)(e:A0->A1->A2->A3->A4->A5->A6->A7->A8->A9->p=q:=by intro x0 x1 x2 x3 x4 x5 x6 x7 x8 x9;conv=>lhs;simp+decide (disch:=try exact Dz10 @x0 @x1 @x2 @x3 @x4 @x5 @x6 @x7 @x8 @x9) only[go_sem,↓reduceIte,x0,x1,x2,x3,x4,x5,x6,x7,x8,x9]):p:=(e x0 x1 x2 x3 x4 x5 x6 x7 x8 x9)▸h
theorem Tz10{p A0 A1 A2 A3 A4 A5 A6 A7 A8 A9:Prop}(x0:A0)(x1:A1)(x2:A2)(x3:A3)(x4:A4)(x5:A5)(x6:A6)(x7:A7)(x8:A8)(x9:A9)(h:A0->A1->A2->A3->A4->A5->A6->A7->A8->A9->p:=by intro x0 x1 x2 x3 x4 x5 x6 x7 x8 x9;simp+decide (disch:=try exact Dz10 @x0 @x1 @x2 @x3 @x4 @x5 @x6 @x7 @x8 @x9) only[go_sem,↓reduceIte,x0,x1,x2,x3,x4,x5,x6,x7,x8,x9]):p:=h x0 x1 x2 x3 x4 x5 x6 x7 x8 x9
theorem Sz11{p q A0 A1 A2 A3 A4 A5 A6 A7 A8 A9 A10:Prop}(x0:A0)(x1:A1)(x2:A2)(x3:A3)(x4:A4)(x5:A5)(x6:A6)(x7:A7)(x8:A8)(x9:A9)(x10:A10)(h:q)(e:A0->A1->A2->A3->A4->A5->A6->A7->A8->A9->A10->p=q:=by intro x0 x1 x2 x3 x4 x5 x6 x7 x8 x9 x10;conv=>lhs;simp+decide (disch:=try exact Dz11 @x0 @x1 @x2 @x3 @x4 @x5 @x6 @x7 @x8 @x9 @x10) only[go_sem,↓reduceIte,x0,x1,x2,x3,x4,x5,x6,x7,x8,x9,x10]):p:=(e x0 x1 x2 x3 x4 x5 x6 x7 x8 x9 x10)▸h
theorem Tz11{p A0 A1 A2 A3 A4 A5 A6 A7 A8 A9 A10:Prop}(x0:A0)(x1:A1)(x2:A2)(x3:A3)(x4:A4)(x5:A5)(x6:A6)(x7:A7)(x8:A8)(x9:A9)(x10:A10)(h:A0->A1->A2->A3->A4->A5->A6->A7->A8->A9->A10->p:=by intro x0 x1 x2 x3 x4 x5 x6 x7 x8 x9 x10;simp+decide (disch:=try exact Dz11 @x0 @x1 @x2 @x3 @x4 @x5 @x6 @x7 @x8 @x9 @x10) only[go_sem,↓reduceIte,x0,x1,x2,x3,x4,x5,x6,x7,x8,x9,x10]):p:=h x0 x1 x2 x3 x4 x5 x6 x7 x8 x9 x10
theorem Sz13{p q A0 A1 A2 A3 A4 A5 A6 A7 A8 A9 A10 A11 A12:Prop}(x0:A0)(x1:A1)(x2:A2)(x3:A3)(x4:A4)(x5:A5)(x6:A6)(x7:A7)(x8:A8)(x9:A9)(x10:A10)(x11:A11)(x12:A12)(h:q)(e:A0->A1->A2->A3->A4->A5->A6->A7->A8->A9->A10->A11->A12->p=q:=by intro x0 x1 x2 x3 x4 x5 x6 x7 x8 x9 x10 x11 x12;conv=>lhs;simp+decide (disch:=try exact Dz13 @x0 @x1 @x2 @x3 @x4 @x5 @x6 @x7 @x8 @x9 @x10 @x11 @x12) only[go_sem,↓reduceIte,x0,x1,x2,x3,x4,x5,x6,x7,x8,x9,x10,x11,x12]):p:=(e x0 x1 x2 x3 x4 x5 x6 x7 x8 x9 x10 x11 x12)▸h
theorem Tz13{p A0 A1 A2 A3 A4 A5 A6 A7 A8 A9 A10 A11 A12:Prop}(x0:A0)(x1:A1)(x2:A2)(x3:A3)(x4:A4)(x5:A5)(x6:A6)(x7:A7)(x8:A8)(x9:A9)(x10:A10)(x11:A11)(x12:A12)(h:A0->A1->A2->A3->A4->A5->A6->A7->A8->A9->A10->A11->A12->p:=by intro x0 x1 x2 x3 x4 x5 x6 x7 x8 x9 x10 x11 x12;simp+decide (disch:=try exact Dz13 @x0 @x1 @x2 @x3 @x4 @x5 @x6 @x7 @x8 @x9 @x10 @x11 @x12) only[go_sem,↓reduceIte,x0,x1,x2,x3,x4,x5,x6,x7,x8,x9,x10,x11,x12]):p:=h x0 x1 x2 x3 x4 x5 x6 x7 x8 x9 x10 x11 x12
theorem Sz14{p q A0 A1 A2 A3 A4 A5 A6 A7 A8 A9 A10 A11 A12 A13:Prop}(x0:A0)(x1:A1)(x2:A2)(x3:A3)(x4:A4)(x5:A5)(x6:A6)(x7:A7)(x8:A8)(x9:A9)(x10:A10)(x11:A11)(x12:A12)(x13:A13)(h:q)(e:A0->A1->A2->A3->A4->A5->A6->A7->A8->A9->A10->A11->A12->A13->p=q:=by intro x0 x1 x2 x3 x4 x5 x6 x7 x8 x9 x10 x11 x12 x13;conv=>lhs;simp+decide (disch:=try exact Dz14 @x0 @x1 @x2 @x3 @x4 @x5 @x6 @x7 @x8 @x9 @x10 @x11 @x12 @x13) only[go_sem,↓reduceIte,x0,x1,x2,x3,x4,x5,x6,x7,x8,x9,x10,x11,x12,x13]):p:=(e x0 x1 x2 x3 x4 x5 x6 x7 x8 x9 x10 x11 x12 x13)▸h
theorem Ez0{p:Prop}(h:p:=by first|omega|rfl|(simp+decide only[go_sem,↓reduceIte,Qa6,List.contains_cons,List.contains_nil,List.flatMap_cons,List.flatMap_nil,List.append_nil]<;>rfl)|fail):p:=h
theorem Ez1{p A0:Prop}(x0:A0)(h:A0->p:=by intro x0;first|omega|rfl|(simp+decide only[go_sem,↓reduceIte,Qa6,List.contains_cons,List.contains_nil,List.flatMap_cons,List.flatMap_nil,List.append_nil,x0]<;>rfl)|fail):p:=h x0
theorem Ez2{p A0 A1:Prop}(x0:A0)(x1:A1)(h:A0->A1->p:=by intro x0 x1;first|omega|rfl|(simp+decide only[go_sem,↓reduceIte,Qa6,List.contains_cons,List.contains_nil,List.flatMap_cons,List.flatMap_nil,List.append_nil,x0,x1]<;>rfl)|fail):p:=h x0 x1
theorem Ez3{p A0 A1 A2:Prop}(x0:A0)(x1:A1)(x2:A2)(h:A0->A1->A2->p:=by intro x0 x1 x2;first|omega|rfl|(simp+decide only[go_sem,↓reduceIte,Qa6,List.contains_cons,List.contains_nil,List.flatMap_cons,List.flatMap_nil,List.append_nil,x0,x1,x2]<;>rfl)|fail):p:=h x0 x1 x2
theorem Ez4{p A0 A1 A2 A3:Prop}(x0:A0)(x1:A1)(x2:A2)(x3:A3)(h:A0->A1->A2->A3->p:=by intro x0 x1 x2 x3;first|omega|rfl|(simp+decide only[go_sem,↓reduceIte,Qa6,List.contains_cons,List.contains_nil,List.flatMap_cons,List.flatMap_nil,List.append_nil,x0,x1,x2,x3]<;>rfl)|fail):p:=h x0 x1 x2 x3
theorem Ez5{p A0 A1 A2 A3 A4:Prop}(x0:A0)(x1:A1)(x2:A2)(x3:A3)(x4:A4)(h:A0->A1->A2->A3->A4->p:=by intro x0 x1 x2 x3 x4;first|omega|rfl|(simp+decide only[go_sem,↓reduceIte,Qa6,List.contains_cons,List.contains_nil,List.flatMap_cons,List.flatMap_nil,List.append_nil,x0,x1,x2,x3,x4]<;>rfl)|fail):p:=h x0 x1 x2 x3 x4
theorem Vz0{p q:Prop}(h:q)(e:p=q:=by conv=>lhs;simp+decide (disch:=try exact Ez0) only[go_sem,↓reduceIte,Qa6,List.contains_cons,List.contains_nil,List.flatMap_cons,List.flatMap_nil,List.append_nil]):p:=e▸h
theorem Uz0{p:Prop}(h:p:=by simp+decide (disch:=try exact Ez0) only[go_sem,↓reduceIte,Qa6,List.contains_cons,List.contains_nil,List.flatMap_cons,List.flatMap_nil,List.append_nil]):p:=h
theorem Qw0{p:Prop}(h:p:=by simp+decide (disch:=try exact Ez0) only[go_sem,↓reduceIte,Qa6,List.contains_cons,List.contains_nil,List.flatMap_cons,List.flatMap_nil,List.append_nil]<;>rfl):p:=h
theorem Vz1{p q A0:Prop}(x0:A0)(h:q)(e:A0->p=q:=by intro x0;conv=>lhs;simp+decide (disch:=try exact Ez1 @x0) only[go_sem,↓reduceIte,Qa6,List.contains_cons,List.contains_nil,List.flatMap_cons,List.flatMap_nil,List.append_nil,x0]):p:=(e x0)▸h
theorem Uz1{p A0:Prop}(x0:A0)(h:A0->p:=by intro x0;simp+decide (disch:=try exact Ez1 @x0) only[go_sem,↓reduceIte,Qa6,List.contains_cons,List.contains_nil,List.flatMap_cons,List.flatMap_nil,List.append_nil,x0]):p:=h x0
theorem Vz2{p q A0 A1:Prop}(x0:A0)(x1:A1)(h:q)(e:A0->A1->p=q:=by intro x0 x1;conv=>lhs;simp+decide (disch:=try exact Ez2 @x0 @x1) only[go_sem,↓reduceIte,Qa6,List.contains_cons,List.contains_nil,List.flatMap_cons,List.flatMap_nil,List.append_nil,x0,x1]):p:=(e x0 x1)▸h
theorem Vz3{p q A0 A1 A2:Prop}(x0:A0)(x1:A1)(x2:A2)(h:q)(e:A0->A1->A2->p=q:=by intro x0 x1 x2;conv=>lhs;simp+decide (disch:=try exact Ez3 @x0 @x1 @x2) only[go_sem,↓reduceIte,Qa6,List.contains_cons,List.contains_nil,List.flatMap_cons,List.flatMap_nil,List.append_nil,x0,x1,x2]):p:=(e x0 x1 x2)▸h
theorem Vz4{p q A0 A1 A2 A3:Prop}(x0:A0)(x1:A1)(x2:A2)(x3:A3)(h:q)(e:A0->A1->A2->A3->p=q:=by intro x0 x1 x2 x3;conv=>lhs;simp+decide (disch:=try exact Ez4 @x0 @x1 @x2 @x3) only[go_sem,↓reduceIte,Qa6,List.contains_cons,List.contains_nil,List.flatMap_cons,List.flatMap_nil,List.append_nil,x0,x1,x2,x3]):p:=(e x0 x1 x2 x3)▸h
theorem Vz5{p q A0 A1 A2 A3 A4:Prop}(x0:A0)(x1:A1)(x2:A2)(x3:A3)(x4:A4)(h:q)(e:A0->A1->A2->A3->A4->p=q:=by intro x0 x1 x2 x3 x4;conv=>lhs;simp+decide (disch:=try exact Ez5 @x0 @x1 @x2 @x3 @x4) only[go_sem,↓reduceIte,Qa6,List.contains_cons,List.contains_nil,List.flatMap_cons,List.flatMap_nil,List.append_nil,x0,x1,x2,x3,x4]):p:=(e x0 x1 x2 x3 x4)▸h
variable {C : Ctx} {fr : Fr} {hp : HP} {R : Qg}
theorem Qacy{sk:List It}{x:SC}(s:Nat)(hd:(Qaa hp (fr s)).isData=true)(h:vc C R (.c (.loop x)::sk) (upd fr s (Qaa hp (fr s))) (FW.Qaj hp (fr s).refs)):vc C R (.c (.loop x)::sk) fr hp:=by rw[Qf6]at h⊢;obtain⟨I,μ,⟨fr0,hp0,h1,h1'⟩,h2⟩:=h;exact⟨I,μ,⟨fr0,hp0,(Q31 s hd).trans h1,h1'⟩,h2⟩
end Go.FW
namespace Go.FW
open Go
variable {C : Ctx} {ρ : Nat -> Option Nat} {fr fr' : Fr} {hp : HP} {w : World} {K R : Qg}
theorem Qbo.known{p:PV}{v:Value}(h:Qbo C ρ hp w p v):∀γ∈p.sref1,hp γ≠none:=by
 intro γ hγ;cases p with
 |mso β o n=>simp[PV.sref1]at hγ;subst hγ;obtain⟨_,hb,h1,_⟩:=h;simp[h1]
 |nso β o n=>simp[PV.sref1]at hγ;subst hγ;obtain⟨_,hb,b,cap,h1,_⟩:=h;simp[h1]
 |np β o n=>cases h
 |_=>cases hγ
theorem Qbp.known{p:PV}{v:Value}(h:Qbp C ρ hp w p v):(∀γ∈p.ref1,hp γ≠none)/\∀γ∈p.nref1,hp γ≠none:=by
 cases p with
 |mp β i o=>obtain⟨b,hb,h1,h2,_⟩:=h;simp[PV.ref1,PV.nref1,h2]
 |mso β o n=>obtain⟨hb,h1,_⟩:=h;simp[PV.ref1,PV.nref1,h1]
 |rb β o n=>obtain⟨b,u,_,_,_,_,hb,h1,_⟩:=h;simp[PV.ref1,PV.nref1,h1]
 |np γ i o=>obtain⟨_,b,hb,h1,h2,_⟩:=h;simp[PV.ref1,PV.nref1,h2]
 |nso γ o n=>obtain⟨_,hb,b,cap,h1,_⟩:=h;simp[PV.ref1,PV.nref1,h1]
 |_=>exact⟨(fun γ hγ=>by cases hγ),(fun γ hγ=>by cases hγ)⟩
theorem Qr.known{p:PV}{v:Value}(h:Qr C ρ hp w p v):(∀γ∈p.refs,hp γ≠none)/\∀γ∈p.sref,hp γ≠none:=by
 cases p with
 |mp β i o=>obtain⟨b,hb,h1,h2,_⟩:=h;simp[PV.refs,PV.sref,h2]
 |mso β o n=>obtain⟨hb,h1,_⟩:=h;simp[PV.refs,PV.sref,h1]
 |rb β o n=>obtain⟨b,u,_,_,_,_,hb,h1,_⟩:=h;simp[PV.refs,PV.sref,h1]
 |np γ i o=>obtain⟨_,b,hb,h1,h2,_⟩:=h;simp[PV.refs,PV.sref,h2]
 |nso γ o n=>obtain⟨_,hb,b,cap,h1,_⟩:=h;simp[PV.refs,PV.sref,h1]
 |rag cs=>obtain⟨vs,_,_,h2⟩:=h;refine⟨fun γ hγ=>(by cases hγ),fun γ hγ=>?_⟩;obtain⟨x,hx,hγ⟩:=List.mem_flatMap.1 hγ;obtain⟨i,hi⟩:=List.getElem?_of_mem hx;exact(h2 i x hi).known γ hγ
 |rtp cs=>obtain⟨vs,_,_,h2⟩:=h;refine⟨fun γ hγ=>(by cases hγ),fun γ hγ=>?_⟩;obtain⟨x,hx,hγ⟩:=List.mem_flatMap.1 hγ;obtain⟨i,hi⟩:=List.getElem?_of_mem hx;exact(h2 i x hi).known γ hγ
 |rtq cs q=>obtain⟨vs,u,_,_,h2,_⟩:=h;refine⟨fun γ hγ=>(by cases hγ),fun γ hγ=>?_⟩;obtain⟨x,hx,hγ⟩:=List.mem_flatMap.1 hγ;obtain⟨i,hi⟩:=List.getElem?_of_mem hx;exact(h2 i x hi).known γ hγ
 | nst β e ty xs=>
  obtain⟨_,_,b,hb,cur,cap,_,g2,_,_,_,_,_,_,_,_,h11⟩:=h;refine⟨fun γ hγ=>(by cases hγ),fun γ hγ=>?_⟩;rcases List.mem_cons.1 hγ with rfl|hγ
  ·simp[g2]
  ·obtain⟨x,hx,hγ⟩:=List.mem_flatMap.1 hγ;obtain⟨y,hy,hγ⟩:=List.mem_flatMap.1 hγ;obtain⟨i,hi⟩:=List.getElem?_of_mem hx;obtain⟨j,hj⟩:=List.getElem?_of_mem hy;exact(h11 i x hi j y hj).known γ hγ
 | fn f first cap=>
  obtain⟨fv,cv,_,_,_,h3,h4⟩:=h;have g:∀(l:List PV)(u:Array Value),(∀(i:Nat)(x:PV),l[i]? =some x->Qbp C ρ hp w x (u.getD i undef))->(∀γ∈l.flatMap PV.ref1,hp γ≠none)/\∀γ∈l.flatMap PV.nref1,hp γ≠none:=by
   intro l u hl;refine⟨fun γ hγ=>?_,fun γ hγ=>?_⟩<;>
   ·obtain⟨x,hx,hγ⟩:=List.mem_flatMap.1 hγ;obtain⟨i,hi⟩:=List.getElem?_of_mem hx
    first|exact(hl i x hi).known.1 γ hγ|exact(hl i x hi).known.2 γ hγ
  refine⟨fun γ hγ=>?_,fun γ hγ=>?_⟩
  ·rcases List.mem_append.1 hγ with hγ|hγ
   ·exact(g first fv h3).1 γ hγ
   ·exact(g cap cv h4).1 γ hγ
  ·rcases List.mem_append.1 hγ with hγ|hγ
   ·exact(g first fv h3).2 γ hγ
   ·exact(g cap cv h4).2 γ hγ
 |_=>exact⟨(fun γ hγ=>by cases hγ),(fun γ hγ=>by cases hγ)⟩
def isN(β:Nat):Bool:=decide (2000000<=β)
def isS(β:Nat):Bool:=isN β||decide (β<1000000)
theorem Qaq5{β:Nat}(h:isS β=false):isN β=false:=by simp[isS]at h;exact h.1
def Qfa:PV->PV
 |.nst _ _ _ _| .rag _| .rtp _| .rtq _ _=>.undef
 |p=>if p.refs.any isN||p.sref.any isS then .undef else p
def Qdz(F:Fr):Fr:=fun s=>Qfa (F s)
def Cln(p:PV):Prop:=(∀β∈p.refs,isN β=false)/\(∀β∈p.sref,isS β=false)/\(∀γ e ty xs,p≠ .nst γ e ty xs)/\∀cs,p≠ .rag cs/\p≠ .rtp cs/\∀q,p≠ .rtq cs q
theorem Qacz(p:PV):Cln (Qfa p):=by
 have h0:Cln .undef:=⟨(fun β h=>by cases h),(fun β h=>by cases h),(fun _ _ _ _ h=>by cases h),(fun _=>⟨(fun h=>by cases h),(fun h=>by cases h),fun _ h=>by cases h⟩)⟩
 unfold Qfa;split
 ·exact h0
 ·exact h0
 ·exact h0
 ·exact h0
 ·rename_i hn hn2 hn3 hn4;split
  ·exact h0
  ·rename_i h;simp only[Bool.or_eq_true,not_or,Bool.not_eq_true,List.any_eq_false]at h;exact⟨fun β hβ=>by simpa using h.1 β hβ,fun β hβ=>by simpa using h.2 β hβ,fun γ e ty xs=>hn γ e ty xs,fun cs=>⟨hn2 cs,hn3 cs,hn4 cs⟩⟩
theorem Cln.kill{p:PV}(h:Cln p){B:List Nat}:Cln (if p.refs.any B.contains then .undef else p):=by
 split
 ·exact⟨(fun β h=>by cases h),(fun β h=>by cases h),(fun _ _ _ _ h=>by cases h),(fun _=>⟨(fun h=>by cases h),(fun h=>by cases h),fun _ h=>by cases h⟩)⟩
 ·exact h
theorem Qyf{β:Nat}{p:PV}(h:∀γ∈p.refs,γ≠β):Qaq β p=p:=by unfold Qaq;rw[if_neg];intro hc;exact h β (by simpa using hc) rfl
theorem Qqt{β:Nat}{p:PV}(h:∀γ∈p.sref1,γ≠β):Qds β p=p:=by
 cases p with
 |mso γ o n=>simp only[Qds];rw[if_neg (h γ (by simp[PV.sref1]))]
 |nso γ o n=>simp only[Qds];rw[if_neg (h γ (by simp[PV.sref1]))]
 |_=>rfl
theorem Q9a{β:Nat}{p:PV}(h:∀γ∈p.refs,γ≠β)(h2:∀γ∈p.sref,γ≠β)(h3:∀γ e ty xs,p≠ .nst γ e ty xs):Qbb β p=p:=by
 cases p with
 |nst γ e ty xs=>exact absurd rfl (h3 _ _ _ _)
 |rag cs=>
  simp only[Qbb];congr 1;conv=>rhs;rw[<-List.map_id cs]
  exact List.map_congr_left fun x hx=>Qqt fun γ hγ=>h2 γ (List.mem_flatMap.2 ⟨x,hx,hγ⟩)
 |rtp cs=>
  simp only[Qbb];congr 1;conv=>rhs;rw[<-List.map_id cs]
  exact List.map_congr_left fun x hx=>Qqt fun γ hγ=>h2 γ (List.mem_flatMap.2 ⟨x,hx,hγ⟩)
 |rtq cs q=>
  simp only[Qbb];congr 1;conv=>rhs;rw[<-List.map_id cs]
  exact List.map_congr_left fun x hx=>Qqt fun γ hγ=>h2 γ (List.mem_flatMap.2 ⟨x,hx,hγ⟩)
 |nso γ o n=>simp only[Qbb];rw[if_neg (h2 γ (by simp[PV.sref]))]
 |np γ i o=>simp only[Qbb];rw[if_neg (h2 γ (by simp[PV.sref]))]
 |fn f first cap=>simp only[Qbb];rw[if_neg,Qyf h];intro hc;exact h2 β (by simpa[PV.sref]using hc) rfl
 |_=>exact Qyf h
theorem Q9b{β γ:Nat}(h:2000000<=β)(h2:isN γ=false):γ≠β:=by simp[isN]at h2;omega
abbrev bse(B:List Nat)(F:Fr):Fr:=Qah B (Qdz F)
theorem Qlo(B:List Nat)(F:Fr)(s:Nat):Cln (bse B F s):=(Qacz (F s)).kill
theorem Qyg{β:Nat}{B:List Nat}{F:Fr}(h:2000000<=β):Qc1 β (bse B F)=bse B F:=by funext s;have hc:=Qlo B F s;exact Q9a (fun γ hγ=>Q9b h (hc.1 γ hγ)) (fun γ hγ=>Q9b h (Qaq5 (hc.2.1 γ hγ))) hc.2.2.1
theorem Qyh{γ:Nat}{B:List Nat}{F:Fr}:Qd0 γ (bse B F)=bse B F:=by
 funext s;have hc:=Qlo B F s;show Qeb γ (bse B F s)=_;generalize bse B F s=p at *
 cases p with
 |nst γ' e ty xs=>exact absurd rfl (hc.2.2.1 _ _ _ _)
 |_=>rfl
theorem Q9c{W:List (Nat×Nat)}{β:Nat}{J F:Fr}:Qc1 β (ovr W J F)=ovr W (Qc1 β J) (Qc1 β F):=by funext s;unfold Qc1 ovr;split<;>rfl
theorem Q9d{W:List (Nat×Nat)}{β:Nat}{J F:Fr}:Qd0 β (ovr W J F)=ovr W (Qd0 β J) (Qd0 β F):=by funext s;unfold Qd0 ovr;split<;>rfl
theorem Q9e{β d:Nat}{F:Fr}{v:PV}:Qc1 β (upd F d v)=upd (Qc1 β F) d (Qbb β v):=by funext s;unfold Qc1 upd;split<;>rfl
theorem Q9f{β d:Nat}{F:Fr}{v:PV}:Qd0 β (upd F d v)=upd (Qd0 β F) d (Qeb β v):=by funext s;unfold Qd0 upd;split<;>rfl
theorem Qac0{β:Nat}{F:Fr}{s:Nat}:Qc1 β F s=Qbb β (F s):=rfl
theorem Qac1{β:Nat}{F:Fr}{s:Nat}:Qd0 β F s=Qeb β (F s):=rfl
theorem Q33(W:List (Nat×Nat))(B:List Nat):Fle fr (ovr W fr (bse B fr)):=fun s=>by
 unfold ovr bse Qah;split
 ·exact .inl rfl
 ·split
  ·exact .inr rfl
  ·unfold Qdz Qfa;split
   ·exact .inr rfl
   ·exact .inr rfl
   ·exact .inr rfl
   ·exact .inr rfl
   ·split
    ·exact .inr rfl
    ·exact .inl rfl
theorem Qo7{sk:List It}{x:SC}(hok:Qd6 R sk)(W:List (Nat×Nat))(B:List Nat)(I:Nat->Fr->HP->Prop)(m0:Nat)(h0:I m0 fr hp)
  (h:∀m J hp,I m J hp->vc C R (.c x:: .el (Qo2 W (bse B fr) I m)::sk) (ovr W J (bse B fr)) hp):vc C R (.c (.loop x)::sk) fr hp:=by
 refine Qkc (fun m fr' hp'=>∃J,fr'=ovr W J (bse B fr)/\I m J hp') m0 (Q33 W B).wk ⟨fr,rfl,h0⟩ ?_;rintro m _ hp' ⟨J,rfl,hI⟩;refine Qiz hok.1 _ _ _ _ _ _ (Nat.le_refl _) (.c x (.el ?_ hok.2)) (Fle.refl _) (h m J hp' hI);rintro f f' hp2 hf ⟨J2,hp3,m2,e2,hl,h2⟩;exact Qtc hl (hf.wk.trans e2) ⟨J2,rfl,h2⟩
def Qe7(l:List (Nat×Nat)):List PV:=l.map fun x=>.mso x.1 0 x.2
def Qaq6(d:Nat)(S:List Nat)(γ n:Nat)(x:PV)(fr:Fr):Fr:=fun s=>if s=γ then x else if S.contains s then .nso γ 0 n else Qaq d (fr s)
def hpN(d γ B n e ty e' ty':Nat)(hp:HP):HP:=fun β=>if β=d then none else if β=γ then some ⟨e,ty,[],false⟩else if B<=β/\β<B+n then some ⟨e',ty',[],false⟩else hp β
theorem Q03{tmps:Array Value}(h:Q9 C ρ fr hp tmps w){β b:Nat}{hb:HB}{l:List Nat}(hB:isY β=false)(hβ:hp β=some hb)(hl:β∈l)(hρ:ρ β=some b):¬Xof C ρ (Qaj hp l) b:=by
 have hblk:=(h.own β hb hβ).blk;rw[hρ]at hblk;rintro(hx|⟨γ,hg,h1,h2,h3⟩)
 ·exact Ctx.cls_notX hblk.1 (Qt1 hB) hx
 ·obtain⟨hg0,g1,_,_,_,_,g6⟩:=Qhu h1;have:=h.inj γ β b (by simp[g1]) (by simp[hβ]) h3 hρ;subst this;exact g6 h2 hl
theorem Qc5.snap{tmps:Array Value}(h:Q9 C ρ fr hp tmps w){β o n:Nat}{v:Value}{l:List Nat}{hb:HB}(hr:Qc5 ρ hp w β o n v)(hB:isY β=false)(hl:β∈l)(hβ:hp β=some hb):Qs w (Xof C ρ (Qaj hp l)) (.sl hb.e ((hb.xs.drop o).take n)) v:=by
 obtain⟨hb',g1,g2,g3⟩:=hr;rw[hβ]at g1;cases g1;rcases g3 with⟨g3,rfl,rfl,rfl⟩|⟨b,cap,g3,rfl,g5,g6⟩
 ·simp only[List.take_zero];exact .slE _ _ _ (Nat.zero_le _)
 ·have hown:=h.own β hb hβ;have hblk:=hown.blk;rw[g3]at hblk;obtain⟨_,hlt,cur,cap',c1,c2,c3,c4,c5⟩:=hblk;obtain⟨cur',ty',d1,d2⟩:=g5;rw[c1]at d1;cases d1;have hcc:o+cap=cap':=by rw[c2]at d2;exact(Nat.eq_of_mul_eq_mul_right hown.epos d2).symm
  subst hcc;have hlen:((hb.xs.drop o).take n).length=n:=by simp;omega
  have hget:∀(i:Nat)(x:PV),((hb.xs.drop o).take n)[i]? =some x->i<n/\hb.xs[o+i]? =some x:=fun i x hx=>by
   have hi:i<n:=by have:=(List.getElem?_eq_some_iff.1 hx).1;omega
   rw[List.getElem?_take_of_lt hi,List.getElem?_drop]at hx;exact⟨hi,hx⟩
  have:=Qs.sl (w:=w) (X:=Xof C ρ (Qaj hp l)) hb.e ((hb.xs.drop o).take n) b (o*hb.e) cap (fun i j=>cur.getD ((o+i)*hb.e+j) undef) (Q03 h hB hβ hl g3) hlt (by omega) (by omega)
   (fun i x hx=>(hown.len _ x (hget i x hx).2).1)
   (fun i hi j hj=>by rw[hlen]at hi;have:=Qfv (i:=o+i) (e:=hb.e) (o:=0) (j:=j) (n:=hb.e) (cap:=o+cap) (by omega) (by omega) hj;rw[Nat.add_zero]at this;rw[show o*hb.e+i*hb.e+j=(o+i)*hb.e+j by rw[Nat.add_mul]];exact Qbg c1 (by rw[c2];exact this))
   (fun i x hx j y hy=>(c5 _ x (hget i x hx).2 j y hy).freeze)
  rwa[hlen]at this
def Qo8(R:Qg):Qg:=fun fr hp=>∃fr' hp',Wk fr hp fr' hp'/\R fr' hp'
theorem Q34{hp':HP}(hw:Wk fr hp fr' hp')(h:R fr' hp'):Qo8 R fr hp:=⟨fr',hp',hw,h⟩
theorem Qkk(h:R fr hp):Qo8 R fr hp:=⟨fr,hp,Wk.refl _ _,h⟩
theorem Qahw:KM (Qo8 R) (Qo8 R):=by rintro f f' hp hf ⟨fr',hp',h1,h2⟩;exact⟨fr',hp',hf.wk.trans h1,h2⟩
theorem Qk:Qd6 (Qo8 R) []:=⟨Qahw,.nil⟩
theorem Qahx{d γ m i:Nat}{k:IntKind}(h:i<m)(he:(hp γ).map (·.e)=some 1):Qci 1 (.nso γ 0 m) (.int k (i:Int)) d fr hp K=K (upd fr d (.np γ i 0)) hp:=by
 have e:(0:Int)<=(i:Int):=by omega
 simp[Qci,e,h,he]
theorem Qahy{d γ o m:Nat}:Qkr (.nso γ o m) d fr hp K=K (upd fr d (.int .i64 m)) hp:=rfl
theorem Q9g{β γ o n:Nat}(h:γ≠β):Qbb β (.nso γ o n)= .nso γ o n:=by simp only[Qbb];rw[if_neg h]
theorem Qac2{β γ o n:Nat}(h:γ≠β):Qbb β (.np γ o n)= .np γ o n:=by simp only[Qbb];rw[if_neg h]
theorem Qaq7:
  (∀(β:Nat)(k:IntKind)(n:Int),Qbb β (.int k n)= .int k n)/\
  (∀(β:Nat)(b:Bool),Qbb β (.bool b)= .bool b)/\
  (∀(β e:Nat)(xs:List PV),Qbb β (.sl e xs)= .sl e xs)/\
  (∀(β:Nat)(cs:List PV),Qbb β (.agg cs)= .agg cs)/\
  (∀(β:Nat)(cs:List PV),Qbb β (.pt cs)= .pt cs)/\
  (∀(β:Nat),Qbb β .nilS= .nilS)/\
  (∀(β:Nat),Qbb β .undef= .undef)/\
  (∀(γ:Nat)(k:IntKind)(n:Int),Qeb γ (.int k n)= .int k n)/\
  (∀(γ:Nat)(b:Bool),Qeb γ (.bool b)= .bool b)/\
  (∀(γ e:Nat)(xs:List PV),Qeb γ (.sl e xs)= .sl e xs)/\
  (∀(γ:Nat)(cs:List PV),Qeb γ (.agg cs)= .agg cs)/\
  (∀(γ:Nat)(cs:List PV),Qeb γ (.pt cs)= .pt cs)/\
  (∀(γ:Nat),Qeb γ .nilS= .nilS)/\
  (∀(γ:Nat),Qeb γ .undef= .undef)/\
  (∀(γ β o n:Nat),Qeb γ (.mso β o n)= .mso β o n)/\
  (∀(γ β o n:Nat),Qeb γ (.mp β o n)= .mp β o n)/\
  (∀(γ β o n:Nat),Qeb γ (.rb β o n)= .rb β o n)/\
  (∀(γ β o n:Nat),Qeb γ (.nso β o n)= .nso β o n)/\
  (∀(γ β o n:Nat),Qeb γ (.np β o n)= .np β o n)/\
  (∀(β γ o n:Nat),Qaq β (.nso γ o n)= .nso γ o n)/\
  (∀(β γ o n:Nat),Qaq β (.np γ o n)= .np γ o n)/\
  (∀(β γ e ty:Nat)(xs:List PV),Qaq β (.nst γ e ty xs)= .nst γ e ty xs)/\
  (∀(β:Nat),Qaq β .undef= .undef)/\
  (∀(β:Nat)(cs:List PV),Qaq β (.pt cs)= .pt cs):=by
 refine⟨?_,?_,?_,?_,?_,?_,?_,?_,?_,?_,?_,?_,?_,?_,?_,?_,?_,?_,?_,?_,?_,?_,?_,?_⟩<;>intros<;>rfl
theorem Qac3(β γ o n:Nat):Qbb β (.mso γ o n)=if γ=β then .undef else .mso γ o n:=Q0d β γ o n
theorem Qac4(β γ o n:Nat):Qbb β (.mp γ o n)=if γ=β then .undef else .mp γ o n:=Q0e β γ o n
end Go.FW
namespace Go.FW
open Go
variable {C : Ctx} {ρ : Nat -> Option Nat} {fr fr' : Fr} {hp : HP} {w : World} {K R : Qg}
theorem Qahz{F:Fr}{s:Nat}:Qdz F s=Qfa (F s):=rfl
theorem Qaq8:
  (∀(k:IntKind)(n:Int),Qfa (.int k n)= .int k n)/\
  (∀(b:Bool),Qfa (.bool b)= .bool b)/\
  (∀(e:Nat)(xs:List PV),Qfa (.sl e xs)= .sl e xs)/\
  (∀(cs:List PV),Qfa (.agg cs)= .agg cs)/\
  (∀(cs:List PV),Qfa (.pt cs)= .pt cs)/\
  (Qfa .nilS= .nilS)/\(Qfa .undef= .undef)/\
  (∀(β o n:Nat),Qfa (.mso β o n)=if isN β then .undef else .mso β o n)/\
  (∀(β o n:Nat),Qfa (.mp β o n)=if isN β then .undef else .mp β o n)/\
  (∀(β o n:Nat),Qfa (.rb β o n)=if isN β then .undef else .rb β o n)/\
  (∀(β o n:Nat),Qfa (.nso β o n)=if isS β then .undef else .nso β o n)/\
  (∀(β o n:Nat),Qfa (.np β o n)=if isS β then .undef else .np β o n):=by
 refine⟨fun _ _=>rfl,fun _=>rfl,fun _ _=>rfl,fun _=>rfl,fun _=>rfl,rfl,rfl,?_,?_,?_,?_,?_⟩<;>intros<;>simp[Qfa,PV.refs,PV.sref]
theorem Qamv{β:Nat}:isS β=(isN β||decide (β<1000000)):=rfl
theorem Qamw{β:Nat}:isN β=decide (2000000<=β):=rfl
theorem Qac5{d γ n:Nat}{S:List Nat}{x:PV}{s:Nat}:Qaq6 d S γ n x fr s=if s=γ then x else if S.contains s then .nso γ 0 n else Qaq d (fr s):=rfl
theorem Qah0{by_ ty d:Nat}{k k':IntKind}{n c:Nat}(h2:n<=c)(h3:by_*c<=281474976710656)(h4:c<=9223372036854775807):
  mkK 1 by_ ty .nilS (.int k (n:Int)) (.int k' (c:Int)) d fr hp K=K (upd (Qa2 d fr) d (.ms d n)) (Qv hp d ⟨1,ty,List.replicate n .nilS,false⟩):=by
 rw[Qzj (e:=1) (by omega) rfl (by omega) (by omega) (by omega) (by omega)];rfl
theorem Qamx{k c:Nat}(h:c<3000000):(3000000+k=c)=False:=by simp;omega
theorem Qah1{k c:Nat}(h:c<3000000):(c=3000000+k)=False:=by simp;omega
theorem Qamy{k j:Nat}:(3000000+k=3000000+j)=(k=j):=by simp
attribute [go_sem] Qamx Qah1 Qamy Qah0 Qac5 Q9c Q9d Q9e Q9f Qac0 Qac1 Qyg Qyh Qaq7 Qac3 Qac4 Q9g Qac2 Qahx Qahy Qahz Qaq8 Qamv Qamw
end Go.FW
namespace Go.FW
open Go
variable {C C' : Ctx} {ρ ρ' : Nat -> Option Nat} {fr fr' : Fr} {hp hp' : HP} {w : World} {K R : Qg}
theorem Qh0{sk:List It}{r:RT}{fr0:Fr}{hp0:HP}(hw:Wk fr hp fr0 hp0)(h:vc C R (.o r::sk) fr0 hp0):vc C R (.o (.wk r)::sk) fr hp:=by rw[Que];exact⟨fr0,hp0,hw,h⟩
def rn1(σ:Nat->Nat):PV->PV
 |.mp β i o=>.mp (σ β) i o
 |.mso β o n=>.mso (σ β) o n
 |.rb β o n=>.rb (σ β) o n
 |.np β i o=>.np (σ β) i o
 |.nso β o n=>.nso (σ β) o n
 |p=>p
def rnP(σ:Nat->Nat):PV->PV
 |.fn f a b=>.fn f (a.map (rn1 σ)) (b.map (rn1 σ))
 |.rag cs=>.rag (cs.map (rn1 σ))
 |.rtp cs=>.rtp (cs.map (rn1 σ))
 |.rtq cs q=>.rtq (cs.map (rn1 σ)) q
 |.nst γ e ty xs=>.nst (σ γ) e ty (xs.map fun x=>Qei (x.ncells.map (rn1 σ)))
 |p=>rn1 σ p
structure Rn1(σ:Nat->Nat)(ρ ρ':Nat->Option Nat)(hp hp':HP)(β:Nat):Prop where
 r:ρ' (σ β)=ρ β
 h:∀hb,hp β=some hb->∃hb2,hp' (σ β)=some hb2/\hb2.e=hb.e/\hb2.ty=hb.ty/\hb2.xs=hb.xs
 b:isB β=true->isB (σ β)=true
theorem Qs.rn1{X:Nat->Prop}{σ:Nat->Nat}{p:PV}{v:Value}(h:Qs w X p v):FW.rn1 σ p=p:=by cases h<;>rfl
theorem Qc5.ren{σ:Nat->Nat}{β o n:Nat}{v:Value}(h:Qc5 ρ hp w β o n v)(hr:Rn1 σ ρ ρ' hp hp' β):Qc5 ρ' hp' w (σ β) o n v:=by obtain⟨hb,h1,h2,h3⟩:=h;obtain⟨hb',k1,k2,k3,k4⟩:=hr.h hb h1;refine⟨hb',k1,by rw[k4];exact h2,?_⟩;rw[hr.r,k2];exact h3
theorem Qje.ren{σ:Nat->Nat}{γ o n:Nat}{v:Value}(h:Qje ρ hp w γ o n v)(hr:Rn1 σ ρ ρ' hp hp' γ):Qje ρ' hp' w (σ γ) o n v:=by obtain⟨h0,hb,b,cap,h1,h2,h3⟩:=h;obtain⟨hb',k1,k2,k3,k4⟩:=hr.h hb h1;exact⟨hr.b h0,hb',b,cap,k1,by rw[hr.r];exact h2,by rw[k2];exact h3⟩
theorem Qs.sub{X X':Nat->Prop}{p:PV}{v:Value}(h:Qs w X p v)(hX:∀b,X' b->X b):Qs w X' p v:=h.mono (fun _ _ _=>rfl) (fun b _ hn hx=>hn (hX b hx)) (Nat.le_refl _)
theorem Qbo.ren{σ:Nat->Nat}{p:PV}{v:Value}(h:Qbo C ρ hp w p v)(hX:∀b,Xof C' ρ' hp' b->Xof C ρ hp b)(hr:∀β∈p.sref1,Rn1 σ ρ ρ' hp hp' β):Qbo C' ρ' hp' w (rn1 σ p) v:=by
 cases p with
 |undef=>trivial
 |mso β o n=>exact⟨(hr β (by simp[PV.sref1])).b h.1,h.2.ren (hr β (by simp[PV.sref1]))⟩
 |nso γ o n=>exact Qje.ren h (hr γ (by simp[PV.sref1]))
 |mp=>cases h
 |rb=>cases h
 |np=>cases h
 |_=>exact Qs.sub h hX
theorem Qbp.ren{σ:Nat->Nat}{p:PV}{v:Value}(h:Qbp C ρ hp w p v)(hX:∀b,Xof C' ρ' hp' b->Xof C ρ hp b)(hr:∀β∈p.ref1++p.nref1,Rn1 σ ρ ρ' hp hp' β):Qbp C' ρ' hp' w (rn1 σ p) v:=by
 cases p with
 |mp β i o=>have hq:=hr β (by simp[PV.ref1]);obtain⟨b,hb,h1,h2,h3⟩:=h;obtain⟨hb',k1,k2,k3,k4⟩:=hq.h hb h2;exact⟨b,hb',by rw[hq.r];exact h1,k1,by rw[k2];exact h3⟩
 |mso β o n=>exact Qc5.ren h (hr β (by simp[PV.ref1]))
 |rb β o n=>obtain⟨b,u,h1,h2,h3,h4,h5⟩:=h;exact⟨b,u,h1,h2,fun hx=>h3 (hX b hx),h4,h5.ren (hr β (by simp[PV.ref1]))⟩
 |np γ i o=>have hq:=hr γ (by simp[PV.ref1,PV.nref1]);obtain⟨h0,b,hb,h1,h2,h3⟩:=h;obtain⟨hb',k1,k2,k3,k4⟩:=hq.h hb h2;exact⟨hq.b h0,b,hb',by rw[hq.r];exact h1,k1,by rw[k2];exact h3⟩
 |nso γ o n=>exact Qje.ren h (hr γ (by simp[PV.ref1,PV.nref1]))
 |_=>exact Qs.sub h hX
theorem Qsq{cs:List PV}(h:∀c∈cs,(∀ds,c≠ .agg ds)/\∀ds,c≠ .rag ds):(Qei cs).ncells=cs:=by
 match cs,h with
 | [],_=>rfl
 | [c],h=>
  obtain⟨h1,h2⟩:=h c (by simp);cases c with
  |agg ds=>exact absurd rfl (h1 ds)
  |rag ds=>exact absurd rfl (h2 ds)
  |_=>rfl
 |c::d::cs,_=>simp only[Qei,Qhd];split<;>rfl
theorem Qbo.one{p:PV}{v:Value}(h:Qbo C ρ hp w p v):(∀ds,p≠ .agg ds)/\∀ds,p≠ .rag ds:=by refine⟨fun ds e=>?_,fun ds e=>?_⟩<;>subst e<;>cases h
theorem Qr.ren{σ:Nat->Nat}{p:PV}{v:Value}(h:Qr C ρ hp w p v)(hX:∀b,Xof C' ρ' hp' b->Xof C ρ hp b)(hr:∀β∈p.refs++p.sref,Rn1 σ ρ ρ' hp hp' β):Qr C' ρ' hp' w (rnP σ p) v:=by
 have hV:∀q u,Qs w (Xof C ρ hp) q u->Qs w (Xof C' ρ' hp') q u:=fun q u hq=>Qs.sub hq hX;cases p with
 |undef=>trivial
 |mp β i o=>exact Qbp.ren (w:=w) (p:=.mp β i o) h hX (by simpa[PV.refs,PV.sref,PV.ref1,PV.nref1]using hr)
 |mso β o n=>exact Qbp.ren (w:=w) (p:=.mso β o n) h hX (by simpa[PV.refs,PV.sref,PV.ref1,PV.nref1]using hr)
 |rb β o n=>exact Qbp.ren (w:=w) (p:=.rb β o n) h hX (by simpa[PV.refs,PV.sref,PV.ref1,PV.nref1]using hr)
 |np γ i o=>exact Qbp.ren (w:=w) (p:=.np γ i o) h hX (by simpa[PV.refs,PV.sref,PV.ref1,PV.nref1]using hr)
 |nso γ o n=>exact Qbp.ren (w:=w) (p:=.nso γ o n) h hX (by simpa[PV.refs,PV.sref,PV.ref1,PV.nref1]using hr)
 |rag cs=>obtain⟨vs,rfl,h1,h2⟩:=h;refine⟨vs,rfl,by simpa using h1,fun i x hi=>?_⟩;simp only[List.getElem?_map,Option.map_eq_some_iff]at hi;obtain⟨y,hy,rfl⟩:=hi;exact(h2 i y hy).ren hX fun β hβ=>hr β (List.mem_append_right _ (List.mem_flatMap.2 ⟨y,List.mem_of_getElem? hy,hβ⟩))
 |rtp cs=>obtain⟨vs,rfl,h1,h2⟩:=h;refine⟨vs,rfl,by simpa using h1,fun i x hi=>?_⟩;simp only[List.getElem?_map,Option.map_eq_some_iff]at hi;obtain⟨y,hy,rfl⟩:=hi;exact(h2 i y hy).ren hX fun β hβ=>hr β (List.mem_append_right _ (List.mem_flatMap.2 ⟨y,List.mem_of_getElem? hy,hβ⟩))
 |rtq cs q=>obtain⟨vs,u,rfl,h1,h2,h3⟩:=h;refine⟨vs,u,rfl,by simpa using h1,fun i x hi=>?_,h3.mono (fun _ _ _=>rfl) (fun b _ hn hx=>hn (hX b hx)) (Nat.le_refl _)⟩;simp only[List.getElem?_map,Option.map_eq_some_iff]at hi;obtain⟨y,hy,rfl⟩:=hi;exact(h2 i y hy).ren hX fun β hβ=>hr β (List.mem_append_right _ (List.mem_flatMap.2 ⟨y,List.mem_of_getElem? hy,hβ⟩))
 | nst γ e ty xs=>
  obtain⟨h0,he,b,hb,cur,cap,h1,h2,h3,h4,h5,h6,h7,h8,h9,h10,h11⟩:=h;have hq:=hr γ (by simp[PV.sref]);have key:∀(i:Nat)(x:PV),xs[i]? =some x->∀(j:Nat)(y:PV),x.ncells[j]? =some y->Qbo C' ρ' hp' w (rn1 σ y) (cur.getD (i*e+j) undef):=fun i x hx j y hy=>
   (h11 i x hx j y hy).ren hX fun β hβ=>hr β (List.mem_append_right _ (List.mem_cons_of_mem _ (List.mem_flatMap.2 ⟨x,List.mem_of_getElem? hx,List.mem_flatMap.2 ⟨y,List.mem_of_getElem? hy,hβ⟩⟩)))
  have hnc:∀(i:Nat)(x:PV),xs[i]? =some x->(Qei (x.ncells.map (rn1 σ))).ncells=x.ncells.map (rn1 σ):=fun i x hx=>by refine Qsq fun c hc=>?_;obtain⟨y,hy,rfl⟩:=List.mem_map.1 hc;obtain⟨j,hj⟩:=List.getElem?_of_mem hy;exact(key i x hx j y hj).one
  obtain⟨hb',k1,k2,k3,k4⟩:=hq.h hb h2;refine⟨hq.b h0,he,b,hb',cur,cap,by rw[hq.r];exact h1,k1,by rw[k4];exact h3,by rw[k2];exact h4,by rw[k3];exact h5,h6,h7,by simpa using h8,h9,fun i x hx=>?_,fun i x hx j y hy=>?_⟩
  ·simp only[List.getElem?_map,Option.map_eq_some_iff]at hx;obtain⟨x0,hx0,rfl⟩:=hx;rw[hnc i x0 hx0,List.length_map];exact h10 i x0 hx0
  ·simp only[List.getElem?_map,Option.map_eq_some_iff]at hx;obtain⟨x0,hx0,rfl⟩:=hx;rw[hnc i x0 hx0,List.getElem?_map,Option.map_eq_some_iff]at hy;obtain⟨y0,hy0,rfl⟩:=hy;exact key i x0 hx0 j y0 hy0
 | fn f first cap=>
  obtain⟨fv,cv,rfl,h1,h2,h3,h4⟩:=h;have hm:∀(l:List PV)(x:PV),x∈l->∀β∈x.ref1++x.nref1,β∈l.flatMap PV.ref1++l.flatMap PV.nref1:=fun l x hx β hβ=>by
   rcases List.mem_append.1 hβ with hβ|hβ
   ·exact List.mem_append_left _ (List.mem_flatMap.2 ⟨x,hx,hβ⟩)
   ·exact List.mem_append_right _ (List.mem_flatMap.2 ⟨x,hx,hβ⟩)
  refine⟨fv,cv,rfl,by simpa using h1,by simpa using h2,fun i x hi=>?_,fun i x hi=>?_⟩
  ·simp only[List.getElem?_map,Option.map_eq_some_iff]at hi;obtain⟨y,hy,rfl⟩:=hi;refine(h3 i y hy).ren hX fun β hβ=>hr β ?_;have:=hm first y (List.mem_of_getElem? hy) β hβ
   simp only[PV.refs,PV.sref,List.mem_append]at this⊢;rcases this with h|h
   ·exact .inl (.inl h)
   ·exact .inr (.inl h)
  ·simp only[List.getElem?_map,Option.map_eq_some_iff]at hi;obtain⟨y,hy,rfl⟩:=hi;refine(h4 i y hy).ren hX fun β hβ=>hr β ?_;have:=hm cap y (List.mem_of_getElem? hy) β hβ;simp only[PV.refs,PV.sref,List.mem_append]at this⊢;rcases this with h|h
   ·exact .inl (.inr h)
   ·exact .inr (.inr h)
 |agg cs=>exact Qco.move (p:=.agg cs) h hV
 |tup cs=>exact Qco.move (p:=.tup cs) h hV
 |_=>exact hV _ _ h
theorem Qamz(σ τ:Nat->Nat)(h1:∀β hb,hp β=some hb->hp' (σ β)=some hb/\τ (σ β)=β)(h2:∀γ hb,hp' γ=some hb->hp (τ γ)=some hb/\σ (τ γ)=γ)
  (hB:∀β,hp β≠none->isB β=true->isB (σ β)=true) (hY:∀β,hp β≠none->isY (σ β)=isY β/\(isY β=true->σ β=β)) (hf:∀s,fr' s=rnP σ (fr s)∨fr' s= .undef):Wk fr hp fr' hp':=by
 rintro C tmps w ⟨ρ,hs⟩;obtain⟨ρ',hρ⟩:∃f:Nat->Option Nat,f=fun γ=>if hp' γ=none then none else ρ (τ γ):=⟨_,rfl⟩
 have hr:∀β,hp β≠none->Rn1 σ ρ ρ' hp hp' β:=fun β hβ=>by obtain⟨hb,hq⟩:=Option.ne_none_iff_exists'.1 hβ;obtain⟨a1,a2⟩:=h1 β hb hq;refine⟨?_,(fun hb hq=>⟨hb,(h1 β hb hq).1,rfl,rfl,rfl⟩),hB β hβ⟩;rw[hρ];simp only[];rw[if_neg (by rw[a1];simp),a2]
 have hb':∀γ hb,hp' γ=some hb->ρ' γ=ρ (τ γ):=fun γ hb hq=>by rw[hρ];simp only[];rw[if_neg (by rw[hq];simp)]
 have hX:∀b,Xof C ρ' hp' b->Xof C ρ hp b:=by
  rintro b (hx|⟨γ,hg,g1,g2,g3⟩)
  ·exact .inl hx
  ·rw[hb' γ hg g1]at g3;exact .inr ⟨τ γ,hg,(h2 γ hg g1).1,g2,g3⟩
 refine⟨ρ',hs.sz,hs.ext,hs.keep,fun γ hb hγ=>?_,fun γ δ b g1 g2 g3 g4=>?_,fun i=>?_⟩
 ·obtain⟨a1,a2⟩:=h2 γ hb hγ;obtain⟨q1,q2,q3,q4,q5⟩:=hs.own (τ γ) hb a1;obtain⟨y1,y2⟩:=hY (τ γ) (by simp[a1]);rw[a2]at y1 y2;refine⟨q1,q2,?_,fun hy=>?_,fun hR=>?_⟩
  rotate_left
  rotate_left
  ·have hy:isY γ=true:=by simp[isR]at hR;simp[isY];omega
   have e:=y2 (by rw[<-y1];exact hy);exact q5 (by rw[<-e];exact hR)
  ·rw[hb' γ hb hγ];cases hq:ρ (τ γ)with
   |none=>rw[hq]at q3;exact q3
   |some b=>
    rw[hq]at q3;refine⟨?_,q3.2.1,q3.2.2.move rfl rfl rfl rfl fun q u hq=>Qs.sub hq hX⟩;have:=q3.1;unfold Ctx.cls at this⊢;rw[y1];split at this
    ·rename_i hy;rw[if_pos hy,y2 hy];exact this
    ·rename_i hy;rw[if_neg hy];exact this
  ·rw[hb' γ hb hγ,q4 (by rw[<-y1];exact hy),<-y2 (by rw[<-y1];exact hy)]
 ·obtain⟨x1,k1⟩:=Option.ne_none_iff_exists'.1 g1;obtain⟨x2,k2⟩:=Option.ne_none_iff_exists'.1 g2;rw[hb' γ x1 k1]at g3;rw[hb' δ x2 k2]at g4;have:=hs.inj (τ γ) (τ δ) b (by rw[(h2 γ x1 k1).1];simp) (by rw[(h2 δ x2 k2).1];simp) g3 g4;rw[<-(h2 γ x1 k1).2,<-(h2 δ x2 k2).2,this]
 ·have hsl:=hs.slots i;rcases hf i with e|e
  ·rw[e];exact hsl.ren hX fun β hβ=>hr β (by
    rcases List.mem_append.1 hβ with h|h
    ·exact hsl.known.1 β h
    ·exact hsl.known.2 β h)
  ·rw[e];trivial
def mvN(β δ x:Nat):Nat:=if x=β then δ else x
def mvF(β δ:Nat)(fr:Fr):Fr:=fun s=>rnP (mvN β δ) (fr s)
def mvH(β δ:Nat)(hp:HP):HP:=fun x=>if x=δ then hp β else if x=β then none else hp x
theorem Qaq9(β δ:Nat)(hδ:hp δ=none)(h2:2000000<=δ)(hY:isY β=false)(hne:β≠δ):Wk fr hp (mvF β δ fr) (mvH β δ hp):=by
 have bδ:isB δ=true:=by simp[isB];omega
 have yδ:isY δ=false:=by simp[isY];omega
 refine Qamz (mvN β δ) (fun y=>if y=δ then β else y) (fun x hb hx=>?_) (fun y hb hy=>?_) (fun x hx hb=>?_) (fun x hx=>?_) (fun s=>.inl rfl)
 ·unfold mvN mvH;by_cases e:x=β
  ·subst e;simp[hx]
  ·have e2:x≠δ:=fun e2=>by rw[e2,hδ]at hx;cases hx
   simp[e,e2,hx]
 ·unfold mvH at hy;unfold mvN;by_cases e:y=δ
  ·subst e;simp at hy;simp[hy]
  ·rw[if_neg e]at hy;by_cases e2:y=β
   ·rw[if_pos e2]at hy;cases hy
   ·rw[if_neg e2]at hy;simp[e,e2,hy]
 ·unfold mvN;split
  ·exact bδ
  ·exact hb
 ·unfold mvN;split
  ·rename_i e;subst e;rw[yδ,hY];simp
  ·simp
theorem Qam0{β δ x:Nat}:mvH β δ hp x=if x=δ then hp β else if x=β then none else hp x:=rfl
theorem Qam1{β δ s:Nat}:mvF β δ fr s=rnP (mvN β δ) (fr s):=rfl
theorem Qam2{β δ x:Nat}:mvN β δ x=if x=β then δ else x:=rfl
theorem Qah2{β δ d:Nat}{v:PV}:mvF β δ (upd fr d v)=upd (mvF β δ fr) d (rnP (mvN β δ) v):=by funext s;unfold mvF upd;split<;>rfl
theorem Qah3{W:List (Nat×Nat)}{β δ:Nat}{J F:Fr}:mvF β δ (ovr W J F)=ovr W (mvF β δ J) (mvF β δ F):=by funext s;unfold mvF ovr;split<;>rfl
theorem Qam3{σ:Nat->Nat}{p:PV}(h:∀β∈p.ref1++p.nref1,σ β=β):rn1 σ p=p:=by
 cases p with
 |mp β=>simp only[rn1];rw[h β (by simp[PV.ref1])]
 |mso β=>simp only[rn1];rw[h β (by simp[PV.ref1])]
 |rb β=>simp only[rn1];rw[h β (by simp[PV.ref1])]
 |np β=>simp only[rn1];rw[h β (by simp[PV.ref1,PV.nref1])]
 |nso β=>simp only[rn1];rw[h β (by simp[PV.ref1,PV.nref1])]
 |_=>rfl
theorem Qah4{σ:Nat->Nat}{p:PV}(h:Cln p)(hσ:∀β∈p.refs++p.sref,σ β=β):rnP σ p=p:=by
 have hm:∀(l:List PV),(∀β∈l.flatMap PV.ref1++l.flatMap PV.nref1,σ β=β)->l.map (rn1 σ)=l:=fun l hl=>by
  conv=>rhs;rw[<-List.map_id l]
  refine List.map_congr_left fun x hx=>Qam3 fun β hβ=>hl β ?_;rcases List.mem_append.1 hβ with hβ|hβ
  ·exact List.mem_append_left _ (List.mem_flatMap.2 ⟨x,hx,hβ⟩)
  ·exact List.mem_append_right _ (List.mem_flatMap.2 ⟨x,hx,hβ⟩)
 cases p with
 |nst γ e ty xs=>exact absurd rfl (h.2.2.1 _ _ _ _)
 |rag cs=>exact absurd rfl (h.2.2.2 _).1
 |rtp cs=>exact absurd rfl (h.2.2.2 _).2.1
 |rtq cs q=>exact absurd rfl ((h.2.2.2 _).2.2 _)
 | fn f a b=>
  simp only[rnP];rw[hm a,hm b]
  ·intro β hβ;refine hσ β ?_;simp only[PV.refs,PV.sref,List.mem_append]at hβ⊢;rcases hβ with h|h
   ·exact .inl (.inr h)
   ·exact .inr (.inr h)
  ·intro β hβ;refine hσ β ?_;simp only[PV.refs,PV.sref,List.mem_append]at hβ⊢;rcases hβ with h|h
   ·exact .inl (.inl h)
   ·exact .inr (.inl h)
 |mp β=>simp only[rnP,rn1];rw[hσ β (by simp[PV.refs])]
 |mso β=>simp only[rnP,rn1];rw[hσ β (by simp[PV.refs])]
 |rb β=>simp only[rnP,rn1];rw[hσ β (by simp[PV.refs])]
 |np β=>simp only[rnP,rn1];rw[hσ β (by simp[PV.refs,PV.sref])]
 |nso β=>simp only[rnP,rn1];rw[hσ β (by simp[PV.refs,PV.sref])]
 |_=>rfl
theorem Qac6{B:List Nat}{F:Fr}{s β:Nat}(h:β∈(bse B F s).refs):B.contains β=false:=by
 cases hq:B.contains β with
 |false=>rfl
 |true=>
  unfold bse Qah at h;split at h
  ·cases h
  ·rename_i hn;exact absurd (List.any_eq_true.2 ⟨β,h,hq⟩) hn
theorem Qah5{B:List Nat}{F:Fr}{β δ:Nat}(hβ:B.contains β=true∨2000000<=β)(hβ2:β<1000000∨2000000<=β):mvF β δ (bse B F)=bse B F:=by
 funext s;have hc:=Qlo B F s;refine Qah4 hc fun x hx=>if_neg fun e=>?_;subst e;rcases hβ with hβ|hβ
 ·rcases List.mem_append.1 hx with h|h
  ·rw[Qac6 h]at hβ;cases hβ
  ·have h1:=hc.2.1 x h;simp[isS,isN]at h1;omega
 ·rcases List.mem_append.1 hx with h|h
  ·have:=hc.1 x h;simp[isN]at this;omega
  ·have:=hc.2.1 x h;simp[isS,isN]at this;omega
end Go.FW
namespace Go.FW
open Go
variable {C C' : Ctx} {ρ ρ' : Nat -> Option Nat} {fr fr' : Fr} {hp hp' : HP} {w : World} {K R : Qg}
def Qdg(γ:Nat):PV->PV
 |.mso β o n=>if β=γ then .nso γ o n else .mso β o n
 |.mp β i o=>if β=γ then .np γ i o else .mp β i o
 |.rb β o n=>if β=γ then .undef else .rb β o n
 |p=>p
def Qcp(γ:Nat):PV->PV
 |.fn f a b=>Qaq γ (.fn f a b)
 |.rag cs=>.rag (cs.map (Qdg γ))
 |.rtp cs=>.rtp (cs.map (Qdg γ))
 |.rtq cs q=>.rtq (cs.map (Qdg γ)) q
 |.nst γ' e ty xs=>if γ'=γ then .undef else .nst γ' e ty (xs.map fun x=>Qei (x.ncells.map (Qdg γ)))
 |p=>Qdg γ p
def Qw1(γ:Nat)(x:PV)(fr:Fr):Fr:=fun s=>if s=γ then x else Qcp γ (fr s)
theorem Q9h {γ e ty:Nat} {xs:List PV} {fz:Bool} (hγ:hp γ=some ⟨e,ty,xs,fz⟩) (h0:xs≠[]) (h2:2000000<=γ) (hd:∀x∈xs,x.ncells=x.cells):Wk fr hp (Qw1 γ (.nst γ e ty xs) fr) (Qv hp γ ⟨e,ty,[],fz⟩):=by
 rintro C tmps w ⟨ρ,hs⟩;have bγ:isB γ=true:=by simp[isB];omega
 have hown:=hs.own γ _ hγ;have hblk:=hown.blk;obtain⟨b,hρ⟩:∃b,ρ γ=some b:=by
  cases hq:ρ γ with
  |none=>rw[hq]at hblk;exact absurd hblk h0
  |some b=>exact⟨b,rfl⟩
 rw[hρ]at hblk;obtain⟨b1,b2,cur,cap,c1,c2,c3,c4,c5⟩:=hblk;have epos:=hown.epos;obtain⟨hp',hpE⟩:∃f,f=Qv hp γ ⟨e,ty,[],fz⟩:=⟨_,rfl⟩
 rw[<-hpE];have pγ:hp' γ=some ⟨e,ty,[],fz⟩:=by rw[hpE];simp[Qv]
 have po:∀β,β≠γ->hp' β=hp β:=fun β hβ=>by rw[hpE];simp[Qv,hβ]
 have hX:Xof C ρ hp'=Xof C ρ hp:=by
  funext c;apply propext;constructor
  ·rintro(hx|⟨β,hb,g1,g2,g3⟩)
   ·exact .inl hx
   ·by_cases hβ:β=γ
    ·subst hβ;rw[pγ]at g1;cases g1;exact .inr ⟨β,_,hγ,g2,g3⟩
    ·rw[po β hβ]at g1;exact .inr ⟨β,hb,g1,g2,g3⟩
  ·rintro(hx|⟨β,hb,g1,g2,g3⟩)
   ·exact .inl hx
   ·by_cases hβ:β=γ
    ·subst hβ;rw[hγ]at g1;cases g1;exact .inr ⟨β,_,pγ,g2,g3⟩
    ·exact .inr ⟨β,hb,by rw[po β hβ];exact g1,g2,g3⟩
 have hst:Qku w w (Xof C ρ hp) (Xof C ρ hp'):=by rw[hX];exact⟨fun _ _ _=>rfl,fun _ _ hn=>hn,Nat.le_refl _⟩
 have c0:∀β,β≠γ->Cnd ρ ρ hp hp' w w β:=fun β hβ=>⟨rfl,fun hb hq=>⟨hb,by rw[po β hβ];exact hq,rfl,Nat.le_refl _,fun _ _ _ h=>h,fun h=>⟨h,rfl,fun _ _=>rfl⟩⟩⟩
 have toS:∀ {o n:Nat} {v:Value},Qc5 ρ hp w γ o n v->Qje ρ hp' w γ o n v:=by
  rintro o n v ⟨hb,g1,g2,g3⟩;rw[hγ]at g1;cases g1;rcases g3 with⟨g3,_⟩|⟨b',cp,g3,g4,g5,g6⟩
  ·rw[hρ]at g3;cases g3
  ·rw[hρ]at g3;cases g3;refine⟨bγ,_,b,cp,pγ,hρ,g4,g5,g6,?_⟩;obtain⟨cur',ty',d1,d2⟩:=g5;rw[c1]at d1;cases d1;have:cap=o+cp:=Nat.eq_of_mul_eq_mul_right epos (by rw[<-c2,<-d2]);simp only at g2 c3;omega
 have cell:∀ {p:PV} {v:Value},Qbo C ρ hp w p v->Qbo C ρ hp' w (Qdg γ p) v:=by
  intro p v h;cases p with
  |mso β o n=>
   by_cases hβ:β=γ
   ·subst hβ;simp only[Qdg,if_true];exact toS h.2
   ·simp only[Qdg,if_neg hβ];exact Qbo.move (p:=.mso β o n) h hst fun x hx=>by simp[PV.sref1]at hx;subst hx;exact(c0 _ hβ).weak
  | nso β o n=>
   by_cases hβ:β=γ
   ·obtain⟨_,hb,b',cp,k1,k2,k3,k4,k5,k6⟩:=h;subst hβ;rw[hγ]at k1;cases k1;exact⟨bγ,_,b',cp,pγ,k2,k3,k4,k5,k6⟩
   ·exact Qbo.move (p:=.nso β o n) h hst fun x hx=>by simp[PV.sref1]at hx;subst hx;exact(c0 _ hβ).weak
  |mp=>cases h
  |rb=>cases h
  |np=>cases h
  |undef=>trivial
  |_=>exact Qbo.move h hst (fun x hx=>by cases hx)
 refine⟨ρ,hs.sz,hs.ext,hs.keep,fun β hb hβ=>?_,fun β δ c g1 g2 g3 g4=>?_,fun i=>?_⟩
 ·by_cases hq:β=γ
  ·subst hq;rw[pγ]at hβ;cases hβ;refine⟨epos,(fun i x hx=>by simp at hx),?_,hown.fix,hown.ro⟩;rw[hρ];exact⟨b1,b2,cur,cap,c1,c2,Nat.zero_le _,c4,fun i x hx=>by simp at hx⟩
  ·rw[po β hq]at hβ;obtain⟨q1,q2,q3,q4,q5⟩:=hs.own β hb hβ;refine⟨q1,q2,?_,q4,q5⟩;cases hr:ρ β with
   |none=>rw[hr]at q3;exact q3
   |some c=>rw[hr]at q3;exact⟨q3.1,q3.2.1,q3.2.2.move rfl rfl rfl rfl hst.rc⟩
 ·have f:∀β,hp' β≠none->hp β≠none:=fun β hβ=>by
   by_cases hq:β=γ
   ·subst hq;simp[hγ]
   ·rwa[po β hq]at hβ
  exact hs.inj β δ c (f β g1) (f δ g2) g3 g4
 ·have hsl:=hs.slots i;show Qr C ρ hp' w (Qw1 γ (.nst γ e ty xs) fr i) _;unfold Qw1;split
  ·refine⟨bγ,epos,b,_,cur,cap,hρ,pγ,rfl,rfl,rfl,c1,c2,c3,c4,fun k x hx=>?_,fun k x hx j y hy=>?_⟩
   ·rw[hd x (List.mem_of_getElem? hx)];exact(hown.len k x hx).1
   ·rw[hd x (List.mem_of_getElem? hx)]at hy;have:=c5 k x hx j y hy;have h3:Qs w (Xof C ρ hp') y (cur.getD (k*e+j) undef):=by rw[hX];exact this
    cases y with
    |undef=>trivial
    |mso=>cases h3
    |nso=>cases h3
    |_=>exact h3
  ·generalize fr i=p at hsl;cases p with
   |mso β o n=>
    by_cases hβ:β=γ
    ·subst hβ;simp only[Qcp,Qdg,if_true];exact toS hsl
    ·simp only[Qcp,Qdg,if_neg hβ];exact Qr.moveC hsl hst (fun x hx=>by simp[PV.refs]at hx;subst hx;exact(c0 _ hβ).o) (fun x hx=>by cases hx)
   | mp β k o=>
    by_cases hβ:β=γ
    ·subst hβ;simp only[Qcp,Qdg,if_true];obtain⟨b',hb,g1,g2,g3⟩:=hsl;rw[hγ]at g2;cases g2;exact⟨bγ,b',_,g1,pγ,g3⟩
    ·simp only[Qcp,Qdg,if_neg hβ];exact Qr.moveC hsl hst (fun x hx=>by simp[PV.refs]at hx;subst hx;exact(c0 _ hβ).o) (fun x hx=>by cases hx)
   |rb β o n=>
    by_cases hβ:β=γ
    ·simp only[Qcp,Qdg,if_pos hβ];trivial
    ·simp only[Qcp,Qdg,if_neg hβ];exact Qr.moveC hsl hst (fun x hx=>by simp[PV.refs]at hx;subst hx;exact(c0 _ hβ).o) (fun x hx=>by cases hx)
   | np β k o=>
    by_cases hβ:β=γ
    ·subst hβ;obtain⟨_,b',hb,g1,g2,g3⟩:=hsl;rw[hγ]at g2;cases g2;exact⟨bγ,b',_,g1,pγ,g3⟩
    ·refine Qr.moveC (p:=.np β k o) hsl hst (fun x hx=>by cases hx) (fun x hx=>?_);have e1:x=β:=by simpa[PV.sref]using hx
     rw[e1];exact c0 _ hβ
   |nso β o n=>exact cell (p:=.nso β o n) hsl
   |rag cs=>obtain⟨vs,e1,h1,h3⟩:=hsl;refine⟨vs,e1,by simpa using h1,fun k x hk=>?_⟩;simp only[List.getElem?_map,Option.map_eq_some_iff]at hk;obtain⟨y,hy,rfl⟩:=hk;exact cell (h3 k y hy)
   |rtp cs=>obtain⟨vs,e1,h1,h3⟩:=hsl;refine⟨vs,e1,by simpa using h1,fun k x hk=>?_⟩;simp only[List.getElem?_map,Option.map_eq_some_iff]at hk;obtain⟨y,hy,rfl⟩:=hk;exact cell (h3 k y hy)
   |rtq cs q=>obtain⟨vs,u,e1,h1,h3,h4⟩:=hsl;refine⟨vs,u,e1,by simpa using h1,fun k x hk=>?_,h4.mono hst.blk hst.out hst.size⟩;simp only[List.getElem?_map,Option.map_eq_some_iff]at hk;obtain⟨y,hy,rfl⟩:=hk;exact cell (h3 k y hy)
   | nst β e' ty' ys=>
    simp only[Qcp];split
    ·trivial
    ·rename_i hβ;obtain⟨k0,he,b',hb,cur',cap',k1,k2,k3,k4,k5,k6,k7,k8,k9,k10,k11⟩:=hsl;have hnc:∀(k:Nat)(x:PV),ys[k]? =some x->(Qei (x.ncells.map (Qdg γ))).ncells=x.ncells.map (Qdg γ):=fun k x hx=>by refine Qsq fun c hc=>?_;obtain⟨y,hy,rfl⟩:=List.mem_map.1 hc;obtain⟨j,hj⟩:=List.getElem?_of_mem hy;exact(cell (k11 k x hx j y hj)).one
     refine⟨k0,he,b',hb,cur',cap',k1,by rw[po β hβ];exact k2,k3,k4,k5,k6,k7,by simpa using k8,k9,fun k x hx=>?_,fun k x hx j y hy=>?_⟩
     ·simp only[List.getElem?_map,Option.map_eq_some_iff]at hx;obtain⟨x0,hx0,rfl⟩:=hx;rw[hnc k x0 hx0,List.length_map];exact k10 k x0 hx0
     ·simp only[List.getElem?_map,Option.map_eq_some_iff]at hx;obtain⟨x0,hx0,rfl⟩:=hx;rw[hnc k x0 hx0,List.getElem?_map,Option.map_eq_some_iff]at hy;obtain⟨y0,hy0,rfl⟩:=hy;exact cell (k11 k x0 hx0 j y0 hy0)
   | fn f a c=>
    simp only[Qcp,Qaq];split
    ·trivial
    ·rename_i hn;have hn':γ ∉ (PV.fn f a c).refs:=by simpa using hn
     by_cases hm:γ∈(PV.fn f a c).sref
     ·
      obtain⟨fv,cv,g1,g2,g3,g4,g5⟩:=hsl;have cap1:∀ {x:PV} {v:Value},γ ∉ x.ref1->Qbp C ρ hp w x v->Qbp C ρ hp' w x v:=by
       intro x v hx h;cases x with
       | np β k o=>
        by_cases hβ:β=γ
        ·subst hβ;obtain⟨_,b',hb,k1,k2,k3⟩:=h;rw[hγ]at k2;cases k2;exact⟨bγ,b',_,k1,pγ,k3⟩
        ·exact Qbp.move (p:=.np β k o) h hst (fun x hx=>by cases hx) (fun x hx=>by simp[PV.nref1]at hx;subst hx;exact(c0 _ hβ).weak)
       |nso β o n=>exact cell (p:=.nso β o n) h
       |mp β k o=>exact Qbp.move (p:=.mp β k o) h hst (fun x hx'=>by simp[PV.ref1]at hx' hx;subst hx';exact(c0 _ (fun e=>hx e.symm)).o) (fun x hx=>by cases hx)
       |mso β k o=>exact Qbp.move (p:=.mso β k o) h hst (fun x hx'=>by simp[PV.ref1]at hx' hx;subst hx';exact(c0 _ (fun e=>hx e.symm)).o) (fun x hx=>by cases hx)
       |rb β k o=>exact Qbp.move (p:=.rb β k o) h hst (fun x hx'=>by simp[PV.ref1]at hx' hx;subst hx';exact(c0 _ (fun e=>hx e.symm)).o) (fun x hx=>by cases hx)
       |_=>exact Qbp.move h hst (fun x hx=>by cases hx) (fun x hx=>by cases hx)
      exact⟨fv,cv,g1,g2,g3,fun k x hk=>cap1 (fun hx=>hn' (Qjf hk γ hx)) (g4 k x hk),fun k x hk=>cap1 (fun hx=>hn' (Qlw hk γ hx)) (g5 k x hk)⟩
     ·exact Qr.moveC hsl hst (fun x hx=>(c0 x (fun e=>hn' (e▸hx))).o) (fun x hx=>c0 x (fun e=>hm (e▸hx)))
   |_=>exact Qr.moveC hsl hst (fun x hx=>by cases hx) (fun x hx=>by cases hx)
def mkA:List PV->PV
 | [c]=>c
 |cs=>.agg cs
def dsn(fr:Fr)(hp:HP):Nat->PV->PV
 |0,p=>p
 | k+1,p=>match p with
  |.mso β o n=>match hp β with
   |some hb=>.sl hb.e ((hb.xs.drop o).take n)
   |none=>.undef
  |.nso γ o n=>match fr γ with
   |.nst _ e _ xs=>.sl e (((xs.drop o).take n).map fun x=>mkA (x.ncells.map (dsn fr hp k)))
   |_=>.undef
  |p=>p
def rch(fr:Fr):Nat->PV->List Nat
 |0,_=>[]
 | k+1,p=>match p with
  |.mso β _ _=>[β]
  |.nso γ o n=>match fr γ with
   |.nst _ _ _ xs=>γ::(((xs.drop o).take n).flatMap fun x=>x.ncells.flatMap (rch fr k))
   |_=>[]
  |_=>[]
def okD(fr:Fr):Nat->PV->Prop
 |0,p=>match p with
  |.undef| .mso _ _ _| .nso _ _ _=>False
  |_=>True
 | k+1,p=>match p with
  |.undef=>False
  |.mso β _ _=>isY β=false
  |.nso γ o n=>match fr γ with
   |.nst γ' _ _ xs=>γ'=γ/\isY γ=false/\o+n<=xs.length/\∀x∈(xs.drop o).take n,∀c∈x.ncells,okD fr k c
   |_=>False
  |_=>True
theorem Qah6{tmps:Array Value}(h:Q9 C ρ fr hp tmps w){β b:Nat}{hb:HB}{l:List Nat}(hB:isY β=false)(hβ:hp β=some hb)(hl:β∈l)(hρ:ρ β=some b):¬Xof C ρ (Qaj hp l) b:=by
 have hblk:=(h.own β hb hβ).blk;rw[hρ]at hblk;rintro(hx|⟨γ,hg,h1,h2,h3⟩)
 ·exact Ctx.cls_notX hblk.1 (Qt1 hB) hx
 ·obtain⟨hg0,g1,_,_,_,_,g6⟩:=Qhu h1;have:=h.inj γ β b (by simp[g1]) (by simp[hβ]) h3 hρ;subst this;exact g6 h2 hl
theorem Q9i{cs:List PV}(h:∀c∈cs,c.cells=[c]):(mkA cs).cells=cs:=by
 match cs,h with
 | [],_=>rfl
 | [c],h=>exact h c (by simp)
 |_::_::_,_=>rfl
theorem Qw2{tmps:Array Value}(h:Q9 C ρ fr hp tmps w){l:List Nat}:∀(k:Nat) {p:PV} {v:Value},Qbo C ρ hp w p v->okD fr k p->(∀β∈rch fr k p,β∈l)->Qs w (Xof C ρ (Qaj hp l)) (dsn fr hp k p) v
 |0,p,v,hr,ho,_=>by
  cases p with
  |undef=>cases ho
  |mso=>cases ho
  |nso=>cases ho
  |_=>exact Qs.freeze hr
 | k +1,p,v,hr,ho,hl=>by
  cases p with
  |undef=>cases ho
  |mso β o n=>
   obtain⟨hb,hβ⟩:∃hb,hp β=some hb:=by obtain⟨_,hb,h1,_⟩:=hr;exact⟨hb,h1⟩
   have:=Qc5.snap h hr.2 ho (hl β (by simp[rch])) hβ;simp only[dsn,hβ];exact this
  | nso γ o n=>
   simp only[okD]at ho;split at ho
   ·rename_i γ' e ty xs hγ;obtain⟨rfl,hY,ho1,ho2⟩:=ho;have hsl:=h.slots γ';rw[hγ]at hsl;obtain⟨k0,he,b,hb,cur,cap,k1,k2,k3,k4,k5,k6,k7,k8,k9,k10,k11⟩:=hsl;obtain⟨_,hb2,b2,cap2,g1,g2,rfl,g4,g5,g6⟩:=hr;rw[k2]at g1;cases g1;rw[k1]at g2;cases g2;have hmem:γ'∈l:=hl γ' (by simp[rch,hγ]);have hX:=Qah6 (l:=l) h hY k2 hmem k1;have hlt:=(Array.getElem?_eq_some_iff.1 k6).1;obtain⟨cur',ty',d1,d2⟩:=g4;rw[k6]at d1;cases d1;rw[k4]at d2;have hcc:cap=o+cap2:=Nat.eq_of_mul_eq_mul_right he (by rw[<-k7,<-d2]);have key:∀i (x:PV),((xs.drop o).take n)[i]? =some x->i<n/\xs[o+i]? =some x:=fun i x hx=>by
     have hi:i<n:=by have:=(List.getElem?_eq_some_iff.1 hx).1;simp at this;omega
     rw[List.getElem?_take_of_lt hi,List.getElem?_drop]at hx;exact⟨hi,hx⟩
    have cel:∀i (x:PV),((xs.drop o).take n)[i]? =some x->∀j (y:PV),x.ncells[j]? =some y->Qs w (Xof C ρ (Qaj hp l)) (dsn fr hp k y) (cur.getD ((o+i)*e+j) undef):=fun i x hx j y hy=>by have hxm:=List.mem_of_getElem? hx;refine Qw2 h k (k11 (o+i) x (key i x hx).2 j y hy) (ho2 x hxm y (List.mem_of_getElem? hy)) fun β hβ=>hl β ?_;simp only[rch,hγ];exact List.mem_cons_of_mem _ (List.mem_flatMap.2 ⟨x,hxm,List.mem_flatMap.2 ⟨y,List.mem_of_getElem? hy,hβ⟩⟩)
    have hnc:∀i (x:PV),((xs.drop o).take n)[i]? =some x->(mkA (x.ncells.map (dsn fr hp k))).cells=x.ncells.map (dsn fr hp k):=fun i x hx=>by refine Q9i fun c hc=>?_;obtain⟨y,hy,rfl⟩:=List.mem_map.1 hc;obtain⟨j,hj⟩:=List.getElem?_of_mem hy;exact(cel i x hx j y hj).oneCell.2.2
    simp only[dsn,hγ];have hlen:(((xs.drop o).take n).map fun x=>mkA (x.ncells.map (dsn fr hp k))).length=n:=by simp;omega
    have:=Qs.sl (w:=w) (X:=Xof C ρ (Qaj hp l)) e (((xs.drop o).take n).map fun x=>mkA (x.ncells.map (dsn fr hp k))) b (o*hb.e) cap2 (fun i j=>cur.getD ((o+i)*e+j) undef) hX hlt (by omega) (by omega)
     (fun i x hx=>by simp only[List.getElem?_map,Option.map_eq_some_iff]at hx;obtain⟨x0,hx0,rfl⟩:=hx;rw[hnc i x0 hx0,List.length_map];exact k10 _ x0 (key i x0 hx0).2)
     (fun i hi j hj=>by rw[hlen]at hi;rw[k4];have:=Qfv (i:=o+i) (e:=e) (o:=0) (j:=j) (n:=e) (cap:=cap) (by omega) (by omega) hj;rw[Nat.add_zero]at this;rw[show o*e+i*e+j=(o+i)*e+j by rw[Nat.add_mul]];exact Qbg k6 (by rw[k7];exact this))
     (fun i x hx j y hy=>by simp only[List.getElem?_map,Option.map_eq_some_iff]at hx;obtain⟨x0,hx0,rfl⟩:=hx;rw[hnc i x0 hx0,List.getElem?_map,Option.map_eq_some_iff]at hy;obtain⟨y0,hy0,rfl⟩:=hy;exact cel i x0 hx0 j y0 hy0)
    rw[hlen]at this;exact this
   ·exact ho.elim
  |_=>exact Qs.freeze hr
def dsnP(fr:Fr)(hp:HP)(k:Nat):PV->PV
 |.rag cs=>.agg (cs.map (dsn fr hp k))
 |p=>dsn fr hp k p
def rchP(fr:Fr)(k:Nat):PV->List Nat
 |.rag cs=>cs.flatMap (rch fr k)
 |p=>rch fr k p
def okDP(fr:Fr)(k:Nat):PV->Prop
 |.rag cs=>∀c∈cs,okD fr k c
 |.nso γ o n=>okD fr k (.nso γ o n)
 |_=>False
theorem Qam6(s k:Nat)(ho:okDP fr k (fr s)):Wk fr hp (upd fr s (dsnP fr hp k (fr s))) (Qaj hp (rchP fr k (fr s))):=by
 rintro C tmps w ⟨ρ,hs⟩;have hf:=hs.freeze (rchP fr k (fr s));refine⟨ρ,hf.sz,hf.ext,hf.keep,hf.own,hf.inj,fun i=>?_⟩;unfold upd;split
 ·rename_i hi;subst hi;have hsl:=hs.slots i;generalize hp0:fr i=p at *
  cases p with
  |rag cs=>obtain⟨vs,e1,h1,h2⟩:=hsl;refine⟨vs,e1,by simpa using h1,fun j x hj=>?_⟩;simp only[List.getElem?_map,Option.map_eq_some_iff]at hj;obtain⟨y,hy,rfl⟩:=hj;exact Qw2 hs k (h2 j y hy) (ho y (List.mem_of_getElem? hy)) fun β hβ=>List.mem_flatMap.2 ⟨y,List.mem_of_getElem? hy,hβ⟩
  |nso γ o n=>have:=Qw2 (l:=rch fr k (.nso γ o n)) hs k (p:=.nso γ o n) hsl ho (fun β hβ=>hβ);exact Qr.ofData (Qai.of_c this)
  |_=>cases ho
 ·exact hf.slots i
end Go.FW
namespace Go.FW
open Go
variable {C : Ctx} {ρ : Nat -> Option Nat} {fr fr' : Fr} {hp hp' : HP} {w w' : World} {K R : Qg}
def argG(args:List PV)(G:Fr):Fr:=fun s=>if s<1000000 then(args[s]?).getD .undef else G s
def PV.one2:PV->Bool
 |.mso β _ _=>isB β
 |.int .. | .bool _| .nilS=>true
 |_=>false
def Qara(fr:Fr)(s n:Nat)(cs:List PV):Prop:=∃γ i o e ty xs,fr s= .np γ i o/\fr γ= .nst γ e ty xs/\∃h:i<xs.length,o+n<=e/\ldN true n o (xs[i]'h)= .rag cs
def retH(rs:List RV)(Post:PV->Fr->HP->Prop):Qg:=fun fr hp=>∃fr' hp',Wk fr hp fr' hp'/\
 (Qdx rs (fun r=>Post r fr' (Qaj hp' (rs.flatMap (lr fr')))) fr' hp'∨(∃s,rs=[.t s]/\Post (fr' s) fr' hp')∨(∃s t,rs=[.t s,.t t]/\(fr' s).one2=true/\(fr' t).one2=true/\Post (.rtp [fr' s,fr' t]) fr' hp')∨∃s n b cs,rs=[.cell s n true,b]/\lr fr' b=[]/\okR fr' hp' b/\Qara fr' s n cs/\Post (.rtq cs (rvP fr' hp' b)) fr' hp')
theorem Qah7{rs:List RV}{Post:PV->Fr->HP->Prop}:KM (retH rs Post) (retH rs Post):=by rintro f f' hp hf ⟨fr',hp',h1,h2⟩;exact⟨fr',hp',hf.wk.trans h1,h2⟩
theorem Qp{rs:List RV}{Post:PV->Fr->HP->Prop}:Qd6 (retH rs Post) []:=⟨Qah7,.nil⟩
structure Q52(C:Ctx)(hp:HP)(hp0:HP)(gv:Nat->Option Nat):Prop where
 g:∀β γ,gv β=some γ->∃hb,hp γ=some hb/\isB β=true/\(isR β=true->hp0 β=some ⟨hb.e,hb.ty,hb.xs,true⟩)/\(isR β=false->hp0 β=some hb/\hb.fz=false/\isB γ=true/\(isY β=false->isY γ=false))
 a:∀β,hp0 β≠none->∃γ,gv β=some γ
 i:∀β β' γ,gv β=some γ->gv β'=some γ->β=β'
def gn(gv:Nat->Option Nat):Nat->Option Nat:=fun β=>if isR β=true then none else gv β
theorem Qah8{gv:Nat->Option Nat}{β γ:Nat}(h:gn gv β=some γ):isR β=false/\gv β=some γ:=by
 unfold gn at h;split at h
 ·cases h
 ·rename_i hr;exact⟨by simpa using hr,h⟩
theorem Q52.n{C:Ctx}{hp hp0:HP}{gv:Nat->Option Nat}(hh:Q52 C hp hp0 gv)(β γ:Nat)(h:gn gv β=some γ):∃hb,hp0 β=some hb/\hp γ=some hb/\hb.fz=false/\isB β=true/\isB γ=true/\(isY β=false->isY γ=false):=by obtain⟨hr,h⟩:=Qah8 h;obtain⟨hb,h1,h2,_,h4⟩:=hh.g β γ h;obtain⟨k1,k2,k3,k4⟩:=h4 hr;exact⟨hb,k1,h1,k2,h2,k3,k4⟩
theorem Q52.s{C:Ctx}{hp hp0:HP}{gv:Nat->Option Nat}(hh:Q52 C hp hp0 gv)(β γ:Nat)(h:gv β=some γ):∃hb hb',hp γ=some hb/\hp0 β=some hb'/\hb'.e=hb.e/\hb'.ty=hb.ty/\hb'.xs=hb.xs/\(hb'.fz=false->hb=hb'/\isR β=false)/\(isR β=true->hb'.fz=true)/\isB β=true:=by
 obtain⟨hb,h1,h2,h3,h4⟩:=hh.g β γ h;cases hr:isR β with
 |true=>exact⟨hb,_,h1,h3 hr,rfl,rfl,rfl,(fun h=>by cases h),fun _=>rfl,h2⟩
 |false=>obtain⟨k1,k2,_⟩:=h4 hr;exact⟨hb,hb,h1,k1,rfl,rfl,rfl,(fun _=>⟨rfl,rfl⟩),(fun h=>by cases h),h2⟩
end Go.FW
namespace Go.FW
open Go
variable {C : Ctx} {R : Qg} {fr : Fr} {hp : HP} {K : Qg}
end Go.FW
