/- Part 2 of the proof of DiscoverHolds: X1, X10, X11, X12, X13, DK, FwB, FwC, FwD, FwE, FwF, FwG, FwH, FwI, FwJ. Own lemmas; no conditions. -/
import Derived.Test.YtmkijkjaeljieaaGreatDiscoverHoldsPart1
import Derived.WalkKit
import Derived.Shelf.Abstract
import Derived.OwnWalk
import Derived.OwnWalkIn
import Derived.TacticsInMore
import Derived.LoopNIn
import Derived.LoopIn
import Derived.Test.YtmkijkjaeljieaaGreatProg
import Derived.Laws.EntriesVeiled
import Derived.Laws.Rows
import Derived.Lib.SliceRun
import Derived.Deep.Onto
import Derived.Orders
import Derived.Laws.StructEq
set_option maxHeartbeats 1000000
set_option linter.unusedSimpArgs false
set_option linter.unusedVariables false
set_option linter.unnecessarySimpa false
set_option maxRecDepth 100000
namespace Go.Proofs.YtmkijkjaeljieaaGreat
open Tryz
open Go Go.FW Go.RowKit Go.Shelf
attribute [local go_sem] Oper.semAt_some
theorem KJ(m:Nat)(w:World)(a b c:Int):CallsIn Fence.wide m Tryz.prog 27 #[.int .i64 a,.int .i64 b,.int .i64 c] w fun e w'=>
  e= .returned (.func (.func 56) #[] #[.pointer (some ⟨w.heap.size+1+1,0,none⟩),.pointer (some ⟨w.heap.size,0,none⟩),.pointer (some ⟨w.heap.size+1,0,none⟩)])/\
  w'=((w.alloc (.cells #[.int .i64 a] 3)).alloc (.cells #[.int .i64 b] 3)).alloc (.cells #[.int .i64 c] 3):=by
 refine callsIn_of_wp func27 rfl trivial ?_ rfl;simp only[Tryz.ntmps27,KaV,Kaz,KaR,Nat.reduceAdd,Nat.reduceSub,Kbc,Kbd,Kbr,Kbe,Kau,Kaw]
 gi_wp2
 go_ret
 exact⟨rfl,rfl⟩
theorem jL(k:Nat):Fence.wide.depth.isSome=true->1<=k:=fun h=>by cases h
def fy(n:Nat):Nat->Nat->List (List Int)
 |0,_=>[[]]
 |k+1,a=>(List.range' a (n-a)).flatMap fun i=>(fy n k (i+1)).map ((i:Int):: ·)
theorem LK(n:Nat):∀(k a:Nat)(c:List Int),c∈fy n k a->c.length=k
 |0,_,c,h=>by simp[fy]at h;subst h;rfl
 |k+1,a,c,h=>by simp only[fy,Kaq,KaA]at h;obtain⟨i,_,d,hd,rfl⟩:=h;simp[LK n k _ d hd]
theorem aos:(Tryz.prog.info? 3).map (fun i=>(i.zero,i.size,i.bytes))=some (some (.int .i64 0),1,8):=by kernel_rfl
theorem Gt:Tryz.prog.follows .mixedOrders=true:=by kernel_rfl
abbrev eI:TypeId:=3
theorem Q9f(n a bn bf bp:Nat)(w:World)(hn:Boxed w bn eI (.int .i64 0)):u0 Fence.wide Tryz.prog 56 #[.pointer (some ⟨bn,0,none⟩),.pointer (some ⟨bf,0,none⟩),.pointer (some ⟨bp,0,none⟩)] eI (fun b=>b=bn∨b=bf∨b=bp) (fy n 0 a) w:=by
 intro m l J Y0 W hW hJ pV hY h0;have mK:Boxed W bn eI (.int .i64 0):=(hW.block bn hn.lt (.inl rfl)).trans hn;have eh:=mK.lt;refine callsIn_of_wp_marks func56 rfl trivial ?_ rfl;simp only[Tryz.ntmps56,KaV,Kaz,KaR,Nat.reduceAdd,Nat.reduceSub,Kbc,Kbd,Kbr,Kbe,Kau,Kaw];have cN:=mK.alloc (.cells #[.func (.yield l) #[] #[]] 121);have hc:=cN.cell;have hk:bT Y0 W (W.alloc (.cells #[.func (.yield l) #[] #[]] 121)):=bT.alloc _ _ _;obtain⟨fn,tmps,assign,body,hy,hR⟩:=hY (m-1) [] [] [] (.slice none 0 0) Y0 _ rfl (hJ.kept _ _ _ _ h0 hk) ⟨rfl,.inl ⟨rfl,rfl⟩⟩ (fun b hb=>by cases hb)
 gi_wp2_with (refine⟨jL _,?_⟩;refine hR.mono ?_;rintro e W' ⟨rfl,Y',hJ',hO⟩)
 refine⟨_,results_none rfl _ _ _,⟨_,rfl⟩,Y',hJ',fun b hb=>?_,?_⟩
 ·rcases hO.own b hb with h|h|h
  ·exact .inl h
  ·exact .inr (.inl (by simp at h;omega))
  ·cases h
 ·exact(Ext.fo Y0 W _).trans hO.ext
structure aqi(n k a:Nat)(W:World)(J:List (List Int)->(Nat->Prop)->World->Prop)(Y0:Nat->Prop)(yv:Value)(ba:Nat)(ds:List Deferred)(Y:Nat->Prop)(i:Nat)(W':World):Prop where
 j:J ((List.range' a (i-a)).flatMap fun i=>(fy n k (i+1)).map ((i:Int):: ·)) Y W'
 o:kJ Y0 none W Y W'
 bx:Boxed W' W.heap.size 121 yv
 nb:¬Y W.heap.size
 na:¬Y ba
 la:W.heap.size<ba
 ms:eB W.heap.size ds W'.heap.size W'
 nm:∀b,eB.bV ds b->¬Y b
def aaY:Value->Nat
 |.pointer (some a)=>a.block
 |_=>0
theorem Q9g(n k a bn bf bp:Nat)(w:World)(hn:Boxed w bn eI (.int .i64 (k+1:Nat)))(hf:Boxed w bf eI (.int .i64 (a:Nat)))(hp:Boxed w bp eI (.int .i64 (n:Nat)))(xy:k<100)(NR:n<100)(I9:a<200)
  (ih:∀(a bn bf bp:Nat)(w:World),Boxed w bn eI (.int .i64 (k:Nat))->Boxed w bf eI (.int .i64 (a:Nat))->Boxed w bp eI (.int .i64 (n:Nat))->a<200->u0 Fence.wide Tryz.prog 56 #[.pointer (some ⟨bn,0,none⟩),.pointer (some ⟨bf,0,none⟩),.pointer (some ⟨bp,0,none⟩)] eI (fun b=>b=bn∨b=bf∨b=bp) (fy n k a) w):
  u0 Fence.wide Tryz.prog 56 #[.pointer (some ⟨bn,0,none⟩),.pointer (some ⟨bf,0,none⟩),.pointer (some ⟨bp,0,none⟩)] eI (fun b=>b=bn∨b=bf∨b=bp) (fy n (k+1) a) w:=by
 intro m l J Y0 W hW hJ pV hY h0;have mK:Boxed W bn eI (.int .i64 (k+1:Nat)):=(hW.block bn hn.lt (.inl rfl)).trans hn;have XS:Boxed W bf eI (.int .i64 (a:Nat)):=(hW.block bf hf.lt (.inr (.inl rfl))).trans hf;have mL:Boxed W bp eI (.int .i64 (n:Nat)):=(hW.block bp hp.lt (.inr (.inr rfl))).trans hp;have l1:=mK.lt;have l2:=XS.lt;have l3:=mL.lt;refine callsIn_of_wp_marks func56 rfl trivial ?_ rfl;simp only[Tryz.ntmps56,KaV,Kaz,KaR,Nat.reduceAdd,Nat.reduceSub,Kbc,Kbd,Kbr,Kbe,Kau,Kaw];have c1:=(mK.alloc (.cells #[.func (.yield l) #[] #[]] 121)).cell;have c2:=(XS.alloc (.cells #[.func (.yield l) #[] #[]] 121)).cell;have ko:¬((k+1:Nat):Int)=0:=by omega
 have ao:=hJ.lt _ _ _ h0;obtain⟨yv,oW⟩:∃yv,yv=Value.func (.yield l) #[] #[]:=⟨_,rfl⟩
 gi_wp2
 refine wpIn_loop (fun a' W'=>∃(i ba:Nat)(ds:List Deferred)(Y:Nat->Prop)(u6 u7 u8 u9 uj uk um uo uq sR u16 ur uu uv uw ux uy uz sS sT sU sV sW sX sY sZ:Value),(a<=i/\i<300/\(i<=n∨i=a)/\Boxed W' ba eI (.int .i64 (i:Nat))/\aqi n k a W J Y0 yv ba ds Y i W')/\a'=⟨#[.func (.yield l) #[] #[],.pointer (some ⟨bn,0,none⟩),.pointer (some ⟨bf,0,none⟩),.pointer (some ⟨bp,0,none⟩),.pointer (some ⟨W.heap.size,0,none⟩),.pointer (some ⟨ba,0,none⟩),u6,u7,u8,u9,uj,uk,um,uo,uq,sR,u16,ur,uu,uv,uw,ux,uy,uz,sS,sT,sU,sV,sW,sX,sY,sZ],ds⟩)
  (fun a' W'=>n-(intOf ((W'.cell? ⟨aaY (a'.tmps.getD 5 undef),0,none⟩).getD undef)).toNat) ?_ ?_
 ·(repeat apply Exists.intro)
  refine⟨⟨Kae _,by omega,.inr rfl,?_,?_⟩,rfl⟩
  ·have:=Boxed.new (W.alloc (.cells #[yv] 121)) eI (.int .i64 (a:Nat));simp only[Kbg]at this;subst oW;exact this
  ·subst oW;refine⟨?_,⟨fun b hb=>.inl hb,(Ext.fo Y0 W _).trans (Ext.fo Y0 _ _)⟩,(Boxed.new W _ _).alloc _,fun h=>by have:=ao _ h;omega,fun h=>by have:=ao _ h;omega,by omega,trivial,fun _ h=>h.elim⟩;rw[Kbw];exact hJ.kept _ _ _ _ h0 ((bT.alloc Y0 W _).trans (bT.alloc Y0 _ _))
 ·rintro a' W' ⟨i,ba,ds,Y,u6,u7,u8,u9,uj,uk,um,uo,uq,sR,u16,ur,uu,uv,uw,ux,uy,uz,sS,sT,sU,sV,sW,sX,sY,sZ,⟨Jj,Ze,oN,oI,hI⟩,rfl⟩
  try dsimp only
  have at9:Boxed W' bn eI (.int .i64 (k+1:Nat)):=(hI.o.ext.block bn l1 (fun h=>pV _ h (.inl rfl))).trans mK;have Nj:Boxed W' bp eI (.int .i64 (n:Nat)):=(hI.o.ext.block bp l3 (fun h=>pV _ h (.inr (.inr rfl)))).trans mL;have q1:=at9.cell;have q2:=Nj.cell;have q3:=oI.cell
  gi_wp2_with (refine⟨trivial,jL _,?_⟩;refine(KJ _ _ _ _ _).mono ?_;rintro e w' ⟨rfl,rfl⟩)
  ·obtain⟨W2,gL⟩:∃W2,W2=((W'.alloc (.cells #[.int .i64 ((i:Int)+1)] 3)).alloc (.cells #[.int .i64 (n:Int)] 3)).alloc (.cells #[.int .i64 (k:Int)] 3):=⟨_,rfl⟩
   have Ng:Boxed W2 (W'.heap.size+1+1) eI (.int .i64 (k:Nat)):=by have:=Boxed.new ((W'.alloc (.cells #[.int .i64 ((i:Int)+1)] 3)).alloc (.cells #[.int .i64 (n:Int)] 3)) 3 (.int .i64 (k:Int));simp only[Kbg]at this;rw[gL];exact this
   have Ev:Boxed W2 W'.heap.size eI (.int .i64 (i+1:Nat)):=by rw[gL];exact((Boxed.new W' 3 _).alloc _).alloc _
   have fK:Boxed W2 (W'.heap.size+1) eI (.int .i64 (n:Nat)):=by have:=Boxed.new (W'.alloc (.cells #[.int .i64 ((i:Int)+1)] 3)) 3 (.int .i64 (n:Int));simp only[Kbg]at this;rw[gL];exact this.alloc _
   have iy:∀Z,bT Z W' W2:=fun Z=>by rw[gL];exact((bT.alloc Z _ _).trans (bT.alloc Z _ _)).trans (bT.alloc Z _ _)
   have vC:∀Z,Ext Z W' W2:=fun Z=>by rw[gL];exact((Ext.fo Z _ _).trans (Ext.fo Z _ _)).trans (Ext.fo Z _ _)
   have dF:W2.heap.size=W'.heap.size+3:=by rw[gL];simp
   rw[<-gL];clear gL;have I5:=hJ.lt _ _ _ hI.j;obtain⟨Ob,iu⟩:∃Ob:Nat->Prop,∀b,Ob b↔b=ba∨b=W.heap.size∨eB.bV ds b:=⟨_,fun _=>Iff.rfl⟩
   have at5:Boxed W2 ba eI (.int .i64 (i:Nat)):=((iy (· =ba)).block _ oI.lt rfl).trans oI;have Nl:Boxed W2 W.heap.size 121 yv:=((iy (· =W.heap.size)).block _ hI.bx.lt rfl).trans hI.bx;have NM:eB W.heap.size ds W'.heap.size W2:=hI.ms.kept fun b hb=>(iy (eB.bV ds)).block _ (hI.ms.lt hb).2.1 hb;have Em:∀b,Ob b->b<W'.heap.size:=fun b hb=>by
    rcases(iu b).1 hb with rfl|rfl|h
    ·exact oI.lt
    ·exact hI.bx.lt
    ·exact(hI.ms.lt h).2.1
   have M6:∀b,Ob b->¬Y b:=fun b hb=>by
    rcases(iu b).1 hb with rfl|rfl|h
    ·exact hI.na
    ·exact hI.nb
    ·exact hI.nm b h
   refine L7 rfl rfl (gf:=56) (lb:= #[.pointer (some ⟨W'.heap.size+1+1,0,none⟩),.pointer (some ⟨W'.heap.size,0,none⟩),.pointer (some ⟨W'.heap.size+1,0,none⟩)]) rfl trivial (enters_of func56 (by kernel_rfl) rfl)
    (ih (i+1) _ _ _ W2 Ng Ev fK (by omega)) (bT.refl _ _) (fun b hb=>by rcases hb with rfl|rfl|rfl<;>omega) rfl
    (fun pre Yi X=>∃Y1,(∀b,Yi b↔Y1 b∨Ob b)/\(∀b,Ob b->¬Y1 b)/\(∀b,Ob b->b<X.heap.size)/\J (((List.range' a (i-a)).flatMap fun i=>(fy n k (i+1)).map ((i:Int):: ·))++pre.map ((i:Int):: ·)) Y1 X/\Boxed X ba eI (.int .i64 (i:Nat))/\Boxed X W.heap.size 121 yv/\eB W.heap.size ds W'.heap.size X)
    ⟨?_,?_⟩ (fun b=>Y b∨Ob b) (fun b hb hB=>?_) ⟨Y,fun _=>Iff.rfl,M6,fun b hb=>(by have:=Em b hb;omega),?_,at5,Nl,NM⟩
    (fun v=>{ tmps:= #[.func (.yield l) #[] #[],.pointer (some ⟨bn,0,none⟩),.pointer (some ⟨bf,0,none⟩),.pointer (some ⟨bp,0,none⟩),.pointer (some ⟨W.heap.size,0,none⟩),.pointer (some ⟨ba,0,none⟩),v,u7,u8,u9,uj,uk,.int .i64 (i:Int),.int .i64 (n:Int),.bool true,sR,u16,.int .i64 (i:Int),.int .i64 ((i:Int)+1),.int .i64 (n:Int),.int .i64 ((k:Int)+1),.int .i64 (k:Int),.func (.func 56) #[] #[.pointer (some ⟨W'.heap.size+1+1,0,none⟩),.pointer (some ⟨W'.heap.size,0,none⟩),.pointer (some ⟨W'.heap.size+1,0,none⟩)],v,sS,sT,sU,sV,sW,sX,sY,sZ],defers:=[] }) ?assign ?body ?done
   ·rintro s Yi X X' ⟨Y1,h1,h2,h3,h4,h5,h6,h7⟩ hk;have y8:∀b,Ob b->X'.heap[b]? =X.heap[b]? :=fun b hb=>hk.block b (h3 b hb) ((h1 b).2 (.inr hb));exact⟨Y1,h1,h2,fun b hb=>KaE (h3 b hb) hk.size,hJ.kept _ _ _ _ h4 (hk.mono fun b _ hb=>(h1 b).2 (.inl hb)),(y8 _ ((iu _).2 (.inl rfl))).trans h5,(y8 _ ((iu _).2 (.inr (.inl rfl)))).trans h6,h7.kept fun b hb=>y8 b ((iu b).2 (.inr (.inr hb)))⟩
   ·rintro s Yi X ⟨Y1,h1,h2,h3,h4,h5,h6,h7⟩ b hb;rcases(h1 b).1 hb with h|h
    ·exact hJ.lt _ _ _ h4 b h
    ·exact h3 b h
   ·have:b<W'.heap.size:=by
     rcases hb with h|h
     ·exact I5 b h
     ·exact Em b h
    rcases hB with rfl|rfl|rfl<;>omega
   ·simp only[KbG,Kak];exact hJ.kept _ _ _ _ hI.j (iy _)
   case assign=>
    intro l2 v X K hK
    gi_wp2
    exact hK
   case body=>
    rintro l2 pre c m8 v Yi X mV hsX ⟨Y1,h1,h2,h3,h4,h5,h6,h7⟩ hv zA;have cF:c.length=k:=LK n k (i+1) c (by rw[mV];simp)
    gi_wp2
    rename_i K0 Ej;have kS:i<n:=by omega
    have Fp:fy n (k+1) a=((List.range' a (i-a)).flatMap (fun i=>(fy n k (i+1)).map ((i:Int):: ·))++pre.map ((i:Int):: ·))++((i:Int)::c)::(m8.map ((i:Int):: ·)++(List.range' (i+1) (n-i-1)).flatMap (fun i=>(fy n k (i+1)).map ((i:Int):: ·))):=by
     have e1:List.range' a (n-a)=List.range' a (i-a)++i::List.range' (i+1) (n-i-1):=by rw[show n-a=(i-a)+(n-i)by omega,<-List.range'_append_1,show a+(i-a)=i by omega,show n-i=(n-i-1)+1 by omega,List.range'_succ];simp
     simp only[fy];rw[e1,Kcj,KaC,mV];simp[Ka8]
    obtain⟨i0,sr,z0,z1,z2⟩:=info_parts aos;have hX3:jE eI (.slice (some ⟨X.heap.size,0,none⟩) 1 1) [(i:Int)] (X.drew.alloc (.cells #[.int .i64 (i:Int)] eI)):=⟨rfl,.inr ⟨X.heap.size,1,_,rfl,Ka6 _,World.alloc_heap_new _ _,Kae _,by decide,rfl,rfl⟩⟩
    have hv3:jE eI v c (X.drew.alloc (.cells #[.int .i64 (i:Int)] eI)):=hv.kept fun b hb=>by obtain⟨cur,h⟩:=hv.lt hb;exact Below.heap_alloc X.drew _ b (Kan.1 h).1
    obtain⟨v',W4,hr4,N2,qb,Ev⟩:=Q0h (P:=Tryz.prog) (t:=51) (ty:=51) Tryz.underlying51 sr z0 z1 z2 hX3 (by simp) hv3 (by simp;omega);have Jh:bT Y1 X W4:=⟨qb.os,qb.tape,qb.output,by have:=qb.size;simp at this;omega,fun b hb hY=>(qb.block b (by simp;omega) (by simp[Value.ownBlock];omega)).trans (Below.heap_alloc X.drew _ b hb)⟩
    have iw:Ext Q5 X W4:=⟨qb.os,qb.tape,qb.output,by have:=qb.size;simp at this;omega,fun b hb hY=>(qb.block b (by simp;omega) (by simp[Value.ownBlock];omega)).trans (Below.heap_alloc X.drew _ b hb)⟩
    have hJ4:=hJ.kept _ _ _ _ h4 Jh;have tN:=hJ.lt _ _ _ h4;have Od:∀b,v'.ownBlock=some b->X.heap.size<=b:=fun b hb=>by
     rcases Ev with h|h
     ·rw[h]at hb;simp[Value.ownBlock]at hb;omega
     ·rw[h]at hb;simp at hb;omega
    have avT:∀b,v'.ownBlock=some b->¬Y1 b/\W.heap.size<=b:=fun b hb=>⟨fun hY=>(by have:=tN b hY;have:=Od b hb;omega),(by have:=Od b hb;have:=hI.o.ext.size;omega)⟩
    refine Hn Gt 32 (fun j=>match j with|0=>yv|1=>.int .i64 (i:Int)|2=>.slice (some ⟨X.heap.size,0,none⟩) 1 1|3=>v|4=>v'|5=>.bool true|6=>.bool false|_=>undef) [(4,.pointer (some ⟨W.heap.size,0,none⟩)),(5,.pointer (some ⟨ba,0,none⟩)),(6,v)]
     (fun q w=>(q 5=true/\∃Y',J (((List.range' a (i-a)).flatMap (fun i=>(fy n k (i+1)).map ((i:Int):: ·))++pre.map ((i:Int):: ·))++[(i:Int)::c]) Y' w/\kJ Y1 v'.ownBlock W4 Y' w)∨(q 5=false/\((q 4=true/\w=W4)∨(q 4=false/\q 2=true/\w=X.drew.alloc (.cells #[.int .i64 (i:Int)] eI))∨(q 4=false/\q 2=false/\w=X.drew)))) (by decide) ?_ ?_ ?_
    ·exact⟨rfl,rfl,by simp,fun _ _ _ h=>(by cases h),fun _ h=>(by cases h),.inr ⟨rfl,.inr (.inr ⟨rfl,rfl,rfl⟩)⟩⟩
    ·intro q j hj hq aB a3 w3 hT;have c5:q 5=true->q 0=true/\q 4=true:=fun h=>⟨hT.cl 5 h 0 (by decide),hT.cl 5 h 4 (by decide)⟩
     have c4:q 4=true->q 2=true/\q 3=true:=fun h=>⟨hT.cl 4 h 2 (by decide),hT.cl 4 h 3 (by decide)⟩
     have c2:q 2=true->q 1=true:=fun h=>hT.cl 2 h 1 (by decide);have f4:=hT.fixed (4,.pointer (some ⟨W.heap.size,0,none⟩)) (by simp);have f5:=hT.fixed (5,.pointer (some ⟨ba,0,none⟩)) (by simp);have f6:=hT.fixed (6,v) (by simp);have g1:q 1=true->a3.tmps[25]?.getD undef= .int .i64 (i:Int):=fun h=>hT.slot 1 _ 25 h rfl rfl;have g2:q 2=true->a3.tmps[26]?.getD undef= .slice (some ⟨X.heap.size,0,none⟩) 1 1:=fun h=>hT.slot 2 _ 26 h rfl rfl;have g3:q 3=true->a3.tmps[27]?.getD undef=v:=fun h=>hT.slot 3 _ 27 h rfl rfl;have g0:q 0=true->a3.tmps[24]?.getD undef=yv:=fun h=>hT.slot 0 _ 24 h rfl rfl;have g4:q 4=true->a3.tmps[28]?.getD undef=v':=fun h=>hT.slot 4 _ 28 h rfl rfl;have g5:q 5=true->a3.tmps[29]?.getD undef= .bool true:=fun h=>hT.slot 5 _ 29 h rfl rfl;have hw5:q 5=false->w3.cell? ⟨W.heap.size,0,none⟩=some yv/\w3.cell? ⟨ba,0,none⟩=some (.int .i64 (i:Int)):=fun h=>by
      rcases hT.wd with⟨h',_⟩|⟨_,hw⟩
      ·rw[h]at h';cases h'
      ·have b1:Boxed X.drew W.heap.size 121 yv:=h6;have b2:Boxed X.drew ba eI (.int .i64 (i:Nat)):=h5;rcases hw with⟨_,rfl⟩|⟨_,_,rfl⟩|⟨_,_,rfl⟩
       ·exact⟨((b1.alloc _).kept qb (by simp[Value.ownBlock];have:=h6.lt;omega)).cell,((b2.alloc _).kept qb (by simp[Value.ownBlock];have:=h5.lt;omega)).cell⟩
       ·exact⟨(b1.alloc _).cell,(b2.alloc _).cell⟩
       ·exact⟨b1.cell,b2.cell⟩
     match j,hj with
     | 0,_=>
      have e5:q 5=false:=by cases h:q 5 with|true=>rw[(c5 h).1]at hq;cases hq|false=>rfl
      have ce:=(hw5 e5).1;refine hT.val (w':=w3) aB (by rfl) rfl rfl rfl (fun c h=>by cases h) ?_ ?_
      ·have:a3.tmps[4]?.getD undef= .pointer (some ⟨W.heap.size,0,none⟩):=f4;simp[execOp,go_sem,this,ce]
      ·simpa using hT.wd
     | 1,_=>
      have e2:q 2=false:=by cases h:q 2 with|true=>rw[c2 h]at hq;cases hq|false=>rfl
      have e4:q 4=false:=by cases h:q 4 with|true=>rw[(c4 h).1]at e2;cases e2|false=>rfl
      have e5:q 5=false:=by cases h:q 5 with|true=>rw[(c5 h).2]at e4;cases e4|false=>rfl
      have ce:=(hw5 e5).2;refine hT.val (w':=w3) aB (by rfl) rfl rfl rfl (fun c h=>by cases h) ?_ ?_
      ·have:a3.tmps[5]?.getD undef= .pointer (some ⟨ba,0,none⟩):=f5;simp[execOp,go_sem,this,ce]
      ·simpa using hT.wd
     | 2,_=>
      have e4:q 4=false:=by cases h:q 4 with|true=>rw[(c4 h).1]at hq;cases hq|false=>rfl
      have e5:q 5=false:=by cases h:q 5 with|true=>rw[(c5 h).2]at e4;cases e4|false=>rfl
      have hw:w3=X.drew:=by
       rcases hT.wd with⟨h',_⟩|⟨_,⟨h',_⟩|⟨_,h',_⟩|⟨_,_,h'⟩⟩
       ·rw[e5]at h';cases h'
       ·rw[e4]at h';cases h'
       ·rw[hq]at h';cases h'
       ·exact h'
      subst hw;refine hT.val (w':=X.drew.alloc (.cells #[.int .i64 (i:Int)] eI)) aB (by rfl) rfl rfl rfl (fun c h=>by cases h) ?_ ?_
      ·have:a3.tmps[25]?.getD undef= .int .i64 (i:Int):=g1 (aB 1 (by decide));simp[execOp,go_sem,this]
      ·exact .inr ⟨by simp[e5],.inr (.inl ⟨by simp[e4],by simp,rfl⟩)⟩
     | 3,_=>
      refine hT.val (w':=w3) aB (by rfl) rfl rfl rfl (fun c h=>by cases h) ?_ ?_
      ·have:a3.tmps[6]?.getD undef=v:=f6;simp[execOp,go_sem,this]
      ·simpa using hT.wd
     | 4,_=>
      have e5:q 5=false:=by cases h:q 5 with|true=>rw[(c5 h).2]at hq;cases hq|false=>rfl
      have q2:=aB 2 (by decide);have hw:w3=X.drew.alloc (.cells #[.int .i64 (i:Int)] eI):=by
       rcases hT.wd with⟨h',_⟩|⟨_,⟨h',_⟩|⟨_,_,h'⟩|⟨_,h',_⟩⟩
       ·rw[e5]at h';cases h'
       ·rw[hq]at h';cases h'
       ·exact h'
       ·rw[q2]at h';cases h'
      subst hw;have x1:a3.eval (.tmp 26)= .slice (some ⟨X.heap.size,0,none⟩) 1 1:=by rw[<-g2 q2];simp[Act.eval]
      have x2:a3.eval (.tmp 27)=v:=by rw[<-g3 (aB 3 (by decide))];simp[Act.eval]
      exact hT.app aB (by rfl) rfl rfl rfl x1 x2 hr4 (.inr ⟨by simp[e5],.inl ⟨by simp,rfl⟩⟩)
     | 5,_=>
      have q4:=aB 4 (by decide);have hw:w3=W4:=by
       rcases hT.wd with⟨h',_⟩|⟨_,⟨_,h'⟩|⟨h',_⟩|⟨h',_⟩⟩
       ·rw[hq]at h';cases h'
       ·exact h'
       ·rw[q4]at h';cases h'
       ·rw[q4]at h';cases h'
      subst hw;have x1:a3.eval (.tmp 24)= .func (.yield l) #[] #[]:=by rw[<-oW,<-g0 (aB 0 (by decide))];simp[Act.eval]
      have x2:a3.eval (.tmp 28)=v':=by rw[<-g4 q4];simp[Act.eval]
      refine hT.yld aB rfl (by rfl) rfl rfl rfl rfl x1 x2 (hY 0 _ _ _ v' Y1 w3 Fp hJ4 N2 avT) fun e w' he=>?_;exact⟨he.1,.inl ⟨by simp,he.2⟩⟩
     | 6,_=>
      refine hT.val (w':=w3) aB (by rfl) rfl rfl rfl (fun c h=>by cases h) ?_ ?_
      ·have:a3.tmps[29]?.getD undef= .bool true:=g5 (aB 5 (by decide));simp[execOp,go_sem,this]
      ·simpa using hT.wd
     |j+7,hj=>exact absurd hj (by simp)
    ·intro q a3 w3 hq hT;obtain⟨Y',aT,dv⟩:=hT.wd.elim (fun h=>h.2) (fun h=>by rw[hq 5 (by decide)]at h;cases h.1);have g6:a3.tmps[30]?.getD undef= .bool false:=hT.slot 6 _ 30 (hq 6 (by decide)) rfl rfl;refine Ej a3 w3 (wpIn_cond_false (show a3.eval (.tmp 30)= .bool false by simp[Act.eval,g6]) (wpIn_skip ?_));have N2:X.heap.size<=W4.heap.size:=iw.size;have bC:∀b,Ob b->w3.heap[b]? =X.heap[b]? :=fun b hb=>(dv.ext.block b (KaE (h3 b hb) N2) (h2 b hb)).trans (iw.block b (h3 b hb) id);have Es:∀b,Y' b->Y1 b∨X.heap.size<=b:=fun b hb=>by
      rcases dv.own b hb with h|h|h
      ·exact .inl h
      ·exact .inr (by omega)
      ·exact .inr (Od b h)
     refine⟨fun b=>Y' b∨Ob b,⟨Y',fun _=>Iff.rfl,fun b hb h=>?_,fun b hb=>(by have:=h3 b hb;have:=dv.ext.size;omega),?_,(bC _ ((iu _).2 (.inl rfl))).trans h5,(bC _ ((iu _).2 (.inr (.inl rfl)))).trans h6,h7.kept fun b hb=>bC b ((iu b).2 (.inr (.inr hb)))⟩,⟨fun b hb=>?_,?_⟩⟩
     ·rcases Es b h with h|h
      ·exact h2 b hb h
      ·have:=h3 b hb;omega
     ·rw[KbS,<-List.append_assoc];exact aT
     ·rcases hb with h|h
      ·rcases Es b h with h|h
       ·exact .inl ((h1 b).2 (.inl h))
       ·exact .inr (.inl h)
      ·exact .inl ((h1 b).2 (.inr h))
     ·exact(iw.mono fun _ _ h=>h.elim).trans (dv.ext.mono fun b _ h=>(h1 b).2 (.inl h))
   case done=>
    rintro D Yi X hD IT ⟨Y1,h1,h2,h3,h4,h5,h6,h7⟩ aS vt;have q4:=h5.cell;have q5:=aS.ext.size
    gi_wp2
    have XF:=hJ.lt _ _ _ h4;have hOX:∀b,Ob b->b<X.heap.size:=h3;have kS:i<n:=by omega
    refine⟨⟨i+1,X.heap.size,{ target:=.collected D,args:= #[] }::ds,Y1,?_⟩,?_⟩
    ·(repeat apply Exists.intro)
     refine⟨⟨by omega,by omega,.inl (by omega),Boxed.new X _ _,⟨?_,⟨fun b hb=>?_,?_⟩,h6.alloc _,h2 _ ((iu _).2 (.inr (.inl rfl))),fun h=>(by have:=XF _ h;omega),(by have:=hI.o.ext.size;omega),⟨D,rfl,(by have:=hI.o.ext.size;omega),(by simp;have:=(Kan.1 vt).1;omega),?_,?_⟩,?_⟩⟩,rfl⟩
     ·have e1:i+1-a=(i-a)+1:=by omega
      rw[e1,List.range'_1_concat,Kcj,show a+(i-a)=i by omega];simp only[KaC,KaN,Kak];exact hJ.kept _ _ _ _ h4 (bT.alloc _ _ _)
     ·rcases aS.own b ((h1 b).2 (.inl hb))with(h|h)|h|h
      ·exact hI.o.own b h
      ·exact absurd hb (h2 b h)
      ·have:=hI.o.ext.size;exact .inr (.inl (by omega))
      ·cases h
     ·refine((hI.o.ext.trans (vC _)).trans' aS.ext fun b hb h=>?_).trans (Ext.fo _ _ _);rcases h with h|h
      ·rcases hI.o.own b h with h|h|h
       ·exact h
       ·omega
       ·cases h
      ·rcases(iu b).1 h with rfl|rfl|h
       ·have:=hI.la;omega
       ·omega
       ·have:=(hI.ms.lt h).1;omega
     ·exact(Below.heap_alloc X _ D (Kan.1 vt).1).trans vt
     ·exact(h7.kept fun b hb=>Below.heap_alloc X _ b (hOX b ((iu b).2 (.inr (.inr hb))))).hi (by omega)
     ·rintro b (hb|hb)
      ·cases hb;exact fun h=>IT ((h1 D).2 (.inl h))
      ·exact h2 b ((iu b).2 (.inr (.inr hb)))
    ·have c1:=(Boxed.new X 3 (.int .i64 ((i:Int)+1))).cell;simp only[KaL,List.getElem?_toArray,List.getElem?_cons_succ,KcP,Ka9,aaY];rw[c1,q3];simp only[Ka9,intOf];omega
  ·show LeavesInM _ _ _ _ _ _ _ _ _;refine G7 ds _ W' hI.ms fun w' hw=>⟨_,results_none rfl _ _ _,⟨_,rfl⟩,Y,?_,hI.o.own,?_⟩
   ·have mS:i-a=n-a:=by omega
    have h3:=hI.j;rw[mS]at h3;exact hJ.kept _ _ _ _ h3 (hw.kept fun b _ hb hm=>hI.nm b hm hb)
   ·exact⟨hw.os.trans hI.o.ext.os,hw.tape.trans hI.o.ext.tape,hw.output.trans hI.o.ext.output,KaQ hI.o.ext.size hw.size,fun b hb hn=>(hw.block b (KaE hb hI.o.ext.size) (fun hm=>by have:=(hI.ms.lt hm).1;omega)).trans (hI.o.ext.block b hb hn)⟩
theorem LB(n:Nat)(NR:n<100):∀(k a bn bf bp:Nat)(w:World),k<100->Boxed w bn eI (.int .i64 (k:Nat))->Boxed w bf eI (.int .i64 (a:Nat))->Boxed w bp eI (.int .i64 (n:Nat))->a<200->
  u0 Fence.wide Tryz.prog 56 #[.pointer (some ⟨bn,0,none⟩),.pointer (some ⟨bf,0,none⟩),.pointer (some ⟨bp,0,none⟩)] eI (fun b=>b=bn∨b=bf∨b=bp) (fy n k a) w
 |0,a,bn,bf,bp,w,_,hn,_,_,_=>Q9f n a bn bf bp w hn
 |k+1,a,bn,bf,bp,w,hk,hn,hf,hp,ha=>Q9g n k a bn bf bp w hn hf hp (by omega) NR ha fun a bn bf bp w h1 h2 h3 h4=>LB n NR k a bn bf bp w (by omega) h1 h2 h3 h4
def uP(s t:Int×Int):Bool:=decide (¬s.1=t.1)&&decide (¬s.1=t.2)&&decide (¬s.2=t.1)&&decide (¬s.2=t.2)
def rI(s t:Int×Int):Bool:=decide (¬s.1=t.1)||decide (¬s.2=t.2)
def ff(t:Int×Int->Int×Int->Bool):List (Int×Int)->List (List Int)
 | []=>[]
 |s::S=>(S.filter (t s)).map (fun x=>[s.1,s.2,x.1,x.2])++ff t S
end Go.Proofs.YtmkijkjaeljieaaGreat
namespace Go.Proofs.YtmkijkjaeljieaaGreat
open Tryz
open Go Go.FW Go.RowKit Go.Shelf
attribute [local go_sem] Oper.semAt_some
def yo(S:List (Int×Int))(b off:Nat)(W:World):Prop:=∀i (h:i<S.length),W.cell? ⟨b,off+i*2,none⟩=some (.int .i64 S[i].1)/\W.cell? ⟨b,off+i*2+1,none⟩=some (.int .i64 S[i].2)
theorem yo.kept{S:List (Int×Int)}{b off:Nat}{W W':World}(h:yo S b off W)(hk:W'.heap[b]? =W.heap[b]?):yo S b off W':=fun i hi=>
 ⟨(Kb0 (w:=W) (a:=⟨b,_,none⟩) hk).trans (h i hi).1,(Kb0 (w:=W) (a:=⟨b,_,none⟩) hk).trans (h i hi).2⟩
set_option maxHeartbeats 4000000 in
theorem Q6p (fj:Int×Int->Int×Int->Bool) (S:List (Int×Int)) (bo:S.length<=400) (n:Nat)
  (N3:∀(m:Nat) (w:World),CallsIn Fence.wide m Tryz.prog 58 #[.int .i64 (n:Nat)] w fun e w'=>∃a cap,e= .returned (.slice a S.length cap)/\Ext Q5 w w'/\
   ∀i (h:i<S.length),∃b off,a=some ⟨b,off,none⟩/\b<w'.heap.size/\w.heap.size<=b/\S.length<=cap/\w'.cell? ⟨b,off+i*2,none⟩=some (.int .i64 S[i].1)/\w'.cell? ⟨b,off+i*2+1,none⟩=some (.int .i64 S[i].2))
  (Fs:∀(m:Nat)(s1 s2 t1 t2:Int)(w:World),CallsIn Fence.wide m Tryz.prog 29 #[.agg #[.int .i64 s1,.int .i64 s2],.agg #[.int .i64 t1,.int .i64 t2]] w fun e w'=>e= .returned (.bool (fj (s1,s2) (t1,t2)))/\Ext Q5 w w')
  (bp bt:Nat) (w:World) (hp:Boxed w bp eI (.int .i64 (n:Nat))) (ht:Boxed w bt 85 (.func (.func 29) #[] #[])):
  u0 Fence.wide Tryz.prog 57 #[.pointer (some ⟨bp,0,none⟩),.pointer (some ⟨bt,0,none⟩)] eI (fun b=>b=bp∨b=bt) (ff fj S) w:=by
 intro m l J Y0 W hW hJ pV hY h0;have mL:Boxed W bp eI (.int .i64 (n:Nat)):=(hW.block bp hp.lt (.inl rfl)).trans hp;have lG:Boxed W bt 85 (.func (.func 29) #[] #[]):=(hW.block bt ht.lt (.inr rfl)).trans ht;have l1:=mL.lt;have l2:=lG.lt;have ao:=hJ.lt _ _ _ h0;have Nu:S.length=0∨0<S.length:=by omega
 refine callsIn_of_wp func57 rfl trivial ?_ rfl;simp only[Tryz.ntmps57,KaV,Kaz,KaR,Nat.reduceAdd,Nat.reduceSub,Kbc,Kbd,Kbr,Kbe,Kau,Kaw];have c1:=mL.cell
 gi_wp2_with (refine⟨trivial,jL _,?_⟩;refine(N3 _ _).mono ?_;rintro e W1 ⟨ad,cap,rfl,hE,cF⟩)
 have qL:=hE.size;have Ei:J [] Y0 W1:=hJ.kept _ _ _ _ h0 (hE.kept fun _ _ _ h=>h);have MW:Ext Y0 W W1:=hE.mono fun _ _ h=>h.elim;have El:kJ Y0 none W Y0 W1:=⟨fun b hb=>.inl hb,MW⟩
 rcases Nu with hS|hS
 ·gi_loopw [13] (fun v wr=>v= .int .i64 0/\wr=W1) (fun _ _=>0)
  case atStart=>exact⟨rfl,rfl⟩
  case round=>
   obtain⟨rfl,rfl⟩:=hrel
   gi_wp2
   go_end0
   have:S=[]:=Kas.1 hS;subst this;exact⟨⟨_,rfl⟩,Y0,Ei,El⟩
 obtain⟨b,off,rfl,hb,yT,dQ,_⟩:=cF 0 hS;have Jw:yo S b off W1:=fun i hi=>by obtain⟨b',awz,e,_,_,_,h1,h2⟩:=cF i hi;cases e;exact⟨h1,h2⟩
 clear cF
 gi_loopw [13] (fun v wr=>∃(i:Nat)(X:List (List Int))(Y:Nat->Prop),v= .int .i64 (i:Nat)/\i<=S.length/\X++ff fj (S.drop i)=ff fj S/\J X Y wr/\kJ Y0 none W Y wr/\∀c,W.heap.size<=c->c<W1.heap.size->¬Y c/\wr.heap[c]? =W1.heap[c]?) (fun v _=>S.length-(intOf v).toNat)
 case atStart=>exact⟨0,[],Y0,rfl,by omega,rfl,Ei,El,fun c h1 h2=>⟨fun h=>by have:=ao c h;omega,rfl⟩⟩
 case round=>
  obtain⟨i,X,Y,rfl,hi,hX,hj,ho,hk⟩:=hrel;obtain⟨wo,Og⟩:∃wo,wo=wr:=⟨_,rfl⟩
  subst Og;have yU:=hk b yT hb;have kU:=Jw.kept yU.2;have kq:=ho.ext.size;by_cases qP:i<S.length
  ·obtain⟨q1,q2⟩:=kU i qP;have hd:=Kax qP;generalize hs:S[i]=s at *
   obtain⟨s1,s2⟩:=s;have k1:(i:Int)<(S.length:Int):=by omega
   have k2:(0:Int)<=(i:Int):=by omega
   have k3:((i:Int)+1<=(S.length:Int)):=by omega
   have k4:((S.length:Int)<=(cap:Int)):=by omega
   have hT:X++(((S.drop (i+1+0)).filter (fj (s1,s2))).map (fun x=>[s1,s2,x.1,x.2])++ff fj (S.drop (i+1)))=ff fj S:=by rw[<-hX,hd];rfl
   obtain⟨ib,jP⟩:∃ib,ib=wo.alloc (.cells #[.int .i64 s1,.int .i64 s2] 88):=⟨_,rfl⟩
   have sh:ib.heap[wo.heap.size]? =some (.cells #[.int .i64 s1,.int .i64 s2] 88 (0,0)):=by rw[jP];exact World.alloc_heap_new wo _
   have oO:J X Y ib:=by rw[jP];exact hJ.kept _ _ _ _ hj (bT.alloc _ _ _)
   have zk:kJ Y0 none W Y ib:=by rw[jP];exact⟨ho.own,ho.ext.trans (Ext.fo _ _ _)⟩
   have tN:=hJ.lt _ _ _ hj;have dF:ib.heap.size=wo.heap.size+1:=by rw[jP];simp
   have iy:∀c,(W.heap.size<=c/\c<W1.heap.size)∨c=wo.heap.size->¬Y c:=fun c hc=>by
    rcases hc with⟨h1,h2⟩|rfl
    ·exact(hk c h1 h2).1
    ·exact fun h=>Nat.lt_irrefl _ (tN _ h)
   have atM:W1.heap.size<=wo.heap.size:=by
    have h1:=(hk b yT hb).2;rcases Kb1 (W1.heap.size-1) wo.heap.size with h|h
    ·omega
    ·have h2:=(hk (W1.heap.size-1) (by omega) (by omega)).2;rw[Kbl h]at h2;rw[Kbj (by omega)]at h2;cases h2
   have N5:yo S b off ib:=kU.kept (by rw[jP];exact Below.heap_alloc wo _ b (by omega));have ko:∀c,W.heap.size<=c->c<W1.heap.size->ib.heap[c]? =W1.heap[c]? :=fun c h1 h2=>by rw[jP];exact(Below.heap_alloc wo _ c (by omega)).trans (hk c h1 h2).2
   gi_wp2
   ·rw[<-jP];clear jP;have au3:S.length=i+1:=by omega
    have No:cap=i+1:=by omega
    subst No
    gi_loopw [23] (fun v wq=>v= .int .i64 0/\wq=ib) (fun _ _=>0)
    case atStart=>exact⟨rfl,rfl⟩
    case round=>
     obtain⟨rfl,rfl⟩:=hrel;have e0:S.length-(i+1)=0:=by omega
     have EE:S.drop (i+1)=[]:=Kco (by omega)
     gi_wp2
     refine⟨⟨i+1,X,Y,rfl,by omega,?_,oO,zk,fun c h1 h2=>⟨iy c (.inl ⟨h1,h2⟩),ko c h1 h2⟩⟩,?_⟩
     ·rw[<-hX,hd,ff,EE];simp[ff]
     ·simp[intOf];omega
   ·rw [<-jP];clear jP
    gi_loopw [23] (fun v wq=>∃(j:Nat)(X':List (List Int))(Y':Nat->Prop),v= .int .i64 (j:Nat)/\i+1+j<=S.length/\X'++(((S.drop (i+1+j)).filter (fj (s1,s2))).map (fun x=>[s1,s2,x.1,x.2])++ff fj (S.drop (i+1)))=ff fj S/\J X' Y' wq/\kJ Y0 none W Y' wq/\(∀c,(W.heap.size<=c/\c<W1.heap.size)∨c=wo.heap.size->¬Y' c/\wq.heap[c]? =ib.heap[c]?)/\ib.heap.size<=wq.heap.size) (fun v _=>S.length-(i+1)-(intOf v).toNat)
    case atStart=>exact⟨0,X,Y,rfl,by omega,hT,oO,zk,fun c hc=>⟨iy c hc,rfl⟩,Kae _⟩
    case round=>
     obtain⟨j,X',Y',rfl,qc,oG,aT,dv,cG,qW⟩:=hrel;obtain⟨wq,Oh⟩:∃wq,wq=wr:=⟨_,rfl⟩
     subst Oh;have Nd:=hJ.lt _ _ _ aT;have av8:=dv.ext.size;by_cases ES:i+1+j<S.length
     ·have nN:=Kax ES;obtain⟨x1,x2⟩:=(N5.kept (cG b (.inl ⟨yT,hb⟩)).2) (i+1+j) ES;generalize ht':S[i+1+j]=t at *
      obtain⟨t1,t2⟩:=t;have w1:wq.cell? ⟨b,off+(i+1)*2+j*2,none⟩=some (.int .i64 t1):=by rw[show off+(i+1)*2+j*2=off+(i+1+j)*2 by omega];exact x1
      have w2:wq.cell? ⟨b,off+(i+1)*2+j*2+1,none⟩=some (.int .i64 t2):=by rw[show off+(i+1)*2+j*2+1=off+(i+1+j)*2+1 by omega];exact x2
      clear x1 x2;have Nh:wq.heap[wo.heap.size]? =some (.cells #[.int .i64 s1,.int .i64 s2] 88 (0,0)):=(cG _ (.inr rfl)).2.trans sh;have Nk:Boxed wq bt 85 (.func (.func 29) #[] #[]):=(dv.ext.block bt l2 (fun h=>pV _ h (.inr rfl))).trans lG;have p1:(j:Int)<((S.length-(i+1):Nat):Int):=by omega
      have p2:(0:Int)<=(j:Int):=by omega
      obtain⟨wa,jO⟩:∃wa,wa=wq.alloc (.cells #[.int .i64 t1,.int .i64 t2] 88):=⟨_,rfl⟩
      have hs8:wa.heap.size=wq.heap.size+1:=by rw[jO];simp
      have Ew:wa.heap[wq.heap.size]? =some (.cells #[.int .i64 t1,.int .i64 t2] 88 (0,0)):=by rw[jO];exact World.alloc_heap_new wq _
      have xq:wa.heap[wo.heap.size]? =some (.cells #[.int .i64 s1,.int .i64 s2] 88 (0,0)):=by rw[jO];exact(Below.heap_alloc wq _ _ (by omega)).trans Nh
      have Nf:Boxed wa bt 85 (.func (.func 29) #[] #[]):=by rw[jO];exact Nk.alloc _
      have cc:∀ {w:World} {b:Nat} {u v:Value} {t:TypeId},w.heap[b]? =some (.cells #[u,v] t (0,0))->w.cell? ⟨b,0,none⟩=some u/\w.cell? ⟨b,1,none⟩=some v:=fun h=>⟨by simp[World.cell?,h],by simp[World.cell?,h]⟩
      obtain⟨z1,z2⟩:=cc Ew;obtain⟨z3,z4⟩:=cc xq;have z5:=Nf.cell;have oI:∀Z,Ext Z wq wa:=fun Z=>by rw[jO];exact Ext.fo _ _ _
      have Ey:∀Z,bT Z wq wa:=fun Z=>by rw[jO];exact bT.alloc _ _ _
      cases vM:fj (s1,s2) (t1,t2)
      ·have xo:X'++(((S.drop (i+1+(j+1))).filter (fj (s1,s2))).map (fun x=>[s1,s2,x.1,x.2])++ff fj (S.drop (i+1)))=ff fj S:=by rw[<-oG,nN,List.filter_cons_of_neg (by rw[vM];exact KcQ)];rfl
       simp only[jO]at z1 z2 z3 z4 z5
       gi_wp2_with (first|(refine⟨trivial,jL _,?_⟩;rw[<-jO];refine(Fs _ _ _ _ _ _).mono ?_;rw[vM];rintro e w3 ⟨rfl,fG⟩)|fail)
       refine⟨fun _ h=>(by cases h),?_⟩
       gi_wp2
       go_roundw
       case rel=>exact⟨j+1,X',Y',rfl,by omega,xo,hJ.kept _ _ _ _ aT ((Ey _).trans (fG.kept fun _ _ _ h=>h)),⟨dv.own,(dv.ext.trans (oI _)).trans (fG.mono fun _ _ h=>h.elim)⟩,fun c hc=>⟨(cG c hc).1,(fG.block c (by rcases hc with h|h<;>omega) id).trans (((oI Q5).block c (by rcases hc with h|h<;>omega) id).trans (cG c hc).2)⟩,by have:=fG.size;omega⟩
       case measure=>simp[intOf];omega
      ·have Nx:(S.drop (i+1+j)).filter (fj (s1,s2))=(t1,t2)::(S.drop (i+1+(j+1))).filter (fj (s1,s2)):=by rw[nN,List.filter_cons_of_pos vM];rfl
       rw[Nx,Kbn,Kaw]at oG;simp only[jO]at z1 z2 z3 z4 z5
       gi_wp2_with (first|(refine⟨trivial,jL _,?_⟩;rw[<-jO];refine(Fs _ _ _ _ _ _).mono ?_;rw[vM];rintro e w3 ⟨rfl,fG⟩;obtain⟨y1,y2⟩:=cc ((fG.block _ (by omega) id).trans Ew);obtain⟨y3,y4⟩:=cc ((fG.block _ (by omega) id).trans xq))|fail)
       obtain⟨wb,qk⟩:∃wb,wb=w3.alloc (.cells #[.int .i64 s1,.int .i64 s2,.int .i64 t1,.int .i64 t2] 3):=⟨_,rfl⟩
       have sF:=fG.size;have Jx:wb.heap.size=w3.heap.size+1:=by rw[qk];simp
       have EI:∀Z,Ext Z w3 wb:=fun Z=>by rw[qk];exact Ext.fo _ _ _
       have vE:∀Z,bT Z w3 wb:=fun Z=>by rw[qk];exact bT.alloc _ _ _
       have M9:jE eI (.slice (some ⟨w3.heap.size,0,none⟩) 4 4) [s1,s2,t1,t2] wb:=by rw[qk];exact⟨rfl,.inr ⟨w3.heap.size,4,_,rfl,Ka6 _,World.alloc_heap_new _ _,Kae _,by decide,rfl,rfl⟩⟩
       obtain⟨fn,tmps,assign,body,hy,hR⟩:=hY (m-1) X' [s1,s2,t1,t2] _ (.slice (some ⟨w3.heap.size,0,none⟩) 4 4) Y' wb oG.symm (hJ.kept _ _ _ _ aT (((Ey _).trans (fG.kept fun _ _ _ h=>h)).trans (vE _))) M9 (fun c hc=>⟨fun h=>(by simp[Value.ownBlock]at hc;have:=Nd c h;omega),(by simp[Value.ownBlock]at hc;omega)⟩);rw[<-qk];clear qk;rw[hy];refine⟨jL _,hR.mono ?_⟩;rintro e w5 ⟨rfl,Y5,ER,sC⟩;have bC:∀c,(W.heap.size<=c/\c<W1.heap.size)∨c=wo.heap.size->¬Y5 c/\w5.heap[c]? =ib.heap[c]? :=fun c hc=>by
        have cF:c<wq.heap.size:=by rcases hc with h|h<;>omega
        refine⟨fun h=>?_,(sC.ext.block c (by omega) (cG c hc).1).trans (((EI Q5).block c (by omega) id).trans ((fG.block c (by omega) id).trans (((oI Q5).block c cF id).trans (cG c hc).2)))⟩;rcases sC.own c h with h|h|h
        ·exact(cG c hc).1 h
        ·omega
        ·simp[Value.ownBlock]at h;omega
       have M5:kJ Y0 none W Y5 w5:=by
        refine⟨fun c hc=>?_,((((dv.ext.trans (oI _)).trans (fG.mono fun _ _ h=>h.elim)).trans (EI _)).trans' sC.ext fun c hc h=>?_)⟩
        ·rcases sC.own c hc with h|h|h
         ·exact dv.own c h
         ·exact .inr (.inl (by omega))
         ·simp[Value.ownBlock]at h;exact .inr (.inl (by omega))
        ·rcases dv.own c h with h|h|h
         ·exact h
         ·omega
         ·cases h
       gi_wp2
       go_roundw
       case rel=>exact⟨j+1,X'++[[s1,s2,t1,t2]],Y5,rfl,by omega,by rw[Ka8];exact oG,ER,M5,bC,by have:=sC.ext.size;omega⟩
       case measure=>simp[intOf];omega
     ·have auP:i+1+j=S.length:=by omega
      rw[Kco (by omega),List.filter_nil,KbG,Kau]at oG;have p1:((S.length-(i+1):Nat):Int)<=(j:Int):=by omega
      gi_wp2
      go_roundw
      case rel=>exact⟨i+1,X',Y',rfl,by omega,oG,aT,dv,fun c h1 h2=>⟨(cG c (.inl ⟨h1,h2⟩)).1,(cG c (.inl ⟨h1,h2⟩)).2.trans (ko c h1 h2)⟩⟩
      case measure=>simp[intOf];omega
  ·have NH:i=S.length:=by omega
   subst NH
   gi_wp2
   go_end0
   rw[Kcc,ff,Kak]at hX;subst hX;exact⟨⟨_,rfl⟩,Y,hj,ho⟩
set_option maxHeartbeats 4000000 in
theorem Q6q (fj:Int×Int->Int×Int->Bool) (S:List (Int×Int)) (bo:S.length<=400) (n:Nat)
  (N3:∀(m:Nat) (w:World),CallsIn Fence.wide m Tryz.prog 58 #[.int .i64 (n:Nat)] w fun e w'=>∃a cap,e= .returned (.slice a S.length cap)/\Ext Q5 w w'/\
   ∀i (h:i<S.length),∃b off,a=some ⟨b,off,none⟩/\b<w'.heap.size/\w.heap.size<=b/\S.length<=cap/\w'.cell? ⟨b,off+i*2,none⟩=some (.int .i64 S[i].1)/\w'.cell? ⟨b,off+i*2+1,none⟩=some (.int .i64 S[i].2))
  (Fs:∀(m:Nat)(s1 s2 t1 t2:Int)(w:World),CallsIn Fence.wide m Tryz.prog 30 #[.agg #[.int .i64 s1,.int .i64 s2],.agg #[.int .i64 t1,.int .i64 t2]] w fun e w'=>e= .returned (.bool (fj (s1,s2) (t1,t2)))/\Ext Q5 w w')
  (bp bt:Nat) (w:World) (hp:Boxed w bp eI (.int .i64 (n:Nat))) (ht:Boxed w bt 85 (.func (.func 30) #[] #[])):
  u0 Fence.wide Tryz.prog 57 #[.pointer (some ⟨bp,0,none⟩),.pointer (some ⟨bt,0,none⟩)] eI (fun b=>b=bp∨b=bt) (ff fj S) w:=by
 intro m l J Y0 W hW hJ pV hY h0;have mL:Boxed W bp eI (.int .i64 (n:Nat)):=(hW.block bp hp.lt (.inl rfl)).trans hp;have lG:Boxed W bt 85 (.func (.func 30) #[] #[]):=(hW.block bt ht.lt (.inr rfl)).trans ht;have l1:=mL.lt;have l2:=lG.lt;have ao:=hJ.lt _ _ _ h0;have Nu:S.length=0∨0<S.length:=by omega
 refine callsIn_of_wp func57 rfl trivial ?_ rfl;simp only[Tryz.ntmps57,KaV,Kaz,KaR,Nat.reduceAdd,Nat.reduceSub,Kbc,Kbd,Kbr,Kbe,Kau,Kaw];have c1:=mL.cell
 gi_wp2_with (refine⟨trivial,jL _,?_⟩;refine(N3 _ _).mono ?_;rintro e W1 ⟨ad,cap,rfl,hE,cF⟩)
 have qL:=hE.size;have Ei:J [] Y0 W1:=hJ.kept _ _ _ _ h0 (hE.kept fun _ _ _ h=>h);have MW:Ext Y0 W W1:=hE.mono fun _ _ h=>h.elim;have El:kJ Y0 none W Y0 W1:=⟨fun b hb=>.inl hb,MW⟩
 rcases Nu with hS|hS
 ·gi_loopw [13] (fun v wr=>v= .int .i64 0/\wr=W1) (fun _ _=>0)
  case atStart=>exact⟨rfl,rfl⟩
  case round=>
   obtain⟨rfl,rfl⟩:=hrel
   gi_wp2
   go_end0
   have:S=[]:=Kas.1 hS;subst this;exact⟨⟨_,rfl⟩,Y0,Ei,El⟩
 obtain⟨b,off,rfl,hb,yT,dQ,_⟩:=cF 0 hS;have Jw:yo S b off W1:=fun i hi=>by obtain⟨b',awz,e,_,_,_,h1,h2⟩:=cF i hi;cases e;exact⟨h1,h2⟩
 clear cF
 gi_loopw [13] (fun v wr=>∃(i:Nat)(X:List (List Int))(Y:Nat->Prop),v= .int .i64 (i:Nat)/\i<=S.length/\X++ff fj (S.drop i)=ff fj S/\J X Y wr/\kJ Y0 none W Y wr/\∀c,W.heap.size<=c->c<W1.heap.size->¬Y c/\wr.heap[c]? =W1.heap[c]?) (fun v _=>S.length-(intOf v).toNat)
 case atStart=>exact⟨0,[],Y0,rfl,by omega,rfl,Ei,El,fun c h1 h2=>⟨fun h=>by have:=ao c h;omega,rfl⟩⟩
 case round=>
  obtain⟨i,X,Y,rfl,hi,hX,hj,ho,hk⟩:=hrel;obtain⟨wo,Og⟩:∃wo,wo=wr:=⟨_,rfl⟩
  subst Og;have yU:=hk b yT hb;have kU:=Jw.kept yU.2;have kq:=ho.ext.size;by_cases qP:i<S.length
  ·obtain⟨q1,q2⟩:=kU i qP;have hd:=Kax qP;generalize hs:S[i]=s at *
   obtain⟨s1,s2⟩:=s;have k1:(i:Int)<(S.length:Int):=by omega
   have k2:(0:Int)<=(i:Int):=by omega
   have k3:((i:Int)+1<=(S.length:Int)):=by omega
   have k4:((S.length:Int)<=(cap:Int)):=by omega
   have hT:X++(((S.drop (i+1+0)).filter (fj (s1,s2))).map (fun x=>[s1,s2,x.1,x.2])++ff fj (S.drop (i+1)))=ff fj S:=by rw[<-hX,hd];rfl
   obtain⟨ib,jP⟩:∃ib,ib=wo.alloc (.cells #[.int .i64 s1,.int .i64 s2] 88):=⟨_,rfl⟩
   have sh:ib.heap[wo.heap.size]? =some (.cells #[.int .i64 s1,.int .i64 s2] 88 (0,0)):=by rw[jP];exact World.alloc_heap_new wo _
   have oO:J X Y ib:=by rw[jP];exact hJ.kept _ _ _ _ hj (bT.alloc _ _ _)
   have zk:kJ Y0 none W Y ib:=by rw[jP];exact⟨ho.own,ho.ext.trans (Ext.fo _ _ _)⟩
   have tN:=hJ.lt _ _ _ hj;have dF:ib.heap.size=wo.heap.size+1:=by rw[jP];simp
   have iy:∀c,(W.heap.size<=c/\c<W1.heap.size)∨c=wo.heap.size->¬Y c:=fun c hc=>by
    rcases hc with⟨h1,h2⟩|rfl
    ·exact(hk c h1 h2).1
    ·exact fun h=>Nat.lt_irrefl _ (tN _ h)
   have atM:W1.heap.size<=wo.heap.size:=by
    have h1:=(hk b yT hb).2;rcases Kb1 (W1.heap.size-1) wo.heap.size with h|h
    ·omega
    ·have h2:=(hk (W1.heap.size-1) (by omega) (by omega)).2;rw[Kbl h]at h2;rw[Kbj (by omega)]at h2;cases h2
   have N5:yo S b off ib:=kU.kept (by rw[jP];exact Below.heap_alloc wo _ b (by omega));have ko:∀c,W.heap.size<=c->c<W1.heap.size->ib.heap[c]? =W1.heap[c]? :=fun c h1 h2=>by rw[jP];exact(Below.heap_alloc wo _ c (by omega)).trans (hk c h1 h2).2
   gi_wp2
   ·rw[<-jP];clear jP;have au3:S.length=i+1:=by omega
    have No:cap=i+1:=by omega
    subst No
    gi_loopw [23] (fun v wq=>v= .int .i64 0/\wq=ib) (fun _ _=>0)
    case atStart=>exact⟨rfl,rfl⟩
    case round=>
     obtain⟨rfl,rfl⟩:=hrel;have e0:S.length-(i+1)=0:=by omega
     have EE:S.drop (i+1)=[]:=Kco (by omega)
     gi_wp2
     refine⟨⟨i+1,X,Y,rfl,by omega,?_,oO,zk,fun c h1 h2=>⟨iy c (.inl ⟨h1,h2⟩),ko c h1 h2⟩⟩,?_⟩
     ·rw[<-hX,hd,ff,EE];simp[ff]
     ·simp[intOf];omega
   ·rw [<-jP];clear jP
    gi_loopw [23] (fun v wq=>∃(j:Nat)(X':List (List Int))(Y':Nat->Prop),v= .int .i64 (j:Nat)/\i+1+j<=S.length/\X'++(((S.drop (i+1+j)).filter (fj (s1,s2))).map (fun x=>[s1,s2,x.1,x.2])++ff fj (S.drop (i+1)))=ff fj S/\J X' Y' wq/\kJ Y0 none W Y' wq/\(∀c,(W.heap.size<=c/\c<W1.heap.size)∨c=wo.heap.size->¬Y' c/\wq.heap[c]? =ib.heap[c]?)/\ib.heap.size<=wq.heap.size) (fun v _=>S.length-(i+1)-(intOf v).toNat)
    case atStart=>exact⟨0,X,Y,rfl,by omega,hT,oO,zk,fun c hc=>⟨iy c hc,rfl⟩,Kae _⟩
    case round=>
     obtain⟨j,X',Y',rfl,qc,oG,aT,dv,cG,qW⟩:=hrel;obtain⟨wq,Oh⟩:∃wq,wq=wr:=⟨_,rfl⟩
     subst Oh;have Nd:=hJ.lt _ _ _ aT;have av8:=dv.ext.size;by_cases ES:i+1+j<S.length
     ·have nN:=Kax ES;obtain⟨x1,x2⟩:=(N5.kept (cG b (.inl ⟨yT,hb⟩)).2) (i+1+j) ES;generalize ht':S[i+1+j]=t at *
      obtain⟨t1,t2⟩:=t;have w1:wq.cell? ⟨b,off+(i+1)*2+j*2,none⟩=some (.int .i64 t1):=by rw[show off+(i+1)*2+j*2=off+(i+1+j)*2 by omega];exact x1
      have w2:wq.cell? ⟨b,off+(i+1)*2+j*2+1,none⟩=some (.int .i64 t2):=by rw[show off+(i+1)*2+j*2+1=off+(i+1+j)*2+1 by omega];exact x2
      clear x1 x2;have Nh:wq.heap[wo.heap.size]? =some (.cells #[.int .i64 s1,.int .i64 s2] 88 (0,0)):=(cG _ (.inr rfl)).2.trans sh;have Nk:Boxed wq bt 85 (.func (.func 30) #[] #[]):=(dv.ext.block bt l2 (fun h=>pV _ h (.inr rfl))).trans lG;have p1:(j:Int)<((S.length-(i+1):Nat):Int):=by omega
      have p2:(0:Int)<=(j:Int):=by omega
      obtain⟨wa,jO⟩:∃wa,wa=wq.alloc (.cells #[.int .i64 t1,.int .i64 t2] 88):=⟨_,rfl⟩
      have hs8:wa.heap.size=wq.heap.size+1:=by rw[jO];simp
      have Ew:wa.heap[wq.heap.size]? =some (.cells #[.int .i64 t1,.int .i64 t2] 88 (0,0)):=by rw[jO];exact World.alloc_heap_new wq _
      have xq:wa.heap[wo.heap.size]? =some (.cells #[.int .i64 s1,.int .i64 s2] 88 (0,0)):=by rw[jO];exact(Below.heap_alloc wq _ _ (by omega)).trans Nh
      have Nf:Boxed wa bt 85 (.func (.func 30) #[] #[]):=by rw[jO];exact Nk.alloc _
      have cc:∀ {w:World} {b:Nat} {u v:Value} {t:TypeId},w.heap[b]? =some (.cells #[u,v] t (0,0))->w.cell? ⟨b,0,none⟩=some u/\w.cell? ⟨b,1,none⟩=some v:=fun h=>⟨by simp[World.cell?,h],by simp[World.cell?,h]⟩
      obtain⟨z1,z2⟩:=cc Ew;obtain⟨z3,z4⟩:=cc xq;have z5:=Nf.cell;have oI:∀Z,Ext Z wq wa:=fun Z=>by rw[jO];exact Ext.fo _ _ _
      have Ey:∀Z,bT Z wq wa:=fun Z=>by rw[jO];exact bT.alloc _ _ _
      cases vM:fj (s1,s2) (t1,t2)
      ·have xo:X'++(((S.drop (i+1+(j+1))).filter (fj (s1,s2))).map (fun x=>[s1,s2,x.1,x.2])++ff fj (S.drop (i+1)))=ff fj S:=by rw[<-oG,nN,List.filter_cons_of_neg (by rw[vM];exact KcQ)];rfl
       simp only[jO]at z1 z2 z3 z4 z5
       gi_wp2_with (first|(refine⟨trivial,jL _,?_⟩;rw[<-jO];refine(Fs _ _ _ _ _ _).mono ?_;rw[vM];rintro e w3 ⟨rfl,fG⟩)|fail)
       refine⟨fun _ h=>(by cases h),?_⟩
       gi_wp2
       go_roundw
       case rel=>exact⟨j+1,X',Y',rfl,by omega,xo,hJ.kept _ _ _ _ aT ((Ey _).trans (fG.kept fun _ _ _ h=>h)),⟨dv.own,(dv.ext.trans (oI _)).trans (fG.mono fun _ _ h=>h.elim)⟩,fun c hc=>⟨(cG c hc).1,(fG.block c (by rcases hc with h|h<;>omega) id).trans (((oI Q5).block c (by rcases hc with h|h<;>omega) id).trans (cG c hc).2)⟩,by have:=fG.size;omega⟩
       case measure=>simp[intOf];omega
      ·have Nx:(S.drop (i+1+j)).filter (fj (s1,s2))=(t1,t2)::(S.drop (i+1+(j+1))).filter (fj (s1,s2)):=by rw[nN,List.filter_cons_of_pos vM];rfl
       rw[Nx,Kbn,Kaw]at oG;simp only[jO]at z1 z2 z3 z4 z5
       gi_wp2_with (first|(refine⟨trivial,jL _,?_⟩;rw[<-jO];refine(Fs _ _ _ _ _ _).mono ?_;rw[vM];rintro e w3 ⟨rfl,fG⟩;obtain⟨y1,y2⟩:=cc ((fG.block _ (by omega) id).trans Ew);obtain⟨y3,y4⟩:=cc ((fG.block _ (by omega) id).trans xq))|fail)
       obtain⟨wb,qk⟩:∃wb,wb=w3.alloc (.cells #[.int .i64 s1,.int .i64 s2,.int .i64 t1,.int .i64 t2] 3):=⟨_,rfl⟩
       have sF:=fG.size;have Jx:wb.heap.size=w3.heap.size+1:=by rw[qk];simp
       have EI:∀Z,Ext Z w3 wb:=fun Z=>by rw[qk];exact Ext.fo _ _ _
       have vE:∀Z,bT Z w3 wb:=fun Z=>by rw[qk];exact bT.alloc _ _ _
       have M9:jE eI (.slice (some ⟨w3.heap.size,0,none⟩) 4 4) [s1,s2,t1,t2] wb:=by rw[qk];exact⟨rfl,.inr ⟨w3.heap.size,4,_,rfl,Ka6 _,World.alloc_heap_new _ _,Kae _,by decide,rfl,rfl⟩⟩
       obtain⟨fn,tmps,assign,body,hy,hR⟩:=hY (m-1) X' [s1,s2,t1,t2] _ (.slice (some ⟨w3.heap.size,0,none⟩) 4 4) Y' wb oG.symm (hJ.kept _ _ _ _ aT (((Ey _).trans (fG.kept fun _ _ _ h=>h)).trans (vE _))) M9 (fun c hc=>⟨fun h=>(by simp[Value.ownBlock]at hc;have:=Nd c h;omega),(by simp[Value.ownBlock]at hc;omega)⟩);rw[<-qk];clear qk;rw[hy];refine⟨jL _,hR.mono ?_⟩;rintro e w5 ⟨rfl,Y5,ER,sC⟩;have bC:∀c,(W.heap.size<=c/\c<W1.heap.size)∨c=wo.heap.size->¬Y5 c/\w5.heap[c]? =ib.heap[c]? :=fun c hc=>by
        have cF:c<wq.heap.size:=by rcases hc with h|h<;>omega
        refine⟨fun h=>?_,(sC.ext.block c (by omega) (cG c hc).1).trans (((EI Q5).block c (by omega) id).trans ((fG.block c (by omega) id).trans (((oI Q5).block c cF id).trans (cG c hc).2)))⟩;rcases sC.own c h with h|h|h
        ·exact(cG c hc).1 h
        ·omega
        ·simp[Value.ownBlock]at h;omega
       have M5:kJ Y0 none W Y5 w5:=by
        refine⟨fun c hc=>?_,((((dv.ext.trans (oI _)).trans (fG.mono fun _ _ h=>h.elim)).trans (EI _)).trans' sC.ext fun c hc h=>?_)⟩
        ·rcases sC.own c hc with h|h|h
         ·exact dv.own c h
         ·exact .inr (.inl (by omega))
         ·simp[Value.ownBlock]at h;exact .inr (.inl (by omega))
        ·rcases dv.own c h with h|h|h
         ·exact h
         ·omega
         ·cases h
       gi_wp2
       go_roundw
       case rel=>exact⟨j+1,X'++[[s1,s2,t1,t2]],Y5,rfl,by omega,by rw[Ka8];exact oG,ER,M5,bC,by have:=sC.ext.size;omega⟩
       case measure=>simp[intOf];omega
     ·have auP:i+1+j=S.length:=by omega
      rw[Kco (by omega),List.filter_nil,KbG,Kau]at oG;have p1:((S.length-(i+1):Nat):Int)<=(j:Int):=by omega
      gi_wp2
      go_roundw
      case rel=>exact⟨i+1,X',Y',rfl,by omega,oG,aT,dv,fun c h1 h2=>⟨(cG c (.inl ⟨h1,h2⟩)).1,(cG c (.inl ⟨h1,h2⟩)).2.trans (ko c h1 h2)⟩⟩
      case measure=>simp[intOf];omega
  ·have NH:i=S.length:=by omega
   subst NH
   gi_wp2
   go_end0
   rw[Kcc,ff,Kak]at hX;subst hX;exact⟨⟨_,rfl⟩,Y,hj,ho⟩
end Go.Proofs.YtmkijkjaeljieaaGreat
namespace Go.Proofs.YtmkijkjaeljieaaGreat
open Tryz
open Go Go.FW Go.RowKit Go.Shelf
attribute [local go_sem] Oper.semAt_some
theorem Qz{t:Array Value}{k:Nat}{b:Bool}(h:t[k]?.getD undef= .bool b):t[k]? =some (.bool b):=by
 cases hk:t[k]? with
 |none=>rw[hk]at h;cases h
 |some v=>rw[hk]at h;exact congrArg some h
def gT(m:Nat)(s:List Int):Option (List Int):=match s with
 | [a,b]=>if a≠m/\b≠m then some [(m:Int),a,b]else none
 |_=>none
theorem Qzn(m:Nat)(w:World)(a:Int):CallsIn Fence.wide m Tryz.prog 31 #[.int .i64 a] w fun e w'=>
  e= .returned (.func (.func 59) #[] #[.pointer (some ⟨w.heap.size,0,none⟩)])/\w'=w.alloc (.cells #[.int .i64 a] 3):=by
 refine callsIn_of_wp func31 rfl trivial ?_ rfl;simp only[Tryz.ntmps31,KaV,Kaz,KaR,Nat.reduceAdd,Nat.reduceSub,Kbc,Kbd,Kbr,Kbe,Kau,Kaw]
 gi_wp2
 go_ret
 exact⟨rfl,rfl⟩
structure aot(n:Nat)(W:World)(J:List (List Int)->(Nat->Prop)->World->Prop)(Y0:Nat->Prop)(yv:Value)(ds:List Deferred)(Y:Nat->Prop)(i:Nat)(W':World):Prop where
 j:J ((List.range' 0 i).flatMap fun m=>(fy n 2 0).filterMap (gT m)) Y W'
 o:kJ Y0 none W Y W'
 bx:Boxed W' W.heap.size 121 yv
 nb:¬Y W.heap.size
 ms:eB W.heap.size ds W'.heap.size W'
 nm:∀b,eB.bV ds b->¬Y b
set_option maxHeartbeats 4000000 in
theorem agf(n:Nat)(hn:n<100)(bp:Nat)(w:World)(hp:Boxed w bp eI (.int .i64 (n:Nat))):
  u0 Fence.wide Tryz.prog 59 #[.pointer (some ⟨bp,0,none⟩)] eI (fun b=>b=bp) ((List.range' 0 n).flatMap fun m=>(fy n 2 0).filterMap (gT m)) w:=by
 intro m l J Y0 W hW hJ pV hY h0;have mL:Boxed W bp eI (.int .i64 (n:Nat)):=(hW.block bp hp.lt rfl).trans hp;have l3:=mL.lt;have ao:=hJ.lt _ _ _ h0;refine callsIn_of_wp_marks func59 rfl trivial ?_ rfl;simp only[Tryz.ntmps59,KaV,Kaz,KaR,Nat.reduceAdd,Nat.reduceSub,Kbc,Kbd,Kbr,Kbe,Kau,Kaw];have c1:=(mL.alloc (.cells #[.func (.yield l) #[] #[]] 121)).cell;obtain⟨yv,oW⟩:∃yv,yv=Value.func (.yield l) #[] #[]:=⟨_,rfl⟩
 gi_wp2
 refine wpIn_loop (fun a' W'=>∃(i:Nat)(ds:List Deferred)(Y:Nat->Prop)(u3 u4 u7 u8 u9 uj uk um uo uq sR u16 ur uu uv uw ux uy uz sS sT sU sV sW sX sY sZ u32 zR zS zT zU OM:Value),(i<=n/\aot n W J Y0 yv ds Y i W')/\a'=⟨#[.func (.yield l) #[] #[],.pointer (some ⟨bp,0,none⟩),.pointer (some ⟨W.heap.size,0,none⟩),u3,u4,.int .i64 (n:Int),.int .i64 (i:Int),u7,u8,u9,uj,uk,um,uo,uq,sR,u16,ur,uu,uv,uw,ux,uy,uz,sS,sT,sU,sV,sW,sX,sY,sZ,u32,zR,zS,zT,zU,OM],ds⟩)
  (fun a' _=>n-(intOf (a'.tmps.getD 6 undef)).toNat) ?_ ?_
 ·refine⟨0,[],Y0,?_⟩
  (repeat apply Exists.intro)
  refine⟨⟨Ka6 _,?_⟩,rfl⟩;subst oW;exact⟨hJ.kept _ _ _ _ h0 (bT.alloc Y0 W _),⟨fun b hb=>.inl hb,Ext.fo Y0 W _⟩,Boxed.new W _ _,fun h=>by have:=ao _ h;omega,trivial,fun _ h=>h.elim⟩
 ·rintro a' W' ⟨i,ds,Y,u3,u4,u7,u8,u9,uj,uk,um,uo,uq,sR,u16,ur,uu,uv,uw,ux,uy,uz,sS,sT,sU,sV,sW,sX,sY,sZ,u32,zR,zS,zT,zU,OM,⟨hi,hI⟩,rfl⟩
  try dsimp only
  have Nj:Boxed W' bp eI (.int .i64 (n:Nat)):=(hI.o.ext.block bp l3 (fun h=>pV _ h rfl)).trans mL;have q2:=(Nj.alloc (.cells #[.int .i64 (i:Int)] 3)).cell;have kq:=hI.o.ext.size;by_cases kS:i<n
  ·have auL:(i:Int)<(n:Int):=by omega
   gi_wp2_with (first|(refine⟨trivial,jL _,?_⟩;refine(KJ _ _ _ _ _).mono ?_;rintro e w' ⟨rfl,rfl⟩)|fail)
   obtain⟨W2,gL⟩:∃W2,W2=(((W'.alloc (.cells #[.int .i64 (i:Int)] 3)).alloc (.cells #[.int .i64 0] 3)).alloc (.cells #[.int .i64 (n:Int)] 3)).alloc (.cells #[.int .i64 2] 3):=⟨_,rfl⟩
   have lF:Boxed W2 W'.heap.size eI (.int .i64 (i:Nat)):=by rw[gL];exact(((Boxed.new W' 3 _).alloc _).alloc _).alloc _
   have Ev:Boxed W2 (W'.heap.size+1) eI (.int .i64 (0:Nat)):=by have:=Boxed.new (W'.alloc (.cells #[.int .i64 (i:Int)] 3)) 3 (.int .i64 0);simp only[Kbg]at this;rw[gL];exact(this.alloc _).alloc _
   have fK:Boxed W2 (W'.heap.size+1+1) eI (.int .i64 (n:Nat)):=by have:=Boxed.new ((W'.alloc (.cells #[.int .i64 (i:Int)] 3)).alloc (.cells #[.int .i64 0] 3)) 3 (.int .i64 (n:Int));simp only[Kbg]at this;rw[gL];exact this.alloc _
   have Ng:Boxed W2 (W'.heap.size+1+1+1) eI (.int .i64 (2:Nat)):=by have:=Boxed.new (((W'.alloc (.cells #[.int .i64 (i:Int)] 3)).alloc (.cells #[.int .i64 0] 3)).alloc (.cells #[.int .i64 (n:Int)] 3)) 3 (.int .i64 2);simp only[Kbg]at this;rw[gL];exact this
   have iy:∀Z,bT Z W' W2:=fun Z=>by rw[gL];exact(((bT.alloc Z _ _).trans (bT.alloc Z _ _)).trans (bT.alloc Z _ _)).trans (bT.alloc Z _ _)
   have vC:∀Z,Ext Z W' W2:=fun Z=>by rw[gL];exact(((Ext.fo Z _ _).trans (Ext.fo Z _ _)).trans (Ext.fo Z _ _)).trans (Ext.fo Z _ _)
   have dF:W2.heap.size=W'.heap.size+4:=by rw[gL];simp
   rw[<-gL];clear gL;have I5:=hJ.lt _ _ _ hI.j;obtain⟨D0,Bt⟩:∃D0,D0=(List.range' 0 i).flatMap fun m=>(fy n 2 0).filterMap (gT m):=⟨_,rfl⟩
   have Xv:=hI.j;rw[<-Bt]at Xv;obtain⟨Ob,iu⟩:∃Ob:Nat->Prop,∀b,Ob b↔b=W'.heap.size∨b=W.heap.size∨eB.bV ds b:=⟨_,fun _=>Iff.rfl⟩
   have Nl:Boxed W2 W.heap.size 121 yv:=((iy (· =W.heap.size)).block _ hI.bx.lt rfl).trans hI.bx;have NM:eB W.heap.size ds W'.heap.size W2:=hI.ms.kept fun b hb=>(iy (eB.bV ds)).block _ (hI.ms.lt hb).2.1 hb;have Em:∀b,Ob b->b<W'.heap.size+1:=fun b hb=>by
    rcases(iu b).1 hb with rfl|rfl|h
    ·omega
    ·have:=hI.bx.lt;omega
    ·have:=(hI.ms.lt h).2.1;omega
   have M6:∀b,Ob b->¬Y b:=fun b hb=>by
    rcases(iu b).1 hb with rfl|rfl|h
    ·exact fun h=>Nat.lt_irrefl _ (I5 _ h)
    ·exact hI.nb
    ·exact hI.nm b h
   refine L7 rfl rfl (gf:=56) (lb:= #[.pointer (some ⟨W'.heap.size+1+1+1,0,none⟩),.pointer (some ⟨W'.heap.size+1,0,none⟩),.pointer (some ⟨W'.heap.size+1+1,0,none⟩)]) rfl trivial (enters_of func56 (by kernel_rfl) rfl)
    (LB n hn 2 0 _ _ _ W2 (by omega) Ng Ev fK (by omega)) (bT.refl _ _) (fun b hb=>by rcases hb with rfl|rfl|rfl<;>omega) rfl
    (fun pre Yi X=>∃Y1,(∀b,Yi b↔Y1 b∨Ob b)/\(∀b,Ob b->¬Y1 b)/\(∀b,Ob b->b<X.heap.size)/\J (D0++pre.filterMap (gT i)) Y1 X/\Boxed X W'.heap.size eI (.int .i64 (i:Nat))/\Boxed X W.heap.size 121 yv/\eB W.heap.size ds W'.heap.size X)
    ⟨?_,?_⟩ (fun b=>Y b∨Ob b) (fun b hb hB=>?_) ⟨Y,fun _=>Iff.rfl,M6,fun b hb=>(by have:=Em b hb;omega),?_,lF,Nl,NM⟩
    (fun v=>{ tmps:= #[.func (.yield l) #[] #[],.pointer (some ⟨bp,0,none⟩),.pointer (some ⟨W.heap.size,0,none⟩),.pointer (some ⟨W'.heap.size,0,none⟩),v,.int .i64 (n:Int),.int .i64 (i:Int),.bool true,.int .i64 (i:Int),.int .i64 (n:Int),.func (.func 56) #[] #[.pointer (some ⟨W'.heap.size+1+1+1,0,none⟩),.pointer (some ⟨W'.heap.size+1,0,none⟩),.pointer (some ⟨W'.heap.size+1+1,0,none⟩)],v,um,uo,uq,sR,u16,ur,uu,uv,uw,ux,uy,uz,sS,sT,sU,sV,sW,sX,sY,sZ,u32,zR,zS,zT,zU,OM],defers:=[] }) ?assign ?body ?done
   ·rintro s Yi X X' ⟨Y1,h1,h2,h3,h4,h5,h6,h7⟩ hk;have y8:∀b,Ob b->X'.heap[b]? =X.heap[b]? :=fun b hb=>hk.block b (h3 b hb) ((h1 b).2 (.inr hb));exact⟨Y1,h1,h2,fun b hb=>KaE (h3 b hb) hk.size,hJ.kept _ _ _ _ h4 (hk.mono fun b _ hb=>(h1 b).2 (.inl hb)),(y8 _ ((iu _).2 (.inl rfl))).trans h5,(y8 _ ((iu _).2 (.inr (.inl rfl)))).trans h6,h7.kept fun b hb=>y8 b ((iu b).2 (.inr (.inr hb)))⟩
   ·rintro s Yi X ⟨Y1,h1,h2,h3,h4,h5,h6,h7⟩ b hb;rcases(h1 b).1 hb with h|h
    ·exact hJ.lt _ _ _ h4 b h
    ·exact h3 b h
   ·have pW:b<W'.heap.size+1:=by
     rcases hb with h|h
     ·have:=I5 b h;omega
     ·exact Em b h
    rcases hB with rfl|rfl|rfl<;>omega
   ·simp only[KcB,Kak];exact hJ.kept _ _ _ _ Xv (iy _)
   case assign=>
    intro l2 v X K hK
    gi_wp2
    exact hK
   case body=>
    rintro l2 pre c m8 v Yi X mV hsX ⟨Y1,h1,h2,h3,h4,h5,h6,h7⟩ hv zA;have cF:c.length=2:=LK n 2 0 c (by rw[mV];simp);obtain⟨ca,cb,rfl⟩:∃ca cb,c=[ca,cb]:=by
     match c,cF with
     | [ca,cb],_=>exact⟨ca,cb,rfl⟩
    have cT:∀b,v.ownBlock=some b->b<X.heap.size:=fun b hb=>by obtain⟨cur,h⟩:=hv.lt hb;exact(Kan.1 h).1
    rcases hv.2 with⟨rfl,Ec⟩|⟨g,cap,cur,rfl,_,hg,jh,EL,qb,hg5⟩
    ·cases Ec
    have Jd:X.cell? ⟨g,0,none⟩=some (.int .i64 ca)/\X.cell? ⟨g,1,none⟩=some (.int .i64 cb):=by have:=hv.cells (g:=g) rfl;exact⟨this 0 _ rfl,this 1 _ rfl⟩
    have tQ:=cT g rfl
    gi_wp2
    rename_i K0 Ej;have XO:Boxed X.drew W.heap.size 121 yv:=h6;have XP:Boxed X.drew W'.heap.size eI (.int .i64 (i:Nat)):=h5;have Nn:X.drew.cell? ⟨W.heap.size,0,none⟩=some yv/\X.drew.cell? ⟨W'.heap.size,0,none⟩=some (.int .i64 (i:Int))/\X.drew.cell? ⟨g,0,none⟩=some (.int .i64 ca)/\X.drew.cell? ⟨g,1,none⟩=some (.int .i64 cb):=⟨XO.cell,XP.cell,Jd.1,Jd.2⟩
    have tN:=hJ.lt _ _ _ h4;have X8:(pre++[[ca,cb]]).filterMap (gT i)=pre.filterMap (gT i)++(if ca≠i/\cb≠i then [[(i:Int),ca,cb]]else []):=by rw[List.filterMap_append];congr 1;simp only[Kck,KcB,gT];split<;>simp_all
    have aah:¬(ca≠i/\cb≠i)->Ia (fun pre Yi X=>∃Y1,(∀b,Yi b↔Y1 b∨Ob b)/\(∀b,Ob b->¬Y1 b)/\(∀b,Ob b->b<X.heap.size)/\J (D0++pre.filterMap (gT i)) Y1 X/\Boxed X W'.heap.size eI (.int .i64 (i:Nat))/\Boxed X W.heap.size 121 yv/\eB W.heap.size ds W'.heap.size X) (pre++[[ca,cb]]) Yi (some g) X .normal { tmps:= #[],defers:=[] } X.drew:=fun nR=>by
     have hkd:∀Z,bT Z X X.drew:=fun Z=>⟨rfl,rfl,rfl,Kae _,fun _ _ _=>rfl⟩
     refine⟨Yi,⟨Y1,h1,h2,h3,?_,h5,h6,h7.kept fun _ _=>rfl⟩,fun b hb=>.inl hb,⟨rfl,rfl,rfl,Kae _,fun _ _ _=>rfl⟩⟩;rw[X8,if_neg nR,Kak];exact hJ.kept _ _ _ _ h4 (hkd _)
    by_cases hA:ca=i
    ·have Ja:decide (ca=(i:Int))=true:=decide_eq_true hA;have mO:=aah (fun h=>h.1 hA);refine Hn Gt 38 (fun j=>match j with|0=>.slice (some ⟨g,0,none⟩) 2 cap|1=>.pointer (some ⟨g,0,none⟩)|2=>.int .i64 ca|3=>.int .i64 (i:Int)|4=>.bool false|5=>.bool false|6=>undef|7=>undef|8=>undef|9=>undef|10=>undef|11=>.bool false|12=>.bool false|13=>undef|14=>undef|15=>undef|16=>undef|17=>undef|18=>undef|19=>undef|20=>undef|21=>undef|22=>undef|23=>undef|24=>.bool false|_=>undef) [(2,.pointer (some ⟨W.heap.size,0,none⟩)),(3,.pointer (some ⟨W'.heap.size,0,none⟩)),(4,.slice (some ⟨g,0,none⟩) 2 cap)] (fun q w=>w=X.drew) (by decide) ?_ ?_ ?_
     ·exact⟨rfl,rfl,by simp,fun _ _ _ h=>(by cases h),fun _ h=>(by cases h),rfl⟩
     ·intro q j hj hq aB a3 w3 hT;have f2:=hT.fixed (2,.pointer (some ⟨W.heap.size,0,none⟩)) (by simp);have f3:=hT.fixed (3,.pointer (some ⟨W'.heap.size,0,none⟩)) (by simp);have f4:=hT.fixed (4,.slice (some ⟨g,0,none⟩) 2 cap) (by simp);simp only at f2 f3 f4;have g0:q 0=true->a3.tmps[12]?.getD undef= .slice (some ⟨g,0,none⟩) 2 cap:=fun h=>hT.slot 0 _ 12 h rfl rfl;have g1:q 1=true->a3.tmps[13]?.getD undef= .pointer (some ⟨g,0,none⟩):=fun h=>hT.slot 1 _ 13 h rfl rfl;have g2:q 2=true->a3.tmps[14]?.getD undef= .int .i64 ca:=fun h=>hT.slot 2 _ 14 h rfl rfl;have g3:q 3=true->a3.tmps[15]?.getD undef= .int .i64 (i:Int):=fun h=>hT.slot 3 _ 15 h rfl rfl;have g4:q 4=true->a3.tmps[16]?.getD undef= .bool false:=fun h=>hT.slot 4 _ 16 h rfl rfl;have g5:q 5=true->a3.tmps[17]?.getD undef= .bool false:=fun h=>hT.slot 5 _ 17 h rfl rfl;have g6:q 6=true->a3.tmps[18]?.getD undef=undef:=fun h=>hT.slot 6 _ 18 h rfl rfl;have g7:q 7=true->a3.tmps[19]?.getD undef=undef:=fun h=>hT.slot 7 _ 19 h rfl rfl;have g8:q 8=true->a3.tmps[20]?.getD undef=undef:=fun h=>hT.slot 8 _ 20 h rfl rfl;have g9:q 9=true->a3.tmps[21]?.getD undef=undef:=fun h=>hT.slot 9 _ 21 h rfl rfl;have DX:q 10=true->a3.tmps[22]?.getD undef=undef:=fun h=>hT.slot 10 _ 22 h rfl rfl;have DY:q 11=true->a3.tmps[23]?.getD undef= .bool false:=fun h=>hT.slot 11 _ 23 h rfl rfl;have ee:q 12=true->a3.tmps[24]?.getD undef= .bool false:=fun h=>hT.slot 12 _ 24 h rfl rfl;have MI:q 13=true->a3.tmps[25]?.getD undef=undef:=fun h=>hT.slot 13 _ 25 h rfl rfl;have MJ:q 14=true->a3.tmps[26]?.getD undef=undef:=fun h=>hT.slot 14 _ 26 h rfl rfl;have MK:q 15=true->a3.tmps[27]?.getD undef=undef:=fun h=>hT.slot 15 _ 27 h rfl rfl;have MM:q 16=true->a3.tmps[28]?.getD undef=undef:=fun h=>hT.slot 16 _ 28 h rfl rfl;have MN:q 17=true->a3.tmps[29]?.getD undef=undef:=fun h=>hT.slot 17 _ 29 h rfl rfl;have MO:q 18=true->a3.tmps[30]?.getD undef=undef:=fun h=>hT.slot 18 _ 30 h rfl rfl;have MP:q 19=true->a3.tmps[31]?.getD undef=undef:=fun h=>hT.slot 19 _ 31 h rfl rfl;have MQ:q 20=true->a3.tmps[32]?.getD undef=undef:=fun h=>hT.slot 20 _ 32 h rfl rfl;have MR:q 21=true->a3.tmps[33]?.getD undef=undef:=fun h=>hT.slot 21 _ 33 h rfl rfl;have MS:q 22=true->a3.tmps[34]?.getD undef=undef:=fun h=>hT.slot 22 _ 34 h rfl rfl;have Ea:q 23=true->a3.tmps[35]?.getD undef=undef:=fun h=>hT.slot 23 _ 35 h rfl rfl;have xe:q 24=true->a3.tmps[36]?.getD undef= .bool false:=fun h=>hT.slot 24 _ 36 h rfl rfl;have vO:w3=X.drew:=hT.wd;subst vO;obtain⟨tJ,nE,pR,qJ⟩:=Nn
      match j,hj with
      |0,_=>refine hT.val (w':=X.drew) aB (by rfl) rfl rfl rfl (fun c h=>by cases h) ?_ rfl;simp[execOp,go_sem,f4]
      |1,_=>have k0:=g0 (aB 0 (by decide));refine hT.val (w':=X.drew) aB (by rfl) rfl rfl rfl (fun c h=>by cases h) ?_ rfl;simp[execOp,go_sem,k0]
      |2,_=>have k1:=g1 (aB 1 (by decide));refine hT.val (w':=X.drew) aB (by rfl) rfl rfl rfl (fun c h=>by cases h) ?_ rfl;simp[execOp,go_sem,k1,pR]
      |3,_=>refine hT.val (w':=X.drew) aB (by rfl) rfl rfl rfl (fun c h=>by cases h) ?_ rfl;simp[execOp,go_sem,f3,nE]
      |4,_=>have k2:=g2 (aB 2 (by decide));have k3:=g3 (aB 3 (by decide));refine hT.val (w':=X.drew) aB (by rfl) rfl rfl rfl (fun c h=>by cases h) ?_ rfl;simp[execOp,go_sem,k2,k3,hA]
      |5,_=>have k4:=g4 (aB 4 (by decide));refine hT.val (w':=X.drew) aB (by rfl) rfl rfl rfl (fun c h=>by cases h) ?_ rfl;simp[execOp,go_sem,k4]
      |6,_=>have FQ:=Qz (g5 (aB 5 (by decide)));exact hT.skip aB (by rfl) rfl (by simp[Region.wanted,yielded,FQ]) (fun _ _=>trivial) rfl rfl
      |7,_=>have FR:=Qz (g5 (aB 5 (by decide)));exact hT.skip aB (by rfl) rfl (by simp[Region.wanted,yielded,FR]) (fun _ _=>trivial) rfl rfl
      |8,_=>have FT:=Qz (g5 (aB 5 (by decide)));exact hT.skip aB (by rfl) rfl (by simp[Region.wanted,yielded,FT]) (fun _ _=>trivial) rfl rfl
      |9,_=>have FU:=Qz (g5 (aB 5 (by decide)));exact hT.skip aB (by rfl) rfl (by simp[Region.wanted,yielded,FU]) (fun _ _=>trivial) rfl rfl
      |10,_=>have FE:=Qz (g5 (aB 5 (by decide)));exact hT.skip aB (by rfl) rfl (by simp[Region.wanted,yielded,FE]) (fun _ _=>trivial) rfl rfl
      |11,_=>have k5:=g5 (aB 5 (by decide));have sK:=DX (aB 10 (by decide));refine hT.val (w':=X.drew) aB (by rfl) rfl rfl rfl (fun c h=>by cases h) ?_ rfl;simp[execOp,go_sem,k5,sK]
      |12,_=>have qX:=DY (aB 11 (by decide));refine hT.val (w':=X.drew) aB (by rfl) rfl rfl rfl (fun c h=>by cases h) ?_ rfl;simp[execOp,go_sem,qX]
      |13,_=>have FF:=Qz (ee (aB 12 (by decide)));exact hT.skip aB (by rfl) rfl (by simp[Region.wanted,yielded,FF]) (fun _ _=>trivial) rfl rfl
      |14,_=>have FG:=Qz (ee (aB 12 (by decide)));exact hT.skip aB (by rfl) rfl (by simp[Region.wanted,yielded,FG]) (fun _ _=>trivial) rfl rfl
      |15,_=>have FH:=Qz (ee (aB 12 (by decide)));exact hT.skip aB (by rfl) rfl (by simp[Region.wanted,yielded,FH]) (fun _ _=>trivial) rfl rfl
      |16,_=>have FI:=Qz (ee (aB 12 (by decide)));exact hT.skip aB (by rfl) rfl (by simp[Region.wanted,yielded,FI]) (fun _ _=>trivial) rfl rfl
      |17,_=>have FJ:=Qz (ee (aB 12 (by decide)));exact hT.skip aB (by rfl) rfl (by simp[Region.wanted,yielded,FJ]) (fun _ _=>trivial) rfl rfl
      |18,_=>have FK:=Qz (ee (aB 12 (by decide)));exact hT.skip aB (by rfl) rfl (by simp[Region.wanted,yielded,FK]) (fun _ _=>trivial) rfl rfl
      |19,_=>have FL:=Qz (ee (aB 12 (by decide)));exact hT.skip aB (by rfl) rfl (by simp[Region.wanted,yielded,FL]) (fun _ _=>trivial) rfl rfl
      |20,_=>have FM:=Qz (ee (aB 12 (by decide)));exact hT.skip aB (by rfl) rfl (by simp[Region.wanted,yielded,FM]) (fun _ _=>trivial) rfl rfl
      |21,_=>have FN:=Qz (ee (aB 12 (by decide)));exact hT.skip aB (by rfl) rfl (by simp[Region.wanted,yielded,FN]) (fun _ _=>trivial) rfl rfl
      |22,_=>have FO:=Qz (ee (aB 12 (by decide)));exact hT.skip aB (by rfl) rfl (by simp[Region.wanted,yielded,FO]) (fun _ _=>trivial) rfl rfl
      |23,_=>have FP:=Qz (ee (aB 12 (by decide)));exact hT.skip aB (by rfl) rfl (by simp[Region.wanted,yielded,FP]) (fun _ _=>trivial) rfl rfl
      |24,_=>have FZ:=ee (aB 12 (by decide));have F2:=Ea (aB 23 (by decide));refine hT.val (w':=X.drew) aB (by rfl) rfl rfl rfl (fun c h=>by cases h) ?_ rfl;simp[execOp,go_sem,FZ,F2]
      |j+25,hj=>exact absurd hj (by simp)
     ·intro q a3 w3 hq hT;have xe:a3.tmps[36]?.getD undef= .bool false:=hT.slot 24 _ 36 (hq 24 (by decide)) rfl rfl;refine Ej a3 w3 (wpIn_cond_false (show a3.eval (.tmp 36)= .bool false by simp[Act.eval,xe]) (wpIn_skip ?_));have vO:w3=X.drew:=hT.wd;subst vO;exact mO
    by_cases hB:cb=i
    ·have Ja:¬ca=(i:Int):=hA;have jK:decide (cb=(i:Int))=true:=decide_eq_true hB;have mO:=aah (fun h=>h.2 hB);refine Hn Gt 38 (fun j=>match j with|0=>.slice (some ⟨g,0,none⟩) 2 cap|1=>.pointer (some ⟨g,0,none⟩)|2=>.int .i64 ca|3=>.int .i64 (i:Int)|4=>.bool true|5=>.bool true|6=>.slice (some ⟨g,0,none⟩) 2 cap|7=>.pointer (some ⟨g,1,none⟩)|8=>.int .i64 cb|9=>.int .i64 (i:Int)|10=>.bool false|11=>.bool false|12=>.bool false|13=>undef|14=>undef|15=>undef|16=>undef|17=>undef|18=>undef|19=>undef|20=>undef|21=>undef|22=>undef|23=>undef|24=>.bool false|_=>undef) [(2,.pointer (some ⟨W.heap.size,0,none⟩)),(3,.pointer (some ⟨W'.heap.size,0,none⟩)),(4,.slice (some ⟨g,0,none⟩) 2 cap)] (fun q w=>w=X.drew) (by decide) ?_ ?_ ?_
     ·exact⟨rfl,rfl,by simp,fun _ _ _ h=>(by cases h),fun _ h=>(by cases h),rfl⟩
     ·intro q j hj hq aB a3 w3 hT;have f2:=hT.fixed (2,.pointer (some ⟨W.heap.size,0,none⟩)) (by simp);have f3:=hT.fixed (3,.pointer (some ⟨W'.heap.size,0,none⟩)) (by simp);have f4:=hT.fixed (4,.slice (some ⟨g,0,none⟩) 2 cap) (by simp);simp only at f2 f3 f4;have g0:q 0=true->a3.tmps[12]?.getD undef= .slice (some ⟨g,0,none⟩) 2 cap:=fun h=>hT.slot 0 _ 12 h rfl rfl;have g1:q 1=true->a3.tmps[13]?.getD undef= .pointer (some ⟨g,0,none⟩):=fun h=>hT.slot 1 _ 13 h rfl rfl;have g2:q 2=true->a3.tmps[14]?.getD undef= .int .i64 ca:=fun h=>hT.slot 2 _ 14 h rfl rfl;have g3:q 3=true->a3.tmps[15]?.getD undef= .int .i64 (i:Int):=fun h=>hT.slot 3 _ 15 h rfl rfl;have g4:q 4=true->a3.tmps[16]?.getD undef= .bool true:=fun h=>hT.slot 4 _ 16 h rfl rfl;have g5:q 5=true->a3.tmps[17]?.getD undef= .bool true:=fun h=>hT.slot 5 _ 17 h rfl rfl;have g6:q 6=true->a3.tmps[18]?.getD undef= .slice (some ⟨g,0,none⟩) 2 cap:=fun h=>hT.slot 6 _ 18 h rfl rfl;have g7:q 7=true->a3.tmps[19]?.getD undef= .pointer (some ⟨g,1,none⟩):=fun h=>hT.slot 7 _ 19 h rfl rfl;have g8:q 8=true->a3.tmps[20]?.getD undef= .int .i64 cb:=fun h=>hT.slot 8 _ 20 h rfl rfl;have g9:q 9=true->a3.tmps[21]?.getD undef= .int .i64 (i:Int):=fun h=>hT.slot 9 _ 21 h rfl rfl;have DX:q 10=true->a3.tmps[22]?.getD undef= .bool false:=fun h=>hT.slot 10 _ 22 h rfl rfl;have DY:q 11=true->a3.tmps[23]?.getD undef= .bool false:=fun h=>hT.slot 11 _ 23 h rfl rfl;have ee:q 12=true->a3.tmps[24]?.getD undef= .bool false:=fun h=>hT.slot 12 _ 24 h rfl rfl;have MI:q 13=true->a3.tmps[25]?.getD undef=undef:=fun h=>hT.slot 13 _ 25 h rfl rfl;have MJ:q 14=true->a3.tmps[26]?.getD undef=undef:=fun h=>hT.slot 14 _ 26 h rfl rfl;have MK:q 15=true->a3.tmps[27]?.getD undef=undef:=fun h=>hT.slot 15 _ 27 h rfl rfl;have MM:q 16=true->a3.tmps[28]?.getD undef=undef:=fun h=>hT.slot 16 _ 28 h rfl rfl;have MN:q 17=true->a3.tmps[29]?.getD undef=undef:=fun h=>hT.slot 17 _ 29 h rfl rfl;have MO:q 18=true->a3.tmps[30]?.getD undef=undef:=fun h=>hT.slot 18 _ 30 h rfl rfl;have MP:q 19=true->a3.tmps[31]?.getD undef=undef:=fun h=>hT.slot 19 _ 31 h rfl rfl;have MQ:q 20=true->a3.tmps[32]?.getD undef=undef:=fun h=>hT.slot 20 _ 32 h rfl rfl;have MR:q 21=true->a3.tmps[33]?.getD undef=undef:=fun h=>hT.slot 21 _ 33 h rfl rfl;have MS:q 22=true->a3.tmps[34]?.getD undef=undef:=fun h=>hT.slot 22 _ 34 h rfl rfl;have Ea:q 23=true->a3.tmps[35]?.getD undef=undef:=fun h=>hT.slot 23 _ 35 h rfl rfl;have xe:q 24=true->a3.tmps[36]?.getD undef= .bool false:=fun h=>hT.slot 24 _ 36 h rfl rfl;have vO:w3=X.drew:=hT.wd;subst vO;obtain⟨tJ,nE,pR,qJ⟩:=Nn
      match j,hj with
      |0,_=>refine hT.val (w':=X.drew) aB (by rfl) rfl rfl rfl (fun c h=>by cases h) ?_ rfl;simp[execOp,go_sem,f4]
      |1,_=>have k0:=g0 (aB 0 (by decide));refine hT.val (w':=X.drew) aB (by rfl) rfl rfl rfl (fun c h=>by cases h) ?_ rfl;simp[execOp,go_sem,k0]
      |2,_=>have k1:=g1 (aB 1 (by decide));refine hT.val (w':=X.drew) aB (by rfl) rfl rfl rfl (fun c h=>by cases h) ?_ rfl;simp[execOp,go_sem,k1,pR]
      |3,_=>refine hT.val (w':=X.drew) aB (by rfl) rfl rfl rfl (fun c h=>by cases h) ?_ rfl;simp[execOp,go_sem,f3,nE]
      |4,_=>have k2:=g2 (aB 2 (by decide));have k3:=g3 (aB 3 (by decide));refine hT.val (w':=X.drew) aB (by rfl) rfl rfl rfl (fun c h=>by cases h) ?_ rfl;simp[execOp,go_sem,k2,k3,hA]
      |5,_=>have k4:=g4 (aB 4 (by decide));refine hT.val (w':=X.drew) aB (by rfl) rfl rfl rfl (fun c h=>by cases h) ?_ rfl;simp[execOp,go_sem,k4]
      |6,_=>have FQ:=Qz (g5 (aB 5 (by decide)));refine hT.val (w':=X.drew) aB (by rfl) rfl (by simp[Region.wanted,yielded,FQ]) rfl (fun c h=>by cases h) ?_ rfl;simp[execOp,go_sem,f4]
      |7,_=>have FR:=Qz (g5 (aB 5 (by decide)));have k6:=g6 (aB 6 (by decide));refine hT.val (w':=X.drew) aB (by rfl) rfl (by simp[Region.wanted,yielded,FR]) rfl (fun c h=>by cases h) ?_ rfl;simp[execOp,go_sem,k6]
      |8,_=>have FT:=Qz (g5 (aB 5 (by decide)));have k7:=g7 (aB 7 (by decide));refine hT.val (w':=X.drew) aB (by rfl) rfl (by simp[Region.wanted,yielded,FT]) rfl (fun c h=>by cases h) ?_ rfl;simp[execOp,go_sem,k7,qJ]
      |9,_=>have FU:=Qz (g5 (aB 5 (by decide)));refine hT.val (w':=X.drew) aB (by rfl) rfl (by simp[Region.wanted,yielded,FU]) rfl (fun c h=>by cases h) ?_ rfl;simp[execOp,go_sem,f3,nE]
      |10,_=>have FE:=Qz (g5 (aB 5 (by decide)));have k8:=g8 (aB 8 (by decide));have k9:=g9 (aB 9 (by decide));refine hT.val (w':=X.drew) aB (by rfl) rfl (by simp[Region.wanted,yielded,FE]) rfl (fun c h=>by cases h) ?_ rfl;simp[execOp,go_sem,k8,k9,hB]
      |11,_=>have k5:=g5 (aB 5 (by decide));have sK:=DX (aB 10 (by decide));refine hT.val (w':=X.drew) aB (by rfl) rfl rfl rfl (fun c h=>by cases h) ?_ rfl;simp[execOp,go_sem,k5,sK]
      |12,_=>have qX:=DY (aB 11 (by decide));refine hT.val (w':=X.drew) aB (by rfl) rfl rfl rfl (fun c h=>by cases h) ?_ rfl;simp[execOp,go_sem,qX]
      |13,_=>have FF:=Qz (ee (aB 12 (by decide)));exact hT.skip aB (by rfl) rfl (by simp[Region.wanted,yielded,FF]) (fun _ _=>trivial) rfl rfl
      |14,_=>have FG:=Qz (ee (aB 12 (by decide)));exact hT.skip aB (by rfl) rfl (by simp[Region.wanted,yielded,FG]) (fun _ _=>trivial) rfl rfl
      |15,_=>have FH:=Qz (ee (aB 12 (by decide)));exact hT.skip aB (by rfl) rfl (by simp[Region.wanted,yielded,FH]) (fun _ _=>trivial) rfl rfl
      |16,_=>have FI:=Qz (ee (aB 12 (by decide)));exact hT.skip aB (by rfl) rfl (by simp[Region.wanted,yielded,FI]) (fun _ _=>trivial) rfl rfl
      |17,_=>have FJ:=Qz (ee (aB 12 (by decide)));exact hT.skip aB (by rfl) rfl (by simp[Region.wanted,yielded,FJ]) (fun _ _=>trivial) rfl rfl
      |18,_=>have FK:=Qz (ee (aB 12 (by decide)));exact hT.skip aB (by rfl) rfl (by simp[Region.wanted,yielded,FK]) (fun _ _=>trivial) rfl rfl
      |19,_=>have FL:=Qz (ee (aB 12 (by decide)));exact hT.skip aB (by rfl) rfl (by simp[Region.wanted,yielded,FL]) (fun _ _=>trivial) rfl rfl
      |20,_=>have FM:=Qz (ee (aB 12 (by decide)));exact hT.skip aB (by rfl) rfl (by simp[Region.wanted,yielded,FM]) (fun _ _=>trivial) rfl rfl
      |21,_=>have FN:=Qz (ee (aB 12 (by decide)));exact hT.skip aB (by rfl) rfl (by simp[Region.wanted,yielded,FN]) (fun _ _=>trivial) rfl rfl
      |22,_=>have FO:=Qz (ee (aB 12 (by decide)));exact hT.skip aB (by rfl) rfl (by simp[Region.wanted,yielded,FO]) (fun _ _=>trivial) rfl rfl
      |23,_=>have FP:=Qz (ee (aB 12 (by decide)));exact hT.skip aB (by rfl) rfl (by simp[Region.wanted,yielded,FP]) (fun _ _=>trivial) rfl rfl
      |24,_=>have FZ:=ee (aB 12 (by decide));have F2:=Ea (aB 23 (by decide));refine hT.val (w':=X.drew) aB (by rfl) rfl rfl rfl (fun c h=>by cases h) ?_ rfl;simp[execOp,go_sem,FZ,F2]
      |j+25,hj=>exact absurd hj (by simp)
     ·intro q a3 w3 hq hT;have xe:a3.tmps[36]?.getD undef= .bool false:=hT.slot 24 _ 36 (hq 24 (by decide)) rfl rfl;refine Ej a3 w3 (wpIn_cond_false (show a3.eval (.tmp 36)= .bool false by simp[Act.eval,xe]) (wpIn_skip ?_));have vO:w3=X.drew:=hT.wd;subst vO;exact mO
    obtain⟨Xa,BA⟩:∃Xa,Xa=X.drew.alloc (.cells #[.int .i64 (i:Int),.int .i64 ca,.int .i64 cb] eI):=⟨_,rfl⟩
    have BH:∀Z,bT Z X Xa:=fun Z=>by rw[BA];exact(show bT Z X X.drew from⟨rfl,rfl,rfl,Kae _,fun _ _ _=>rfl⟩).trans (bT.alloc _ _ _)
    have X5:∀Z,Ext Z X Xa:=fun Z=>by rw[BA];exact(show Ext Z X X.drew from⟨rfl,rfl,rfl,Kae _,fun _ _ _=>rfl⟩).trans (Ext.fo _ _ _)
    have Jw:Xa.heap.size=X.heap.size+1:=by rw[BA];simp
    have hcA:Xa.cell? ⟨W.heap.size,0,none⟩=some yv/\Xa.cell? ⟨W'.heap.size,0,none⟩=some (.int .i64 (i:Int))/\Xa.cell? ⟨g,0,none⟩=some (.int .i64 ca)/\Xa.cell? ⟨g,1,none⟩=some (.int .i64 cb):=by
     rw[BA];refine⟨(XO.alloc _).cell,(XP.alloc _).cell,?_,?_⟩
     ·exact(Kb0 (w:=X.drew) (a:=⟨g,0,none⟩) (Below.heap_alloc X.drew _ g tQ)).trans Jd.1
     ·exact(Kb0 (w:=X.drew) (a:=⟨g,1,none⟩) (Below.heap_alloc X.drew _ g tQ)).trans Jd.2
    have hSa:jE eI (.slice (some ⟨X.heap.size,0,none⟩) 3 3) [(i:Int),ca,cb] Xa:=by rw[BA];exact⟨rfl,.inr ⟨X.heap.size,3,_,rfl,Ka6 _,World.alloc_heap_new _ _,Kae _,by decide,rfl,rfl⟩⟩
    have hJa:=hJ.kept _ _ _ _ h4 (BH Y1);have avU:∀b,Value.ownBlock (.slice (some ⟨X.heap.size,0,none⟩) 3 3)=some b->¬Y1 b/\W.heap.size<=b:=fun b hb=>⟨fun h=>(by simp[Value.ownBlock]at hb;have:=tN b h;omega),(by simp[Value.ownBlock]at hb;omega)⟩
    have hfa:∀(pre m8:List (List Int)),(pre++[ca,cb]::m8).filterMap (gT i)=pre.filterMap (gT i)++[(i:Int),ca,cb]::m8.filterMap (gT i):=fun pre m8=>by rw[List.filterMap_append,Kck];simp[gT,hA,hB]
    have Fp:((List.range' 0 n).flatMap fun m=>(fy n 2 0).filterMap (gT m))=(D0++pre.filterMap (gT i))++[(i:Int),ca,cb]::(m8.filterMap (gT i)++(List.range' (i+1) (n-i-1)).flatMap fun m=>(fy n 2 0).filterMap (gT m)):=by
     have e1:List.range' 0 n=List.range' 0 i++i::List.range' (i+1) (n-i-1):=by
      conv=>lhs;rw[show n=i+((n-i-1)+1)by omega]
      rw[<-List.range'_append_1,Ka1,List.range'_succ]
     rw[e1,Kcj,KaC,<-Bt];have hq:(fy n 2 0).filterMap (gT i)=pre.filterMap (gT i)++[(i:Int),ca,cb]::m8.filterMap (gT i):=by rw[mV];exact hfa _ _
     rw[hq];simp[Ka8]
    have mO:∀Y' w,J ((D0++pre.filterMap (gT i))++[[(i:Int),ca,cb]]) Y' w->kJ Y1 (some X.heap.size) Xa Y' w->Ia (fun pre Yi X=>∃Y1,(∀b,Yi b↔Y1 b∨Ob b)/\(∀b,Ob b->¬Y1 b)/\(∀b,Ob b->b<X.heap.size)/\J (D0++pre.filterMap (gT i)) Y1 X/\Boxed X W'.heap.size eI (.int .i64 (i:Nat))/\Boxed X W.heap.size 121 yv/\eB W.heap.size ds W'.heap.size X) (pre++[[ca,cb]]) Yi (some g) X .normal { tmps:= #[],defers:=[] } w:=fun Y' w aT dv=>by
     have bC:∀b,Ob b->w.heap[b]? =X.heap[b]? :=fun b hb=>(dv.ext.block b (by have:=h3 b hb;omega) (h2 b hb)).trans ((X5 Q5).block b (h3 b hb) id);have Es:∀b,Y' b->Y1 b∨X.heap.size<=b:=fun b hb=>by
      rcases dv.own b hb with h|h|h
      ·exact .inl h
      ·exact .inr (by omega)
      ·cases h;exact .inr (Kae _)
     refine⟨fun b=>Y' b∨Ob b,⟨Y',fun _=>Iff.rfl,fun b hb h=>?_,fun b hb=>(by have:=h3 b hb;have:=dv.ext.size;omega),?_,(bC _ ((iu _).2 (.inl rfl))).trans h5,(bC _ ((iu _).2 (.inr (.inl rfl)))).trans h6,h7.kept fun b hb=>bC b ((iu b).2 (.inr (.inr hb)))⟩,⟨fun b hb=>?_,?_⟩⟩
     ·rcases Es b h with h|h
      ·exact h2 b hb h
      ·have:=h3 b hb;omega
     ·rw[X8,if_pos ⟨hA,hB⟩,<-List.append_assoc];exact aT
     ·rcases hb with h|h
      ·rcases Es b h with h|h
       ·exact .inl ((h1 b).2 (.inl h))
       ·exact .inr (.inl h)
      ·exact .inl ((h1 b).2 (.inr h))
     ·exact(X5 _).trans (dv.ext.mono fun b _ h=>(h1 b).2 (.inl h))
    refine Hn Gt 38 (fun j=>match j with|0=>.slice (some ⟨g,0,none⟩) 2 cap|1=>.pointer (some ⟨g,0,none⟩)|2=>.int .i64 ca|3=>.int .i64 (i:Int)|4=>.bool true|5=>.bool true|6=>.slice (some ⟨g,0,none⟩) 2 cap|7=>.pointer (some ⟨g,1,none⟩)|8=>.int .i64 cb|9=>.int .i64 (i:Int)|10=>.bool true|11=>.bool true|12=>.bool true|13=>yv|14=>.int .i64 (i:Int)|15=>.slice (some ⟨g,0,none⟩) 2 cap|16=>.pointer (some ⟨g,0,none⟩)|17=>.int .i64 ca|18=>.slice (some ⟨g,0,none⟩) 2 cap|19=>.pointer (some ⟨g,1,none⟩)|20=>.int .i64 cb|21=>.slice (some ⟨X.heap.size,0,none⟩) 3 3|22=>.bool true|23=>.bool false|24=>.bool false|_=>undef) [(2,.pointer (some ⟨W.heap.size,0,none⟩)),(3,.pointer (some ⟨W'.heap.size,0,none⟩)),(4,.slice (some ⟨g,0,none⟩) 2 cap)] (fun q w=>(q 22=true/\∃Y',J ((D0++pre.filterMap (gT i))++[[(i:Int),ca,cb]]) Y' w/\kJ Y1 (some X.heap.size) Xa Y' w)∨(q 22=false/\((q 21=true/\w=Xa)∨(q 21=false/\w=X.drew)))) (by decide) ?_ ?_ ?_
    ·exact⟨rfl,rfl,by simp,fun _ _ _ h=>(by cases h),fun _ h=>(by cases h),.inr ⟨rfl,.inr ⟨rfl,rfl⟩⟩⟩
    ·intro q j hj hq aB a3 w3 hT;have f2:=hT.fixed (2,.pointer (some ⟨W.heap.size,0,none⟩)) (by simp);have f3:=hT.fixed (3,.pointer (some ⟨W'.heap.size,0,none⟩)) (by simp);have f4:=hT.fixed (4,.slice (some ⟨g,0,none⟩) 2 cap) (by simp);simp only at f2 f3 f4;have g0:q 0=true->a3.tmps[12]?.getD undef= .slice (some ⟨g,0,none⟩) 2 cap:=fun h=>hT.slot 0 _ 12 h rfl rfl;have g1:q 1=true->a3.tmps[13]?.getD undef= .pointer (some ⟨g,0,none⟩):=fun h=>hT.slot 1 _ 13 h rfl rfl;have g2:q 2=true->a3.tmps[14]?.getD undef= .int .i64 ca:=fun h=>hT.slot 2 _ 14 h rfl rfl;have g3:q 3=true->a3.tmps[15]?.getD undef= .int .i64 (i:Int):=fun h=>hT.slot 3 _ 15 h rfl rfl;have g4:q 4=true->a3.tmps[16]?.getD undef= .bool true:=fun h=>hT.slot 4 _ 16 h rfl rfl;have g5:q 5=true->a3.tmps[17]?.getD undef= .bool true:=fun h=>hT.slot 5 _ 17 h rfl rfl;have g6:q 6=true->a3.tmps[18]?.getD undef= .slice (some ⟨g,0,none⟩) 2 cap:=fun h=>hT.slot 6 _ 18 h rfl rfl;have g7:q 7=true->a3.tmps[19]?.getD undef= .pointer (some ⟨g,1,none⟩):=fun h=>hT.slot 7 _ 19 h rfl rfl;have g8:q 8=true->a3.tmps[20]?.getD undef= .int .i64 cb:=fun h=>hT.slot 8 _ 20 h rfl rfl;have g9:q 9=true->a3.tmps[21]?.getD undef= .int .i64 (i:Int):=fun h=>hT.slot 9 _ 21 h rfl rfl;have DX:q 10=true->a3.tmps[22]?.getD undef= .bool true:=fun h=>hT.slot 10 _ 22 h rfl rfl;have DY:q 11=true->a3.tmps[23]?.getD undef= .bool true:=fun h=>hT.slot 11 _ 23 h rfl rfl;have ee:q 12=true->a3.tmps[24]?.getD undef= .bool true:=fun h=>hT.slot 12 _ 24 h rfl rfl;have MI:q 13=true->a3.tmps[25]?.getD undef=yv:=fun h=>hT.slot 13 _ 25 h rfl rfl;have MJ:q 14=true->a3.tmps[26]?.getD undef= .int .i64 (i:Int):=fun h=>hT.slot 14 _ 26 h rfl rfl;have MK:q 15=true->a3.tmps[27]?.getD undef= .slice (some ⟨g,0,none⟩) 2 cap:=fun h=>hT.slot 15 _ 27 h rfl rfl;have MM:q 16=true->a3.tmps[28]?.getD undef= .pointer (some ⟨g,0,none⟩):=fun h=>hT.slot 16 _ 28 h rfl rfl;have MN:q 17=true->a3.tmps[29]?.getD undef= .int .i64 ca:=fun h=>hT.slot 17 _ 29 h rfl rfl;have MO:q 18=true->a3.tmps[30]?.getD undef= .slice (some ⟨g,0,none⟩) 2 cap:=fun h=>hT.slot 18 _ 30 h rfl rfl;have MP:q 19=true->a3.tmps[31]?.getD undef= .pointer (some ⟨g,1,none⟩):=fun h=>hT.slot 19 _ 31 h rfl rfl;have MQ:q 20=true->a3.tmps[32]?.getD undef= .int .i64 cb:=fun h=>hT.slot 20 _ 32 h rfl rfl;have MR:q 21=true->a3.tmps[33]?.getD undef= .slice (some ⟨X.heap.size,0,none⟩) 3 3:=fun h=>hT.slot 21 _ 33 h rfl rfl;have MS:q 22=true->a3.tmps[34]?.getD undef= .bool true:=fun h=>hT.slot 22 _ 34 h rfl rfl;have Ea:q 23=true->a3.tmps[35]?.getD undef= .bool false:=fun h=>hT.slot 23 _ 35 h rfl rfl;have xe:q 24=true->a3.tmps[36]?.getD undef= .bool false:=fun h=>hT.slot 24 _ 36 h rfl rfl;have rZ:q 22=true->q 12=true/\q 13=true/\q 21=true:=fun h=>⟨hT.cl 22 h 12 (by decide),hT.cl 22 h 13 (by decide),hT.cl 22 h 21 (by decide)⟩
     have DV:q 21=true->q 12=true/\q 14=true/\q 17=true/\q 20=true:=fun h=>⟨hT.cl 21 h 12 (by decide),hT.cl 21 h 14 (by decide),hT.cl 21 h 17 (by decide),hT.cl 21 h 20 (by decide)⟩
     have wZ:q 12=true->q 5=true/\q 11=true:=fun h=>⟨hT.cl 12 h 5 (by decide),hT.cl 12 h 11 (by decide)⟩
     have wY:q 11=true->q 5=true/\q 10=true:=fun h=>⟨hT.cl 11 h 5 (by decide),hT.cl 11 h 10 (by decide)⟩
     have c5:q 5=true->q 4=true:=fun h=>hT.cl 5 h 4 (by decide);have c4:q 4=true->q 2=true/\q 3=true:=fun h=>⟨hT.cl 4 h 2 (by decide),hT.cl 4 h 3 (by decide)⟩
     have Bm:q 10=true->q 5=true/\q 8=true/\q 9=true:=fun h=>⟨hT.cl 10 h 5 (by decide),hT.cl 10 h 8 (by decide),hT.cl 10 h 9 (by decide)⟩
     have xG:q 22=false->w3.cell? ⟨W.heap.size,0,none⟩=some yv/\w3.cell? ⟨W'.heap.size,0,none⟩=some (.int .i64 (i:Int))/\w3.cell? ⟨g,0,none⟩=some (.int .i64 ca)/\w3.cell? ⟨g,1,none⟩=some (.int .i64 cb):=fun h=>by
      rcases hT.wd with⟨h',_⟩|⟨_,⟨_,rfl⟩|⟨_,rfl⟩⟩
      ·rw[h]at h';cases h'
      ·exact hcA
      ·exact Nn
     match j,hj with
     |0,_=>refine hT.val (w':=w3) aB (by rfl) rfl rfl rfl (fun c h=>by cases h) ?_ (by simpa using hT.wd);simp[execOp,go_sem,f4]
     |1,_=>have k0:=g0 (aB 0 (by decide));refine hT.val (w':=w3) aB (by rfl) rfl rfl rfl (fun c h=>by cases h) ?_ (by simpa using hT.wd);simp[execOp,go_sem,k0]
     |2,_=>
      have k1:=g1 (aB 1 (by decide));have lD:q 22=false:=by cases h:q 22 with|true=>rw[(c4 (c5 (wY (wZ (rZ h).1).2).1)).1]at hq;cases hq|false=>rfl
      obtain⟨tJ,nE,pR,qJ⟩:=xG lD;refine hT.val (w':=w3) aB (by rfl) rfl rfl rfl (fun c h=>by cases h) ?_ (by simpa using hT.wd);simp[execOp,go_sem,k1,pR]
     |3,_=>
      have lD:q 22=false:=by cases h:q 22 with|true=>rw[(c4 (c5 (wY (wZ (rZ h).1).2).1)).2]at hq;cases hq|false=>rfl
      obtain⟨tJ,nE,pR,qJ⟩:=xG lD;refine hT.val (w':=w3) aB (by rfl) rfl rfl rfl (fun c h=>by cases h) ?_ (by simpa using hT.wd);simp[execOp,go_sem,f3,nE]
     |4,_=>have k2:=g2 (aB 2 (by decide));have k3:=g3 (aB 3 (by decide));refine hT.val (w':=w3) aB (by rfl) rfl rfl rfl (fun c h=>by cases h) ?_ (by simpa using hT.wd);simp[execOp,go_sem,k2,k3,hA]
     |5,_=>have k4:=g4 (aB 4 (by decide));refine hT.val (w':=w3) aB (by rfl) rfl rfl rfl (fun c h=>by cases h) ?_ (by simpa using hT.wd);simp[execOp,go_sem,k4]
     |6,_=>have FQ:=Qz (g5 (aB 5 (by decide)));refine hT.val (w':=w3) aB (by rfl) rfl (by simp[Region.wanted,yielded,FQ]) rfl (fun c h=>by cases h) ?_ (by simpa using hT.wd);simp[execOp,go_sem,f4]
     |7,_=>have FR:=Qz (g5 (aB 5 (by decide)));have k6:=g6 (aB 6 (by decide));refine hT.val (w':=w3) aB (by rfl) rfl (by simp[Region.wanted,yielded,FR]) rfl (fun c h=>by cases h) ?_ (by simpa using hT.wd);simp[execOp,go_sem,k6]
     |8,_=>
      have FT:=Qz (g5 (aB 5 (by decide)));have k7:=g7 (aB 7 (by decide));have lD:q 22=false:=by cases h:q 22 with|true=>rw[(Bm (wY (wZ (rZ h).1).2).2).2.1]at hq;cases hq|false=>rfl
      obtain⟨tJ,nE,pR,qJ⟩:=xG lD;refine hT.val (w':=w3) aB (by rfl) rfl (by simp[Region.wanted,yielded,FT]) rfl (fun c h=>by cases h) ?_ (by simpa using hT.wd);simp[execOp,go_sem,k7,qJ]
     |9,_=>
      have FU:=Qz (g5 (aB 5 (by decide)));have lD:q 22=false:=by cases h:q 22 with|true=>rw[(Bm (wY (wZ (rZ h).1).2).2).2.2]at hq;cases hq|false=>rfl
      obtain⟨tJ,nE,pR,qJ⟩:=xG lD;refine hT.val (w':=w3) aB (by rfl) rfl (by simp[Region.wanted,yielded,FU]) rfl (fun c h=>by cases h) ?_ (by simpa using hT.wd);simp[execOp,go_sem,f3,nE]
     |10,_=>have FE:=Qz (g5 (aB 5 (by decide)));have k8:=g8 (aB 8 (by decide));have k9:=g9 (aB 9 (by decide));refine hT.val (w':=w3) aB (by rfl) rfl (by simp[Region.wanted,yielded,FE]) rfl (fun c h=>by cases h) ?_ (by simpa using hT.wd);simp[execOp,go_sem,k8,k9,hB]
     |11,_=>have k5:=g5 (aB 5 (by decide));have sK:=DX (aB 10 (by decide));refine hT.val (w':=w3) aB (by rfl) rfl rfl rfl (fun c h=>by cases h) ?_ (by simpa using hT.wd);simp[execOp,go_sem,k5,sK]
     |12,_=>have qX:=DY (aB 11 (by decide));refine hT.val (w':=w3) aB (by rfl) rfl rfl rfl (fun c h=>by cases h) ?_ (by simpa using hT.wd);simp[execOp,go_sem,qX]
     |13,_=>
      have FF:=Qz (ee (aB 12 (by decide)));have lD:q 22=false:=by cases h:q 22 with|true=>rw[(rZ h).2.1]at hq;cases hq|false=>rfl
      obtain⟨tJ,nE,pR,qJ⟩:=xG lD;refine hT.val (w':=w3) aB (by rfl) rfl (by simp[Region.wanted,yielded,FF]) rfl (fun c h=>by cases h) ?_ (by simpa using hT.wd);simp[execOp,go_sem,f2,tJ]
     |14,_=>
      have FG:=Qz (ee (aB 12 (by decide)));have lD:q 22=false:=by cases h:q 22 with|true=>rw[(DV (rZ h).2.2).2.1]at hq;cases hq|false=>rfl
      obtain⟨tJ,nE,pR,qJ⟩:=xG lD;refine hT.val (w':=w3) aB (by rfl) rfl (by simp[Region.wanted,yielded,FG]) rfl (fun c h=>by cases h) ?_ (by simpa using hT.wd);simp[execOp,go_sem,f3,nE]
     |15,_=>have FH:=Qz (ee (aB 12 (by decide)));refine hT.val (w':=w3) aB (by rfl) rfl (by simp[Region.wanted,yielded,FH]) rfl (fun c h=>by cases h) ?_ (by simpa using hT.wd);simp[execOp,go_sem,f4]
     |16,_=>have FI:=Qz (ee (aB 12 (by decide)));have k15:=MK (aB 15 (by decide));refine hT.val (w':=w3) aB (by rfl) rfl (by simp[Region.wanted,yielded,FI]) rfl (fun c h=>by cases h) ?_ (by simpa using hT.wd);simp[execOp,go_sem,k15]
     |17,_=>
      have FJ:=Qz (ee (aB 12 (by decide)));have k16:=MM (aB 16 (by decide));have lD:q 22=false:=by cases h:q 22 with|true=>rw[(DV (rZ h).2.2).2.2.1]at hq;cases hq|false=>rfl
      obtain⟨tJ,nE,pR,qJ⟩:=xG lD;refine hT.val (w':=w3) aB (by rfl) rfl (by simp[Region.wanted,yielded,FJ]) rfl (fun c h=>by cases h) ?_ (by simpa using hT.wd);simp[execOp,go_sem,k16,pR]
     |18,_=>have FK:=Qz (ee (aB 12 (by decide)));refine hT.val (w':=w3) aB (by rfl) rfl (by simp[Region.wanted,yielded,FK]) rfl (fun c h=>by cases h) ?_ (by simpa using hT.wd);simp[execOp,go_sem,f4]
     |19,_=>have FL:=Qz (ee (aB 12 (by decide)));have k18:=MO (aB 18 (by decide));refine hT.val (w':=w3) aB (by rfl) rfl (by simp[Region.wanted,yielded,FL]) rfl (fun c h=>by cases h) ?_ (by simpa using hT.wd);simp[execOp,go_sem,k18]
     |20,_=>
      have FM:=Qz (ee (aB 12 (by decide)));have k19:=MP (aB 19 (by decide));have lD:q 22=false:=by cases h:q 22 with|true=>rw[(DV (rZ h).2.2).2.2.2]at hq;cases hq|false=>rfl
      obtain⟨tJ,nE,pR,qJ⟩:=xG lD;refine hT.val (w':=w3) aB (by rfl) rfl (by simp[Region.wanted,yielded,FM]) rfl (fun c h=>by cases h) ?_ (by simpa using hT.wd);simp[execOp,go_sem,k19,qJ]
     | 21,_=>
      have FN:=Qz (ee (aB 12 (by decide)));have k14:=MJ (aB 14 (by decide));have k17:=MN (aB 17 (by decide));have k20:=MQ (aB 20 (by decide));have lD:q 22=false:=by cases h:q 22 with|true=>rw[(rZ h).2.2]at hq;cases hq|false=>rfl
      have hw:w3=X.drew:=by
       rcases hT.wd with⟨h',_⟩|⟨_,⟨h',_⟩|⟨_,h'⟩⟩
       ·rw[lD]at h';cases h'
       ·rw[hq]at h';cases h'
       ·exact h'
      subst hw;refine hT.val (w':=Xa) aB (by rfl) rfl (by simp[Region.wanted,yielded,FN]) rfl (fun c h=>by cases h) ?_ (.inr ⟨by simp[lD],.inl ⟨by simp,rfl⟩⟩);simp[execOp,go_sem,k14,k17,k20,BA]
     | 22,_=>
      have FO:=Qz (ee (aB 12 (by decide)));have q21:=aB 21 (by decide);have hw:w3=Xa:=by
       rcases hT.wd with⟨h',_⟩|⟨_,⟨_,h'⟩|⟨h',_⟩⟩
       ·rw[hq]at h';cases h'
       ·exact h'
       ·rw[q21]at h';cases h'
      subst hw;have x1:a3.eval (.tmp 25)= .func (.yield l) #[] #[]:=by rw[<-oW,<-MI (aB 13 (by decide))];simp[Act.eval]
      have x2:a3.eval (.tmp 33)= .slice (some ⟨X.heap.size,0,none⟩) 3 3:=by rw[<-MR q21];simp[Act.eval]
      refine hT.yld aB rfl (by rfl) rfl (by simp[Region.wanted,yielded,FO]) rfl rfl x1 x2 (hY 0 _ _ _ (.slice (some ⟨X.heap.size,0,none⟩) 3 3) Y1 w3 Fp hJa hSa avU) fun e w' he=>?_;exact⟨he.1,.inl ⟨by simp,he.2⟩⟩
     |23,_=>have FP:=Qz (ee (aB 12 (by decide)));have k22:=MS (aB 22 (by decide));refine hT.val (w':=w3) aB (by rfl) rfl (by simp[Region.wanted,yielded,FP]) rfl (fun c h=>by cases h) ?_ (by simpa using hT.wd);simp[execOp,go_sem,k22]
     |24,_=>have FZ:=ee (aB 12 (by decide));have F2:=Ea (aB 23 (by decide));refine hT.val (w':=w3) aB (by rfl) rfl rfl rfl (fun c h=>by cases h) ?_ (by simpa using hT.wd);simp[execOp,go_sem,FZ,F2]
     |j+25,hj=>exact absurd hj (by simp)
    ·intro q a3 w3 hq hT;have xe:a3.tmps[36]?.getD undef= .bool false:=hT.slot 24 _ 36 (hq 24 (by decide)) rfl rfl;refine Ej a3 w3 (wpIn_cond_false (show a3.eval (.tmp 36)= .bool false by simp[Act.eval,xe]) (wpIn_skip ?_));obtain⟨Y',aT,dv⟩:=hT.wd.elim (fun h=>h.2) (fun h=>by rw[hq 22 (by decide)]at h;cases h.1);exact mO Y' w3 aT dv
   case done=>
    rintro D Yi X hD IT ⟨Y1,h1,h2,h3,h4,h5,h6,h7⟩ aS vt;have q5:=aS.ext.size
    gi_wp2
    have XF:=hJ.lt _ _ _ h4;refine⟨⟨i+1,{ target:=.collected D,args:= #[] }::ds,Y1,?_⟩,?_⟩
    ·(repeat apply Exists.intro)
     refine⟨⟨by omega,⟨?_,⟨fun b hb=>?_,?_⟩,h6,h2 _ ((iu _).2 (.inr (.inl rfl))),⟨D,rfl,(by have:=hI.o.ext.size;omega),(Kan.1 vt).1,vt,h7.hi (by omega)⟩,?_⟩⟩,rfl⟩
     ·rw[List.range'_1_concat,Kcj,<-Bt,Ka1];simp only[KaC,KaN,Kak];exact h4
     ·rcases aS.own b ((h1 b).2 (.inl hb))with(h|h)|h|h
      ·exact hI.o.own b h
      ·exact absurd hb (h2 b h)
      ·have:=hI.o.ext.size;exact .inr (.inl (by omega))
      ·cases h
     ·refine(hI.o.ext.trans (vC _)).trans' aS.ext fun b hb h=>?_;rcases h with h|h
      ·rcases hI.o.own b h with h|h|h
       ·exact h
       ·omega
       ·cases h
      ·rcases(iu b).1 h with rfl|rfl|h
       ·have:=hI.o.ext.size;omega
       ·omega
       ·have:=(hI.ms.lt h).1;omega
     ·rintro b (hb|hb)
      ·cases hb;exact fun h=>IT ((h1 D).2 (.inl h))
      ·exact h2 b ((iu b).2 (.inr (.inr hb)))
    ·simp[intOf];omega
  ·have auL:(n:Int)<=(i:Int):=by omega
   have e:i=n:=by omega
   subst e
   gi_wp2
   show LeavesInM _ _ _ _ _ _ _ _ _;refine G7 ds _ W' hI.ms fun w' hw=>⟨_,results_none rfl _ _ _,⟨_,rfl⟩,Y,?_,hI.o.own,?_⟩
   ·exact hJ.kept _ _ _ _ hI.j (hw.kept fun b _ hb hm=>hI.nm b hm hb)
   ·exact⟨hw.os.trans hI.o.ext.os,hw.tape.trans hI.o.ext.tape,hw.output.trans hI.o.ext.output,KaQ hI.o.ext.size hw.size,fun b hb hn=>(hw.block b (KaE hb hI.o.ext.size) (fun hm=>by have:=(hI.ms.lt hm).1;omega)).trans (hI.o.ext.block b hb hn)⟩
end Go.Proofs.YtmkijkjaeljieaaGreat
namespace Go.Proofs.YtmkijkjaeljieaaGreat
open Tryz
open Go Go.FW Go.RowKit Go.Shelf
attribute [local go_sem] Oper.semAt_some
theorem Pd(m:Nat)(w:World)(a:Int)(ft:FuncId):CallsIn Fence.wide m Tryz.prog 28 #[.int .i64 a,.func (.func ft) #[] #[]] w fun e w'=>
  e= .returned (.func (.func 57) #[] #[.pointer (some ⟨w.heap.size,0,none⟩),.pointer (some ⟨w.heap.size+1,0,none⟩)])/\
  w'=(w.alloc (.cells #[.int .i64 a] 3)).alloc (.cells #[.func (.func ft) #[] #[]] 85):=by
 refine callsIn_of_wp func28 rfl trivial ?_ rfl;simp only[Tryz.ntmps28,KaV,Kaz,KaR,Nat.reduceAdd,Nat.reduceSub,Kbc,Kbd,Kbr,Kbe,Kau,Kaw]
 gi_wp2
 go_ret
 exact⟨rfl,rfl⟩
structure oq(lo hi:Nat)(gf:FuncId)(lb:Array Value)(xs:List (List Int))(w:World):Prop where
 en:∀args w,(callFunc gf args).run Tryz.prog w= .ok (.enter gf args) w
 sz:hi<=w.heap.size
 sq:∃B,u0 Fence.wide Tryz.prog gf lb eI B xs w/\∀b,B b->lo<b/\b<hi
theorem oq.kept{lo hi:Nat}{gf:FuncId}{lb:Array Value}{xs:List (List Int)}{w w':World}(h:oq lo hi gf lb xs w)(hk:bT (fun b=>lo<b/\b<hi) w w'):oq lo hi gf lb xs w':=by obtain⟨B,h1,h2⟩:=h.sq;exact⟨h.en,KaQ h.sz hk.size,B,fun n l J Y0 W hW hJ hY hr h0=>h1 n l J Y0 W ((hk.mono fun b _ hb=>h2 b hb).trans hW) hJ hY hr h0,h2⟩
theorem oq.hi{lo hi aE:Nat}{gf:FuncId}{lb:Array Value}{xs:List (List Int)}{w:World}(h:oq lo hi gf lb xs w)(h1:hi<=aE)(h2:aE<=w.heap.size):oq lo aE gf lb xs w:=by obtain⟨B,h3,h4⟩:=h.sq;exact⟨h.en,h2,B,h3,fun b hb=>⟨(h4 b hb).1,KaE (h4 b hb).2 h1⟩⟩
theorem oq.ext{lo:Nat}{gf:FuncId}{lb:Array Value}{xs:List (List Int)}{w w':World}(h:oq lo w.heap.size gf lb xs w)(he:Ext Q5 w w'):oq lo w'.heap.size gf lb xs w':=
 (h.kept (he.kept fun _ _ _ h=>h)).hi he.size (Kae _)
theorem LC(n k lo m:Nat)(hn:n<100)(hk:k<100)(w:World)(mQ:lo<w.heap.size):CallsIn Fence.wide m Tryz.prog 27 #[.int .i64 0,.int .i64 (n:Nat),.int .i64 (k:Nat)] w fun e w'=>
  ∃lb,e= .returned (.func (.func 56) #[] lb)/\Ext Q5 w w'/\oq lo w'.heap.size 56 lb (fy n k 0) w':=by
 refine(KJ m w 0 n k).mono ?_;rintro e w' ⟨rfl,rfl⟩;refine⟨_,rfl,((Ext.fo _ _ _).trans (Ext.fo _ _ _)).trans (Ext.fo _ _ _),enters_of func56 (by kernel_rfl) rfl,Kae _,_,LB n hn k 0 _ _ _ _ hk ?_ ?_ ?_ (by omega),fun b hb=>?_⟩
 ·have:=Boxed.new ((w.alloc (.cells #[.int .i64 0] 3)).alloc (.cells #[.int .i64 (n:Int)] 3)) 3 (.int .i64 (k:Int));simp only[Kbg]at this;exact this
 ·exact((Boxed.new w 3 _).alloc _).alloc _
 ·have:=Boxed.new (w.alloc (.cells #[.int .i64 0] 3)) 3 (.int .i64 (n:Int));simp only[Kbg]at this;exact this.alloc _
 ·simp only[Kbg];rcases hb with rfl|rfl|rfl<;>omega
theorem agh(n lo m:Nat)(hn:n<100)(w:World)(mQ:lo<w.heap.size):CallsIn Fence.wide m Tryz.prog 31 #[.int .i64 (n:Nat)] w fun e w'=>
  ∃lb,e= .returned (.func (.func 59) #[] lb)/\Ext Q5 w w'/\oq lo w'.heap.size 59 lb ((List.range' 0 n).flatMap fun m=>(fy n 2 0).filterMap (gT m)) w':=by
 refine(Qzn m w n).mono ?_;rintro e w' ⟨rfl,rfl⟩;refine⟨_,rfl,Ext.fo _ _ _,enters_of func59 (by kernel_rfl) rfl,Kae _,_,agf n hn _ _ (Boxed.new w 3 _),fun b hb=>?_⟩;subst hb;simp only[Kbg];omega
structure Gu(n:Nat)(S:List (Int×Int)):Prop where
 len:S.length<=400
 seg:∀(m:Nat)(w:World),CallsIn Fence.wide m Tryz.prog 58 #[.int .i64 (n:Nat)] w fun e w'=>∃a cap,e= .returned (.slice a S.length cap)/\Ext Q5 w w'/\
   ∀i (h:i<S.length),∃b off,a=some ⟨b,off,none⟩/\b<w'.heap.size/\w.heap.size<=b/\S.length<=cap/\w'.cell? ⟨b,off+i*2,none⟩=some (.int .i64 S[i].1)/\w'.cell? ⟨b,off+i*2+1,none⟩=some (.int .i64 S[i].2)
 apart:∀(m:Nat)(s1 s2 t1 t2:Int)(w:World),CallsIn Fence.wide m Tryz.prog 29 #[.agg #[.int .i64 s1,.int .i64 s2],.agg #[.int .i64 t1,.int .i64 t2]] w fun e w'=>e= .returned (.bool (uP (s1,s2) (t1,t2)))/\Ext Q5 w w'
 atm:∀(m:Nat)(s1 s2 t1 t2:Int)(w:World),CallsIn Fence.wide m Tryz.prog 30 #[.agg #[.int .i64 s1,.int .i64 s2],.agg #[.int .i64 t1,.int .i64 t2]] w fun e w'=>e= .returned (.bool (rI (s1,s2) (t1,t2)))/\Ext Q5 w w'
theorem Q6s(n lo m:Nat)(S:List (Int×Int))(hS:Gu n S)(w:World)(mQ:lo<w.heap.size):CallsIn Fence.wide m Tryz.prog 28 #[.int .i64 (n:Nat),.func (.func 29) #[] #[]] w fun e w'=>
  ∃lb,e= .returned (.func (.func 57) #[] lb)/\Ext Q5 w w'/\oq lo w'.heap.size 57 lb (ff uP S) w':=by
 refine(Pd m w n _).mono ?_;rintro e w' ⟨rfl,rfl⟩;refine⟨_,rfl,(Ext.fo _ _ _).trans (Ext.fo _ _ _),enters_of func57 (by kernel_rfl) rfl,Kae _,_,Q6p uP S hS.len n hS.seg hS.apart _ _ _ ((Boxed.new w 3 _).alloc _) ?_,fun b hb=>?_⟩
 ·have:=Boxed.new (w.alloc (.cells #[.int .i64 (n:Int)] 3)) 85 (.func (.func 29) #[] #[]);simp only[Kbg]at this;exact this
 ·simp only[Kbg];rcases hb with rfl|rfl<;>omega
theorem UK(n lo m:Nat)(S:List (Int×Int))(hS:Gu n S)(w:World)(mQ:lo<w.heap.size):CallsIn Fence.wide m Tryz.prog 28 #[.int .i64 (n:Nat),.func (.func 30) #[] #[]] w fun e w'=>
  ∃lb,e= .returned (.func (.func 57) #[] lb)/\Ext Q5 w w'/\oq lo w'.heap.size 57 lb (ff rI S) w':=by
 refine(Pd m w n _).mono ?_;rintro e w' ⟨rfl,rfl⟩;refine⟨_,rfl,(Ext.fo _ _ _).trans (Ext.fo _ _ _),enters_of func57 (by kernel_rfl) rfl,Kae _,_,Q6q rI S hS.len n hS.seg hS.atm _ _ _ ((Boxed.new w 3 _).alloc _) ?_,fun b hb=>?_⟩
 ·have:=Boxed.new (w.alloc (.cells #[.int .i64 (n:Int)] 3)) 85 (.func (.func 30) #[] #[]);simp only[Kbg]at this;exact this
 ·simp only[Kbg];rcases hb with rfl|rfl<;>omega
def tA(n:Nat)(S:List (Int×Int)):List (Int×List (List Int)):=
 [(1,fy n 3 0),(2,ff uP S),(3,ff rI S),(4,ff rI S),(5,(List.range' 0 n).flatMap fun m=>(fy n 2 0).filterMap (gT m)),(6,fy n 4 0),(8,fy n 2 0)]
def im(x:Int×List Int×Value):List Value:=[.int .i64 x.1,x.2.2,.bool false,.slice none 0 0,.slice none 0 0]
structure rR(lo base:Nat)(L:List (Int×List Int×Value))(vo:Value)(Y:Nat->Prop)(X:World):Prop where
 bx:Boxed X lo 23 vo
 row:X.ownsRow base 59 5 vo L.length (L.flatMap im)
 Ge:∀b,vo.ownBlock=some b->Y b
 F5:Y lo
 arg:∀x∈L,jE eI x.2.2 x.2.1 X/\∀b,x.2.2.ownBlock=some b->Y b/\base<=b
theorem LD{w w':World}{base:Nat}{e:TypeId}{size n:Nat}{v:Value}{xs:List Value}(h:w.ownsRow base e size v n xs)(hk:∀b,v.ownBlock=some b->w'.heap[b]? =w.heap[b]?):w'.ownsRow base e size v n xs:=by
 refine⟨h.1,?_⟩;rcases h.2 with h2|⟨g,cap,cur,rfl,h3,hg,h4⟩
 ·exact .inl h2
 ·exact .inr ⟨g,cap,cur,rfl,h3,(hk g rfl).trans hg,h4⟩
theorem rR.kept{lo base:Nat}{L:List (Int×List Int×Value)}{vo:Value}{Y:Nat->Prop}{X X':World}(h:rR lo base L vo Y X)(hk:bT Y X X'):rR lo base L vo Y X':=
 ⟨(hk.block lo h.bx.lt h.F5).trans h.bx,LD h.row fun b hb=>hk.block b ((h.row.lt b hb).2) (h.Ge b hb),h.Ge,h.F5,fun x hx=>⟨(h.arg x hx).1.kept fun b hb=>hk.block b (by obtain⟨cur,h⟩:=(h.arg x hx).1.lt hb;exact(Kan.1 h).1) ((h.arg x hx).2 b hb).1,(h.arg x hx).2⟩⟩
theorem rR.step{lo base:Nat}{L:List (Int×List Int×Value)}{vo:Value}{Y:Nat->Prop}{X:World}(h:rR lo base L vo Y X){k:Int}{c:List Int}{v v':Value}{X1 X2:World}{o:Obj}
  (hv:jE eI v c X) (mc:∀b,v.ownBlock=some b->base<=b) (eh:lo<base) (qM:X1=X.alloc o)
  (hr:X2.ownsRow base 59 5 v' (L.length+1) (L.flatMap im++im (k,c,v))) (hg:X1.grownBy X2 vo.ownBlock) (hb:v'.ownBlock=vo.ownBlock∨v'.ownBlock=some X1.heap.size):
  rR lo base (L++[(k,c,v)]) v' (fun b=>Y b∨X.heap.size<=b/\b<(X2.setCell ⟨lo,0,none⟩ v').heap.size∨v.ownBlock=some b) (X2.setCell ⟨lo,0,none⟩ v')/\Ext Y X (X2.setCell ⟨lo,0,none⟩ v')/\∀b,b<X.heap.size->b≠lo->vo.ownBlock≠some b->(X2.setCell ⟨lo,0,none⟩ v').heap[b]? =X.heap[b]? :=by
 have fM:X1.heap.size=X.heap.size+1:=by rw[qM];simp
 have ko:∀b,b<X.heap.size->X1.heap[b]? =X.heap[b]? :=fun b hb=>by rw[qM];exact Below.heap_alloc X _ b hb
 have EZ:=h.bx.lt;have zj:vo.ownBlock≠some lo:=fun e=>by have:=(h.row.lt _ e).1;omega
 have avh:v'.ownBlock≠some lo:=fun e=>by
  rcases hb with h'|h'
  ·exact zj (h'.symm.trans e)
  ·rw[h']at e;cases e;omega
 have bw:Boxed X1 lo 23 vo:=(ko lo EZ).trans h.bx;have cN:Boxed X2 lo 23 vo:=(hg.block lo (by omega) (fun e=>zj e.symm)).trans bw;have fh:(X2.setCell ⟨lo,0,none⟩ v').heap.size=X2.heap.size:=by simp
 have Fi:∀b,b≠lo->(X2.setCell ⟨lo,0,none⟩ v').heap[b]? =X2.heap[b]? :=fun b hb=>by
  have:=(grownBy_setCell' X2 lo v').block b;rcases Kb1 b X2.heap.size with h'|h'
  ·exact this h' (fun e=>hb (by cases e;rfl))
  ·rw[Kbl h',Kbl (by omega)]
 have Ji:=hg.size;refine⟨⟨cN.set v',?_,fun b au=>?_,.inl h.F5,fun x hx=>?_⟩,?_,fun b au h1 h2=>(Fi b h1).trans ((hg.block b (by omega) fun e=>h2 e.symm).trans (ko b au))⟩
 ·have e1:(L++[(k,c,v)]).flatMap im=L.flatMap im++im (k,c,v):=by simp
  rw[Kap,List.length_singleton,e1];exact LD hr fun b au=>Fi b (fun e=>avh (by rw[au,e]))
 ·rcases hb with h'|h'
  ·exact .inl (h.Ge b (h'.symm.trans au))
  ·rw[h']at au;cases au;exact .inr (.inl ⟨by omega,by have:=(hr.lt _ h').2;omega⟩)
 ·rcases KaS.1 hx with hx|hx
  ·obtain⟨h1,h2⟩:=h.arg x hx;refine⟨h1.kept fun b au=>?_,fun b au=>⟨.inl (h2 b au).1,(h2 b au).2⟩⟩;obtain⟨cur,hc⟩:=h1.lt au;have pW:=(Kan.1 hc).1;refine(Fi b (by have:=(h2 b au).2;omega)).trans ((hg.block b (by omega) fun e=>?_).trans (ko b pW));rcases h.row.2 with⟨rfl,_⟩|⟨g,cap,cur',rfl,_,qa,_⟩
   ·cases e
   ·cases e;rw[hc]at qa;cases qa
  ·rw[Kay]at hx;subst hx;refine⟨hv.kept fun b au=>?_,fun b au=>⟨.inr (.inr au),mc b au⟩⟩;obtain⟨cur,hc⟩:=hv.lt au;have pW:=(Kan.1 hc).1;refine(Fi b (by have:=mc b au;omega)).trans ((hg.block b (by omega) fun e=>?_).trans (ko b pW));rcases h.row.2 with⟨rfl,_⟩|⟨g,cap,cur',rfl,_,qa,_⟩
   ·cases e
   ·cases e;rw[hc]at qa;cases qa
 ·refine⟨hg.os.trans (by rw[qM];rfl),hg.tape.trans (by rw[qM];rfl),hg.output.trans (by rw[qM];rfl),by omega,fun b au hn=>?_⟩;exact(Fi b (fun e=>hn (e▸h.F5))).trans ((hg.block b (by omega) fun e=>hn (h.Ge b e.symm)).trans (ko b au))
end Go.Proofs.YtmkijkjaeljieaaGreat
namespace Go.Proofs.YtmkijkjaeljieaaGreat
open Tryz
open Go Go.FW Go.RowKit Go.Shelf
attribute [local go_sem] Oper.semAt_some
def zF:Value:=.agg #[.int .i64 0,.slice none 0 0,.bool false,.slice none 0 0,.slice none 0 0]
theorem aou:(Tryz.prog.info? 59).map (fun i=>(i.zero,i.size,i.bytes))=some (some zF,5,88):=by kernel_rfl
structure B9(lo base gb:Nat)(kd:Int)(fv:Value)(ds:List Deferred)(hi:Nat)(D:List (Int×List Int))(Y:Nat->Prop)(X:World):Prop where
 jf:∃L vo,L.map (fun x=>(x.1,x.2.1))=D/\rR lo base L vo Y X
 yb:∀b,Y b->(b=lo∨base<=b)/\b<X.heap.size
 gh:X.heap[gb]? =some (.cells #[.int .i64 kd,fv] 83 (0,0))
 gy:Y gb
 ms:eB base ds hi X
 my:∀b,eB.bV ds b->Y b
theorem B9.kept{lo base gb:Nat}{kd:Int}{fv:Value}{ds:List Deferred}{hi:Nat}{D:List (Int×List Int)}{Y:Nat->Prop}{X X':World}(h:B9 lo base gb kd fv ds hi D Y X)(hk:bT Y X X'):B9 lo base gb kd fv ds hi D Y X':=by obtain⟨L,vo,h1,h2⟩:=h.jf;exact⟨⟨L,vo,h1,h2.kept hk⟩,fun b hb=>⟨(h.yb b hb).1,KaE (h.yb b hb).2 hk.size⟩,(hk.block _ (h.yb _ h.gy).2 h.gy).trans h.gh,h.gy,h.ms.kept fun b hb=>hk.block b (h.yb b (h.my b hb)).2 (h.my b hb),h.my⟩
theorem rR.mono{lo base:Nat}{L:List (Int×List Int×Value)}{vo:Value}{Y Y':Nat->Prop}{X:World}(h:rR lo base L vo Y X)(hY:∀b,b<X.heap.size->Y b->Y' b):rR lo base L vo Y' X:=
 ⟨h.bx,h.row,fun b hb=>hY b (h.row.lt b hb).2 (h.Ge b hb),hY lo h.bx.lt h.F5,fun x hx=>⟨(h.arg x hx).1,fun b hb=>⟨hY b (by obtain⟨cur,h⟩:=(h.arg x hx).1.lt hb;exact(Kan.1 h).1) ((h.arg x hx).2 b hb).1,((h.arg x hx).2 b hb).2⟩⟩⟩
structure aov(lo G:Nat)(D:List (Int×List Int))(W Wg:World)(ds:List Deferred)(X:World):Prop where
 jf:∃L vo,L.map (fun x=>(x.1,x.2.1))=D/\rR lo (G+1) L vo (fun b=>b=lo∨G+1<=b) X
 kp:bT (fun b=>lo<b/\b<=G) Wg X
 ex:Ext Q5 W X
 ms:eB (G+1) ds X.heap.size X
def aiE(F:List (Int×List Int))(W W':World)(vo:Value):Prop:=∃(L:List (Int×List Int×Value))(base:Nat),L.map (fun x=>(x.1,x.2.1))=F/\Ext Q5 W W'/\W.heap.size<base/\
 W'.ownsRow base 59 5 vo L.length (L.flatMap im)/\∀x∈L,jE eI x.2.2 x.2.1 W'/\∀b,x.2.2.ownBlock=some b->base<=b
def DG(n:Nat)(S:List (Int×Int)):List (Int×List Int):=(tA n S).flatMap fun g=>g.2.map fun l=>(g.1,l)
set_option maxHeartbeats 4000000 in
theorem aiF(n:Nat)(hn:n<=10)(S:List (Int×Int))(hS:Gu n S)(hlen:(DG n S).length<=100000)(m:Nat)(W:World):
  CallsIn Fence.wide m Tryz.prog 13 #[.int .i64 (n:Nat)] W fun e W'=>∃vo,e= .returned (.tuple #[vo,.int .i64 0])/\aiE (DG n S) W W' vo:=by
 refine callsIn_of_wp_marks func13 rfl trivial ?_ rfl;simp only[Tryz.ntmps13,KaV,Kaz,KaR,Nat.reduceAdd,Nat.reduceSub,Kbc,Kbd,Kbr,Kbe,Kau,Kaw];have k1:¬(n:Int)<0:=by omega
 have k2:¬(40:Int)<(n:Int):=by omega
 have k3:¬(10:Int)<(n:Int):=by omega
 gi_wp2_with (first|(refine⟨trivial,jL _,?_⟩;refine(LC n 3 W.heap.size _ (by omega) (by omega) _ (by simp)).mono ?_;rintro e w1 ⟨lb1,rfl,xk,IY⟩)|fail)
 have z1:W.heap.size<w1.heap.size:=by have:=xk.size;simp at this;omega
 refine⟨trivial,jL _,?_⟩;refine(Q6s n W.heap.size _ S hS _ z1).mono ?_;rintro e w2 ⟨lb2,rfl,IV,IZ⟩;have z2:W.heap.size<w2.heap.size:=KaE z1 IV.size
 gi_wp2
 refine⟨trivial,jL _,?_⟩;refine(UK n W.heap.size _ S hS _ z2).mono ?_;rintro e w3 ⟨lb3,rfl,fG,Bw⟩;have z3:W.heap.size<w3.heap.size:=KaE z2 fG.size
 gi_wp2
 refine⟨trivial,jL _,?_⟩;refine(UK n W.heap.size _ S hS _ z3).mono ?_;rintro e w4 ⟨lb4,rfl,Bu,I0⟩;have z4:W.heap.size<w4.heap.size:=KaE z3 Bu.size
 gi_wp2
 refine⟨trivial,jL _,?_⟩;refine(agh n W.heap.size _ (by omega) _ z4).mono ?_;rintro e w5 ⟨lb5,rfl,vu,I1⟩;have z5:W.heap.size<w5.heap.size:=KaE z4 vu.size
 gi_wp2
 refine⟨trivial,jL _,?_⟩;refine(LC n 4 W.heap.size _ (by omega) (by omega) _ z5).mono ?_;rintro e w6 ⟨lb6,rfl,xm,I2⟩;have z6:W.heap.size<w6.heap.size:=KaE z5 xm.size
 gi_wp2
 refine⟨trivial,jL _,?_⟩;refine(LC n 2 W.heap.size _ (by omega) (by omega) _ z6).mono ?_;rintro e w7 ⟨lb7,rfl,vv,Xu⟩;have z7:W.heap.size<w7.heap.size:=KaE z6 vv.size;have e7:Ext Q5 (W.alloc (.cells #[.slice none 0 0] 23)) w7:=(((((xk.trans IV).trans fG).trans Bu).trans vu).trans xm).trans vv;replace I2:=I2.ext vv;replace I1:=I1.ext (xm.trans vv);replace I0:=I0.ext ((vu.trans xm).trans vv);replace Bw:=Bw.ext (((Bu.trans vu).trans xm).trans vv);replace IZ:=IZ.ext ((((fG.trans Bu).trans vu).trans xm).trans vv);replace IY:=IY.ext (((((IV.trans fG).trans Bu).trans vu).trans xm).trans vv);clear xk IV fG Bu vu xm vv z1 z2 z3 z4 z5 z6
 gi_wp2
 obtain⟨G,hG⟩:∃G,G=w7.heap.size:=⟨_,rfl⟩
 obtain⟨Wg,Bz⟩:∃Wg,Wg=w7.alloc (.cells #[.int .i64 1,.func (.func 56) #[] lb1,.int .i64 2,.func (.func 57) #[] lb2,.int .i64 3,.func (.func 57) #[] lb3,.int .i64 4,.func (.func 57) #[] lb4,.int .i64 5,.func (.func 59) #[] lb5,.int .i64 6,.func (.func 56) #[] lb6,.int .i64 8,.func (.func 56) #[] lb7] 83):=⟨_,rfl⟩
 have Ji:∀i,i<7->∃kd gf lb xs,(tA n S)[i]? =some (kd,xs)/\Wg.cell? ⟨G,i*2,none⟩=some (.int .i64 kd)/\Wg.cell? ⟨G,i*2+1,none⟩=some (.func (.func gf) #[] lb)/\oq W.heap.size G gf lb xs Wg:=by
  have hk:∀Y,bT Y w7 Wg:=fun Y=>by rw[Bz];exact bT.alloc _ _ _
  have hc:Wg.heap[G]? =some (.cells #[.int .i64 1,.func (.func 56) #[] lb1,.int .i64 2,.func (.func 57) #[] lb2,.int .i64 3,.func (.func 57) #[] lb3,.int .i64 4,.func (.func 57) #[] lb4,.int .i64 5,.func (.func 59) #[] lb5,.int .i64 6,.func (.func 56) #[] lb6,.int .i64 8,.func (.func 56) #[] lb7] 83 (0,0)):=by rw[Bz,hG];exact World.alloc_heap_new w7 _
  subst hG;intro i hi
  match i,hi with
  |0,_=>exact⟨_,_,_,_,rfl,by simp[World.cell?,hc],by simp[World.cell?,hc],IY.kept (hk _)⟩
  |1,_=>exact⟨_,_,_,_,rfl,by simp[World.cell?,hc],by simp[World.cell?,hc],IZ.kept (hk _)⟩
  |2,_=>exact⟨_,_,_,_,rfl,by simp[World.cell?,hc],by simp[World.cell?,hc],Bw.kept (hk _)⟩
  |3,_=>exact⟨_,_,_,_,rfl,by simp[World.cell?,hc],by simp[World.cell?,hc],I0.kept (hk _)⟩
  |4,_=>exact⟨_,_,_,_,rfl,by simp[World.cell?,hc],by simp[World.cell?,hc],I1.kept (hk _)⟩
  |5,_=>exact⟨_,_,_,_,rfl,by simp[World.cell?,hc],by simp[World.cell?,hc],I2.kept (hk _)⟩
  |6,_=>exact⟨_,_,_,_,rfl,by simp[World.cell?,hc],by simp[World.cell?,hc],Xu.kept (hk _)⟩
  |i+7,h=>omega
 have hsG:Wg.heap.size=G+1:=by rw[Bz,hG];simp
 have hlG:W.heap.size<G:=by rw[hG];exact z7
 have Xr:Ext Q5 (W.alloc (.cells #[.slice none 0 0] 23)) Wg:=e7.trans (by rw[Bz];exact Ext.fo _ _ _);have BE:Boxed Wg W.heap.size 23 (.slice none 0 0):=(Xr.block _ (by simp) id).trans (Boxed.new W _ _);rw[<-Bz,<-hG];clear IY IZ Bw I0 I1 I2 Xu e7 z7;clear Bz hG;refine wpIn_loop (fun a' X0=>∃(i:Nat)(ds:List Deferred)(u1 u5 u6 u7 u8 u9 uj uk um uo uq sR u16 ur uu uv uw ux uy uz sS sT sU sV sW sX sY sZ u32 zR zS zT zU u40 u41 u42 u43 u44 u45 ON OO OP OQ OR OS OT OU OV:Value),(i<=7/\aov W.heap.size G (((tA n S).take i).flatMap fun g=>g.2.map fun l=>(g.1,l)) W Wg ds X0)/\a'=⟨#[.int .i64 (n:Int),u1,.slice none 0 0,.int .i64 0,.pointer (some ⟨W.heap.size,0,none⟩),u5,u6,u7,u8,u9,uj,uk,um,uo,uq,sR,u16,ur,uu,uv,uw,ux,uy,uz,sS,sT,sU,sV,sW,sX,sY,sZ,u32,zR,zS,zT,zU,.slice (some ⟨G,0,none⟩) 7 7,.int .i64 7,.int .i64 (i:Int),u40,u41,u42,u43,u44,u45,ON,OO,OP,OQ,OR,OS,OT,OU,OV],ds⟩)
  (fun a' _=>7-(intOf (a'.tmps.getD 39 undef)).toNat) ?_ ?_
 ·refine⟨0,[],?_⟩
  (repeat apply Exists.intro)
  refine⟨⟨Ka6 _,⟨[],.slice none 0 0,rfl,⟨BE,World.ownsRow_nil _ _ _ _,fun b hb=>(by cases hb),.inl rfl,fun x hx=>(by cases hx)⟩⟩,bT.refl _ _,(Ext.fo _ _ _).trans Xr,trivial⟩,rfl⟩
 ·rintro a' X0 ⟨i,ds,u1,u5,u6,u7,u8,u9,uj,uk,um,uo,uq,sR,u16,ur,uu,uv,uw,ux,uy,uz,sS,sT,sU,sV,sW,sX,sY,sZ,u32,zR,zS,zT,zU,u40,u41,u42,u43,u44,u45,ON,OO,OP,OQ,OR,OS,OT,OU,OV,⟨hi,hI⟩,rfl⟩
  try dsimp only
  by_cases hi7:i<7
  ·obtain⟨kd,gf,lb,xs,oL,nP,jh,EL⟩:=Ji i hi7;have hxG:X0.heap[G]? =Wg.heap[G]? :=hI.kp.block G (by omega) ⟨hlG,Kae _⟩;have q1:X0.cell? ⟨G,i*2,none⟩=some (.int .i64 kd):=(Kb0 (w:=Wg) (a:=⟨G,_,none⟩) hxG).trans nP;have q2:X0.cell? ⟨G,i*2+1,none⟩=some (.func (.func gf) #[] lb):=(Kb0 (w:=Wg) (a:=⟨G,_,none⟩) hxG).trans jh;have Za:=EL.kept (hI.kp.mono fun b _ hb=>⟨hb.1,Nat.le_of_lt hb.2⟩);have p1:(i:Int)<7:=by omega
   have p2:(0:Int)<=(i:Int):=by omega
   clear nP jh
   gi_wp2
   obtain⟨L0,vo0,qK,nK⟩:=hI.jf;obtain⟨B,Bs,Xo⟩:=Za.sq;obtain⟨D0,Bt⟩:∃D0,D0=((tA n S).take i).flatMap fun g=>g.2.map fun l=>(g.1,l):=⟨_,rfl⟩
   rw[<-Bt]at qK;obtain⟨X1,qM⟩:∃X1,X1=X0.alloc (.cells #[.int .i64 kd,.func (.func gf) #[] lb] 83):=⟨_,rfl⟩
   have ko:∀Z,bT Z X0 X1:=fun Z=>by rw[qM];exact bT.alloc _ _ _
   have EH:∀Z,Ext Z X0 X1:=fun Z=>by rw[qM];exact Ext.fo _ _ _
   have fM:X1.heap.size=X0.heap.size+1:=by rw[qM];simp
   have auF:X1.heap[X0.heap.size]? =some (.cells #[.int .i64 kd,.func (.func gf) #[] lb] 83 (0,0)):=by rw[qM];exact World.alloc_heap_new X0 _
   have hsx:G+1<=X0.heap.size:=by have:=hI.kp.size;omega
   have kq:=hI.ex.size;have axB:=nK.bx.lt;have Fp:(tA n S).take (i+1)=(tA n S).take i++[(kd,xs)]:=by rw[List.take_add_one,oL];rfl
   have Xq:(((tA n S).take (i+1)).flatMap fun g=>g.2.map fun l=>(g.1,l))=D0++xs.map (fun l=>(kd,l)):=by rw[Fp,Kcj,<-Bt];simp
   have hDl:D0.length+xs.length<=100000:=by
    refine KaQ ?_ hlen;have h1:DG n S=(((tA n S).take (i+1)).flatMap fun g=>g.2.map fun l=>(g.1,l))++(((tA n S).drop (i+1)).flatMap fun g=>g.2.map fun l=>(g.1,l)):=by rw[<-List.flatMap_append,Kbk];rfl
    rw[h1,Xq];simp
   rw[<-qM];clear qM q1 q2 EL;refine L7 rfl rfl (gf:=gf) (lb:=lb) rfl trivial Za.en Bs (ko _) (fun b hb=>by have:=(Xo b hb).2;omega) rfl
    (fun pre Yi X=>B9 W.heap.size (G+1) X0.heap.size kd (.func (.func gf) #[] lb) ds X0.heap.size (D0++pre.map (fun l=>(kd,l))) Yi X)
    ⟨fun s Y X X' h hk=>h.kept hk,fun s Y X h b hb=>(h.yb b hb).2⟩ (fun b=>(b=W.heap.size∨G+1<=b)/\b<X1.heap.size) (fun b hb hB=>by have:=Xo b hB;omega) ⟨⟨L0,vo0,?_,?_⟩,fun b hb=>hb,auF,⟨.inr hsx,by omega⟩,?_,?_⟩
    (fun v=>{ tmps:= #[.int .i64 (n:Int),u1,.slice none 0 0,.int .i64 0,.pointer (some ⟨W.heap.size,0,none⟩),u5,.pointer (some ⟨X0.heap.size,0,none⟩),v,u8,u9,uj,uk,um,uo,uq,sR,u16,ur,uu,uv,uw,ux,uy,uz,sS,sT,sU,sV,sW,sX,sY,sZ,u32,zR,zS,zT,zU,.slice (some ⟨G,0,none⟩) 7 7,.int .i64 7,.int .i64 (i:Int),.bool true,.pointer (some ⟨G,i*2,none⟩),.agg #[.int .i64 kd,.func (.func gf) #[] lb],.pointer (some ⟨X0.heap.size,1,none⟩),.func (.func gf) #[] lb,v,ON,OO,OP,OQ,OR,OS,OT,OU,OV],defers:=[] }) ?assign ?body ?done
   ·rw[qK];simp
   ·refine(nK.kept (ko _)).mono fun b hb h=>⟨h,hb⟩
   ·exact hI.ms.kept fun b hb=>(ko (eB.bV ds)).block b (hI.ms.lt hb).2.1 hb
   ·exact fun b hb=>⟨.inr (hI.ms.lt hb).1,by have:=(hI.ms.lt hb).2.1;omega⟩
   case assign=>
    intro l2 v X K hK
    gi_wp2
    exact hK
   case body=>
    rintro l2 pre c m8 v Yi X mV hsX hR hv zA;obtain⟨L,vo,I3,vw⟩:=hR.jf;obtain⟨va,vl,vc,rfl⟩:∃va vl vc,v= .slice va vl vc:=by
     rcases hv.2 with⟨rfl,_⟩|⟨g,cap,cur,rfl,_⟩
     ·exact⟨_,_,_,rfl⟩
     ·exact⟨_,_,_,rfl⟩
    obtain⟨U,hU⟩:∃U,U=(Value.slice va vl vc).ownBlock:=⟨_,rfl⟩
    rw[<-hU]at zA⊢;have c1:=vw.bx.cell;have c2:X.cell? ⟨X0.heap.size,0,none⟩=some (.int .i64 kd):=by simp[World.cell?,hR.gh]
    obtain⟨i0,sr,z0,z1,z2⟩:=info_parts aou;have Ek:L.length+1<=100000:=by
     have h1:=congrArg List.length I3;simp at h1;have h2:xs.length=pre.length+(m8.length+1):=by rw[mV];simp
     omega
    have hYs:G+1<=X.heap.size:=by omega
    have yV:∀(w:World)(j:Nat)(u:Value),(im (kd,c,Value.slice va vl vc))[j]? =some u->(w.alloc (.cells #[.int .i64 kd,Value.slice va vl vc,.bool false,.slice none 0 0,.slice none 0 0] 59)).cell? ((⟨w.heap.size,0,none⟩:Addr).add j)=some u:=fun w j u hj=>by
     have h0:=World.alloc_heap_new w (.cells #[.int .i64 kd,Value.slice va vl vc,.bool false,.slice none 0 0,.slice none 0 0] 59);have h1:(⟨w.heap.size,0,none⟩:Addr).add j=⟨w.heap.size,j,none⟩:=by unfold Addr.add;split<;>simp_all
     rw[h1];unfold World.cell?;rw[h0];simpa[im]using hj
    have NU:∀u∈im (kd,c,Value.slice va vl vc),u.oneCell'=true:=fun u hu=>by unfold im at hu;simp only[KaH,Kbh,or_false]at hu;rcases hu with rfl|rfl|rfl|rfl|rfl<;>rfl
    have mc:∀b,(Value.slice va vl vc).ownBlock=some b->G+1<=b:=fun b hb=>by rw[<-hU]at hb;have:=(zA b hb).2;omega
    have dS:∀(v':Value)(X2:World),X2.ownsRow (G+1) 59 5 v' (L.length+1) (L.flatMap im++im (kd,c,Value.slice va vl vc))->(X.alloc (.cells #[.int .i64 kd,Value.slice va vl vc,.bool false,.slice none 0 0,.slice none 0 0] 59)).grownBy X2 vo.ownBlock->(v'.ownBlock=vo.ownBlock∨v'.ownBlock=some (X.heap.size+1))->
      Ia (fun pre Yi X=>B9 W.heap.size (G+1) X0.heap.size kd (.func (.func gf) #[] lb) ds X0.heap.size (D0++pre.map (fun l=>(kd,l))) Yi X) (pre++[c]) Yi U X .normal { tmps:= #[],defers:=[] } (X2.setCell ⟨W.heap.size,0,none⟩ v'):=fun v' X2 r1 r2 r3=>by
     obtain⟨h5,h6,h7⟩:=vw.step hv mc (by omega) rfl r1 r2 (by simpa using r3);have qU:∀b c e f,X.heap[b]? =some (Obj.cells c e f)->e≠59->vo.ownBlock≠some b:=fun b c e f hb he hv=>by
      rcases vw.row.2 with⟨rfl,_⟩|⟨g,cap,cur',rfl,_,qa,_⟩
      ·cases hv
      ·cases hv;rw[hb]at qa;cases qa;exact he rfl
     have avt:∀b c,X.heap[b]? =some (Obj.deferred c)->vo.ownBlock≠some b:=fun b c hb hv=>by
      rcases vw.row.2 with⟨rfl,_⟩|⟨g,cap,cur',rfl,_,qa,_⟩
      ·cases hv
      ·cases hv;rw[hb]at qa;cases qa
     have aaw:=h6.size;refine⟨_,⟨⟨_,_,?_,h5⟩,fun b hb=>?_,?_,.inl hR.gy,?_,fun b hb=>.inl (hR.my b hb)⟩,fun b hb=>?_,h6⟩
     ·rw[KbS,I3];simp
     ·rcases hb with hb|hb|hb
      ·exact⟨(hR.yb b hb).1,KaE (hR.yb b hb).2 aaw⟩
      ·exact⟨.inr (by omega),hb.2⟩
      ·obtain⟨cur,hc⟩:=hv.lt hb;exact⟨.inr (mc b hb),KaE (Kan.1 hc).1 aaw⟩
     ·exact(h7 _ (Kan.1 hR.gh).1 (by omega) (qU _ _ _ _ hR.gh (by decide))).trans hR.gh
     ·exact hR.ms.kept fun b hb=>h7 b (hR.yb b (hR.my b hb)).2 (by have:=(hR.ms.lt hb).1;omega) (avt _ _ (hR.ms.lt hb).2.2)
     ·rcases hb with hb|hb|hb
      ·exact .inl hb
      ·exact .inr (.inl hb.1)
      ·exact .inr (.inr (hU.trans hb))
    gi_wp2_with (first|(gi_at_builtin;go_loud (refine KE _ rfl _ _ 23 rfl (G+1) 59 i0 zF 5 88 Tryz.underlying23 sr z0 z1 z2 rfl (by decide) vo L.length _ rfl (vw.row.alloc _) ⟨X.heap.size,0,none⟩ 1 1 (im (kd,c,Value.slice va vl vc)) rfl rfl (yV X) NU (by simp only[maxLen];omega) (by omega) (by simp;omega) ?_;intro v' X2 r1 r2 r3;obtain⟨g',eJ,rfl⟩:=ownsRow_succ r1;have cN:Boxed X2 W.heap.size 23 vo:=(vw.bx.alloc _).kept r2 (fun e=>by have:=(vw.row.lt _ e.symm).1;omega);have jJ:=cN.cell;have hf2:=cN.frozen))|fail)
    exact dS _ X2 r1 r2 (by simpa using r3)
   case done=>
    rintro Dm Yi X hD IT hR aS vt;obtain⟨L,vo,I3,vw⟩:=hR.jf;have q5:=aS.ext.size
    gi_wp2
    refine⟨⟨i+1,{ target:=.collected Dm,args:= #[] }::ds,?_⟩,?_⟩
    ·(repeat apply Exists.intro)
     refine⟨⟨by omega,⟨⟨L,vo,?_,vw.mono fun b _ hb=>(hR.yb b hb).1⟩,?_,?_,⟨Dm,rfl,(by omega),(Kan.1 vt).1,vt,hR.ms.hi (by omega)⟩⟩⟩,rfl⟩
     ·rw[I3,Xq]
     ·exact(hI.kp.trans (ko _)).trans (aS.ext.kept fun b _ hb h=>by omega)
     ·exact(hI.ex.trans (EH _)).trans' aS.ext fun b hb h=>by omega
    ·simp[intOf];omega
  ·have e:i=7:=by omega
   subst e;obtain⟨L,vo,qK,nK⟩:=hI.jf;have q0:=nK.bx.cell
   gi_wp2
   show LeavesInM _ _ _ _ _ _ _ _ _;have ZL:∀(w':World),Ext (fun b=>eB.bV ds b) X0 w'->∀(b:Nat)(c:Array Value)(e:TypeId)(f:Nat×Nat),X0.heap[b]? =some (Obj.cells c e f)->w'.heap[b]? =X0.heap[b]? :=fun w' hw b c e f hb=>hw.block b (Kan.1 hb).1 fun h=>by rw[(hI.ms.lt h).2.2]at hb;cases hb
   refine G7 ds _ X0 hI.ms fun w' hw=>⟨_,results_tmp2 rfl _ _ _,vo,rfl,L,G+1,?_,?_,by omega,?_,?_⟩
   ·rw[qK];rfl
   ·exact⟨hw.os.trans hI.ex.os,hw.tape.trans hI.ex.tape,hw.output.trans hI.ex.output,KaQ hI.ex.size hw.size,fun b hb hn=>(hw.block b (KaE hb hI.ex.size) (fun hm=>by have:=(hI.ms.lt hm).1;omega)).trans (hI.ex.block b hb hn)⟩
   ·refine LD nK.row fun b hb=>?_;rcases nK.row.2 with⟨rfl,_⟩|⟨g,cap,cur',rfl,_,qa,_⟩
    ·cases hb
    ·cases hb;exact ZL w' hw _ _ _ _ qa
   ·intro x hx;refine⟨(nK.arg x hx).1.kept fun b hb=>?_,fun b hb=>((nK.arg x hx).2 b hb).2⟩;obtain⟨cur,hc⟩:=(nK.arg x hx).1.lt hb;exact ZL w' hw _ _ _ _ hc
theorem agi(n:Int)(h:n<0∨40<n)(m:Nat)(W:World):CallsIn Fence.wide m Tryz.prog 13 #[.int .i64 n] W fun e W'=>e= .returned (.tuple #[.slice none 0 0,.int .i64 2])/\W'=W:=by
 refine callsIn_of_wp_marks func13 rfl trivial ?_ rfl;simp only[Tryz.ntmps13,KaV,Kaz,KaR,Nat.reduceAdd,Nat.reduceSub,Kbc,Kbd,Kbr,Kbe,Kau,Kaw];by_cases k1:n<0
 ·gi_wp2
  exact⟨_,results_tmp2 rfl _ _ _,rfl,rfl⟩
 ·have k2:(40:Int)<n:=by omega
  gi_wp2
  exact⟨_,results_tmp2 rfl _ _ _,rfl,rfl⟩
theorem Q6t(n:Int)(h1:10<n)(h2:n<=40)(m:Nat)(W:World):CallsIn Fence.wide m Tryz.prog 13 #[.int .i64 n] W fun e W'=>e= .returned (.tuple #[.slice none 0 0,.int .i64 4])/\W'=W:=by
 refine callsIn_of_wp_marks func13 rfl trivial ?_ rfl;simp only[Tryz.ntmps13,KaV,Kaz,KaR,Nat.reduceAdd,Nat.reduceSub,Kbc,Kbd,Kbr,Kbe,Kau,Kaw];have k1:¬n<0:=by omega
 have k2:¬(40:Int)<n:=by omega
 gi_wp2
 exact⟨_,results_tmp2 rfl _ _ _,rfl,rfl⟩
end Go.Proofs.YtmkijkjaeljieaaGreat
namespace Go.Proofs.YtmkijkjaeljieaaGreat
open Tryz
open Go Go.FW Go.RowKit Go.Shelf
attribute [local go_sem] Oper.semAt_some
theorem Tb:(Tryz.prog.info? 177).map (fun i=>(i.zero,i.size,i.bytes))=some (some (.int .u16 0),1,2):=by kernel_rfl
abbrev eU:TypeId:=177
theorem Q0k(b off n cap m:Nat)(W:World)(c:List Nat)(hn:n=c.length)(hl:n<=100)(hc:∀j (h:j<c.length),W.cell? ⟨b,off+j,none⟩=some (.int .u16 c[j])):
  CallsIn Fence.wide m Tryz.prog 115 #[.slice (some ⟨b,off,none⟩) n cap] W fun e w'=>∃v,e= .returned v/\Ext Q5 W w'/\w'.ownsRow W.heap.size eU 1 v n (c.map fun(x:Nat)=>.int .u16 x):=by
 refine callsIn_of_wp func115 rfl trivial ?_ rfl;simp only[Tryz.ntmps115,KaV,Kaz,KaR,Nat.reduceAdd,Nat.reduceSub,Kbc,Kbd,Kbr,Kbe,Kau,Kaw];obtain⟨i0,sr,z0,z1,z2⟩:=info_parts Tb;have aS:(W.alloc (.cells #[] eU)).ownsRow W.heap.size eU 1 (.slice (some ⟨W.heap.size,0,none⟩) 0 0) 0 []:=⟨rfl,.inr ⟨W.heap.size,0,#[],rfl,Kae _,World.alloc_heap_new W _,Kae _,Ka6 _,rfl,rfl⟩⟩
 have yV:∀j u,(c.map fun(x:Nat)=>Value.int .u16 x)[j]? =some u->(W.alloc (.cells #[] eU)).cell? ((⟨b,off,none⟩:Addr).add j)=some u:=fun j u hj=>by
  rw[Kao]at hj;cases Nr:c[j]? with
  |none=>rw[Nr]at hj;cases hj
  |some x=>
   rw[Nr]at hj;cases hj;obtain⟨qc,hx⟩:=Kaf.1 Nr;have h1:(⟨b,off,none⟩:Addr).add j=⟨b,off+j,none⟩:=by unfold Addr.add;split<;>simp_all
   rw[h1];have h2:=hc j qc;rw[hx]at h2;exact(Kb0 (w:=W) (a:=⟨b,off+j,none⟩) (Below.heap_alloc W _ b (World.block_lt_of_cell? W ⟨b,off+j,none⟩ h2))).trans h2
 have NU:∀u∈c.map fun(x:Nat)=>Value.int .u16 x,u.oneCell'=true:=fun u hu=>by obtain⟨x,_,rfl⟩:=KaA.1 hu;rfl
 have NQ:∀w,(binOp .eql 53 (.slice (some ⟨b,off,none⟩) n cap) (.slice none 0 0)).run Tryz.prog w= .ok (.bool false) w:=fun w=>Lib.run_eql_slice_nil w _ _ _ n cap 0 0 Tryz.underlying53;rw[hn]at NQ
 gi_wp2_with (first|(gi_at_builtin;go_loud (refine KE _ rfl _ _ 53 rfl W.heap.size eU i0 (.int .u16 0) 1 2 Tryz.underlying53 sr z0 z1 z2 rfl (by decide) _ 0 [] rfl aS ⟨b,off,none⟩ n cap (c.map fun(x:Nat)=>.int .u16 x) rfl (by simp[hn]) yV NU (by simp only[maxLen];omega) (by omega) (by simp) ?_;intro v' X2 r1 r2 r3))|fail)
 go_ret
 have dF:=r2.size;simp only[Kbg]at dF;refine⟨v',rfl,⟨r2.os,r2.tape,r2.output,by omega,fun x hx _=>(r2.block x (by simp;omega) (fun e=>?_)).trans (Below.heap_alloc W _ x hx)⟩,?_⟩
 ·have e':some x=some W.heap.size:=e;simp at e';omega
 ·rw[Ka1,Kau]at r1;exact r1
theorem Q6u(cap m:Nat)(W:World):
  CallsIn Fence.wide m Tryz.prog 115 #[.slice none 0 cap] W fun e w'=>e= .returned (.slice none 0 0)/\w'=W:=by
 refine callsIn_of_wp func115 rfl trivial ?_ rfl;simp only[Tryz.ntmps115,KaV,Kaz,KaR,Nat.reduceAdd,Nat.reduceSub,Kbc,Kbd,Kbr,Kbe,Kau,Kaw];have NQ:∀w,(binOp .eql 53 (.slice none 0 cap) (.slice none 0 0)).run Tryz.prog w= .ok (.bool true) w:=fun w=>Lib.run_eql_slice_nil w _ _ _ 0 cap 0 0 Tryz.underlying53
 gi_wp2
 go_ret
 exact⟨rfl,rfl⟩
theorem TW(ad:Addr)(cap m:Nat)(W:World):
  CallsIn Fence.wide m Tryz.prog 115 #[.slice (some ad) 0 cap] W fun e w'=>∃v,e= .returned v/\Ext Q5 W w'/\w'.ownsRow W.heap.size eU 1 v 0 []:=by
 refine callsIn_of_wp func115 rfl trivial ?_ rfl;simp only[Tryz.ntmps115,KaV,Kaz,KaR,Nat.reduceAdd,Nat.reduceSub,Kbc,Kbd,Kbr,Kbe,Kau,Kaw];obtain⟨i0,sr,z0,z1,z2⟩:=info_parts Tb;have aS:(W.alloc (.cells #[] eU)).ownsRow W.heap.size eU 1 (.slice (some ⟨W.heap.size,0,none⟩) 0 0) 0 []:=⟨rfl,.inr ⟨W.heap.size,0,#[],rfl,Kae _,World.alloc_heap_new W _,Kae _,Ka6 _,rfl,rfl⟩⟩
 have NQ:∀w,(binOp .eql 53 (.slice (some ad) 0 cap) (.slice none 0 0)).run Tryz.prog w= .ok (.bool false) w:=fun w=>Lib.run_eql_slice_nil w _ _ _ 0 cap 0 0 Tryz.underlying53
 gi_wp2_with (first|(gi_at_builtin;go_loud (refine KE _ rfl _ _ 53 rfl W.heap.size eU i0 (.int .u16 0) 1 2 Tryz.underlying53 sr z0 z1 z2 rfl (by decide) _ 0 [] rfl aS ad 0 cap [] rfl (by simp) (by simp) (by simp) (by simp only[maxLen];omega) (by omega) (by simp) ?_;intro v' X2 r1 r2 r3))|fail)
 go_ret
 have dF:=r2.size;simp only[Kbg]at dF;refine⟨v',rfl,⟨r2.os,r2.tape,r2.output,by omega,fun x hx _=>(r2.block x (by simp;omega) (fun e=>?_)).trans (Below.heap_alloc W _ x hx)⟩,r1⟩;have e':some x=some W.heap.size:=e;simp at e';omega
end Go.Proofs.YtmkijkjaeljieaaGreat
namespace Go.FW
attribute [go_sem_proc ↓] reduceIte
open Go
inductive aM where
 |t (n:Nat)
 |c (p:PV)
 deriving Inhabited
inductive cI where
 |mv (d:Nat) (x:aM)
 |pick (d:Nat) (c a b:aM)
 |bin (d:Nat) (op:BinOp) (bt:Bool) (x y:aM)
 |eqs (d:Nat) (ng:Bool) (x y:aM)
 |zP (d:Nat) (ng:Bool) (x y:aM)
 |Gh (d:Nat) (x:aM)
 |Gg (d:Nat) (x i:aM)
 |un (d:Nat) (op:UnOp) (x:aM)
 |conv (d:Nat) (k:IntKind) (x:aM)
 |len (d:Nat) (x:aM)
 |mx (d:Nat) (x y:aM)
 |mn (d:Nat) (x y:aM)
 |idx (d e:Nat) (x i:aM)
 |xI (d n e:Nat) (x i:aM)
 |FX (d n e:Nat) (ag:Bool) (x i:aM)
 |bG (d off:Nat) (x:aM)
 |Bq (d off n:Nat) (ag:Bool) (x:aM)
 |ld (d n:Nat) (ag:Bool) (x:aM)
 |st (n:Nat) (x v:aM)
 |box (d n ty:Nat) (v:aM)
 |alloc (d n ty:Nat) (z:PV)
 |mk (d e bytes ty:Nat) (z:PV) (l c:aM)
 |bs (d e ty:Nat) (parts:List aM)
 |app (d e bytes ty:Nat) (s x:aM)
 |xa (d e:Nat) (s x:aM)
 |sl (d e:Nat) (x:aM) (lo hi mx:Option aM)
 |ext (d:Nat) (x:aM) (i:Nat)
 |dY (d:Nat) (zero:List PV) (parts:List (Nat×Nat×aM))
 |fn (d f:Nat) (first cap:List aM)
 |call (d:Option Nat) (pr:Bool) (f:aM) (args:List aM)
 |F7 (d:Option Nat) (x:aM)
 |bad (d:Option Nat)
 deriving Inhabited
def cI.dst:cI->Option Nat
 |.mv d _| .pick d _ _ _| .bin d _ _ _ _| .eqs d _ _ _| .zP d _ _ _| .Gh d _| .Gg d _ _| .un d _ _| .conv d _ _| .len d _| .mx d _ _| .mn d _ _| .idx d _ _ _| .xI d _ _ _ _| .FX d _ _ _ _ _| .bG d _ _| .Bq d _ _ _ _
 |.ld d _ _ _| .box d _ _ _| .alloc d _ _ _| .mk d _ _ _ _ _ _| .bs d _ _ _| .app d _ _ _ _ _| .xa d _ _ _| .sl d _ _ _ _ _| .ext d _ _| .dY d _ _| .fn d _ _ _=>some d
 |.st _ _ _=>none
 |.call d _ _ _| .F7 d _| .bad d=>d
structure n5 where
 g:Option (Nat×Bool)
 o:cI
 deriving Inhabited
inductive RT where
 |nil
 |o (g:Option (Nat×Bool)) (o:cI) (r:RT)
 |br (a b:RT)
 |wk (r:RT)
 deriving Inhabited
inductive SC where
 |skip
 |rg (r:RT)
 |raw (id:Nat) (ops:Array Oper)
 |seq (a b:SC)
 |cond (c:aM) (a b:SC)
 |block (id:Nat) (a:SC)
 |loop (a:SC)
 |exit (id:Nat)
 |ret
 deriving Inhabited
def CP:Value->Option PV
 |.int k n=>some (.int k n)
 |.bool b=>some (.bool b)
 |.string s=>some (.str s)
 |.slice none 0 0=>some .ab
 |_=>none
def uF:Value->Option PV
 |.agg cs=>(cs.toList.mapM CP).map .agg
 |v=>CP v
def cj:Operand->Option aM
 |.tmp t=>some (.t t)
 |.const v=>(uF v).map .c
 |.func f=>some (.c (.fn f [] []))
 |.global _=>none
def eV(P:Program)(t:TypeId):Option Nat:=(P.info? t).map (·.size)
def nr(P:Program)(t:TypeId):Option Bool:=(P.underlying t).map fun d=>match d with| .struct _| .array _ _=>true|_=>false
def uW(P:Program)(t:TypeId):Option TypeId:=match P.underlying t with|some (.slice e)=>some e|_=>none
def ln(P:Program)(t:TypeId):Option (Nat×Nat×PV):=(P.info? t).bind fun i=>i.zero.bind fun z=>(uF z).map fun p=>(i.size,i.bytes,p)
def pC:Option Operand->Option (Option aM)
 |none=>some none
 |some x=>(cj x).map some
def Dr(P:Program)(t:TypeId)(parts:List (Nat×Operand)):Option (List (Nat×Nat×aM)):=
 match P.underlying t with
 |some (.struct fs)=>(fs.toList.mapM fun f=>(P.info? f.type).map fun i=>(f.offset,i.size)).bind fun pl=>parts.mapM fun p=>(pl[p.1]?).bind fun q=>(cj p.2).map fun y=>(q.1,q.2,y)
 |some (.array _ e)=>(eV P e).bind fun n=>parts.mapM fun p=>(cj p.2).map fun y=>(p.1*n,n,y)
 |_=>none
def JY(P:Program)(t:TypeId):Bool:=match P.underlying t with
 |some (.struct fs)=>match fs.toList with
  | [f, g] => f.name != "_" && g.name != "_" && f.offset == 0 && g.offset == 1 && (match P.underlying f.type with | some (.int _) => true | _ => false) && (match P.underlying g.type with | some (.int _) => true | _ => false) && !(P.stoodInHeld t) && !(P.eqGuardType P.depth t)
  |_=>false
 |_=>false
def Gv:BinOp->Option Bool
 |.eql=>some false
 |.neq=>some true
 |_=>none
def AV(P:Program)(t:TypeId):Bool:=match P.underlying t with|some .string=>true|_=>false
def Ca(P:Program)(op:BinOp)(t:TypeId)(d:Nat)(x y:aM):cI:=
 match(if JY P t then Gv op else none)with
 |some ng=>.eqs d ng x y
 |none=>match(if AV P t then Gv op else none)with
  |some ng=>.zP d ng x y
  |none=>.bin d op (match P.underlying t with|some .bool=>true|_=>false) x y
def aiG : List String := ["geoprover/matrix.reduce", "geoprover/matrix.subtract", "geoprover/geoproverref09.echelon"]
def RU(P:Program)(f:aM):Bool:=match f with
 |.c (.fn g _ _)=>(P.funcs[g]?).any fun fn=>aiG.contains fn.name
 |_=>false
def n8(P:Program)(draw:Bool)(o:Oper):Option cI:=
 match o.op,o.dst with
 |.move x,some d| .assign x,some d=>(cj x).map (.mv d)
 |.pick c a b,some d=>(cj c).bind fun c=>(cj a).bind fun a=>(cj b).map fun b=>.pick d c a b
 |.binOp op t x y _,some d=>(cj x).bind fun x=>(cj y).map fun y=>Ca P op t d x y
 |.unOp op _ x,some d=>(cj x).map (.un d op)
 |.convert s t x,some d=>match P.underlying s,P.underlying t with
  |some _,some (.int k)=>(cj x).map (.conv d k)
  |_,_=>none
 |.indexAddr t x i,some d=>(cj x).bind fun x=>(cj i).bind fun i=>match P.underlying t with
  |some (.slice e)=>(eV P e).map fun n=>.idx d n x i
  |some (.array len e)=>(eV P e).map fun n=>.xI d len n x i
  |_=>none
 |.index t x i,some d=>(cj x).bind fun x=>(cj i).bind fun i=>match P.underlying t with
  |some (.array len e)=>(eV P e).bind fun n=>(nr P e).map fun ag=>.FX d len n ag x i
  |some .string=>some (.Gg d x i)
  |_=>none
 |.fieldAddr t x j,some d=>(cj x).bind fun x=>match P.underlying t with
  |some (.struct fs)=>(fs[j]?).bind fun f=>(eV P f.type).bind fun n=>if n=0 then none else some (.bG d f.offset x)
  |_=>none
 |.field t x j,some d=>(cj x).bind fun x=>match P.underlying t with
  |some (.struct fs)=>(fs[j]?).bind fun f=>(eV P f.type).bind fun n=>(nr P f.type).map fun ag=>.Bq d f.offset n ag x
  |_=>none
 |.load t x,some d=>(cj x).bind fun x=>(eV P t).bind fun n=>(nr P t).map fun ag=>.ld d n ag x
 |.store t x v,none=>(cj x).bind fun x=>(cj v).bind fun v=>(eV P t).map fun n=>.st n x v
 |.box t v,some d=>(cj v).bind fun v=>(eV P t).map fun n=>.box d n t v
 |.alloc t,some d=>(ln P t).map fun(n,_,z)=>.alloc d n t z
 |.makeSlice t l c,some d=>(cj l).bind fun l=>(cj c).bind fun c=>(uW P t).bind fun e=>(ln P e).map fun(n,by_,z)=>.mk d n by_ e z l c
 |.buildSlice t len parts,some d=>(uW P t).bind fun e=>(ln P e).bind fun r=>
   if parts.toList.map (·.1)=List.range len/\len*r.1<=16777216/\r.2.2.cells.length=r.1 then(parts.toList.mapM fun p=>cj p.2).map fun ps=>.bs d r.1 e ps else none
 |.build t parts,some d=>(ln P t).bind fun(_,_,z)=>(Dr P t parts.toList).map fun ps=>.dY d z.cells ps
 |.slice t x lo hi m,some d=>(cj x).bind fun x=>(pC lo).bind fun lo=>(pC hi).bind fun hi=>(pC m).bind fun m=>(uW P t).bind fun e=>(eV P e).map fun n=>.sl d n x lo hi m
 |.extract x i,some d=>(cj x).map fun x=>.ext d x i
 |.makeFunc (.func f) first cap,some d=>(first.toList.mapM cj).bind fun first=>(cap.toList.mapM cj).map fun cap=>.fn d f first cap
 |.nilCheck x,d=>(cj x).map fun x=>.F7 d x
 |.call c,d=>match c.callee,c.args.toList,c.argTypes.toList,d with
  |.value f,args,_,d=>(cj f).bind fun f=>(args.mapM cj).map fun args=>.call d (draw&& !RU P f) f args
  |.builtin .len,[x],[t],some d=>if AV P t then(cj x).map fun x=>.Gh d x else(uW P t).bind fun _=>(cj x).map fun x=>.len d x
  |.builtin .max,[x,y],_,some d=>(cj x).bind fun x=>(cj y).map fun y=>.mx d x y
  |.builtin .min,[x,y],_,some d=>(cj x).bind fun x=>(cj y).map fun y=>.mn d x y
  |.builtin .append,[s,x],[t,u],some d=>(cj s).bind fun s=>(cj x).bind fun x=>(uW P t).bind fun e=>if t=u then(ln P e).bind fun r=>if r.2.2.cells.length=r.1 then some (.app d r.1 r.2.1 e s x)else none else none
  |.builtin .copy,[s,x],[t,u],some d=>(cj s).bind fun s=>(cj x).bind fun x=>(uW P t).bind fun e=>if t=u then(eV P e).map fun n=>.xa d n s x else none
  |_,_,_,_=>none
 |_,_=>none
def gq(P:Program)(draw:Bool)(o:Oper):cI:=(n8 P draw o).getD (.bad o.dst)
def lQ(P:Program)(n:Nat)(draw:Bool)(ops:Array Oper)(o:Oper):Option n5:=
 if o.dst.all (· <n)then
  match o.guard with
  |none=>some ⟨none,gq P draw o⟩
  |some (j,want)=>match(ops[j]?).bind (·.dst)with
   |some s=>if s<n then some ⟨some (s,want),gq P draw o⟩else none
   |none=>none
 else none
def cI.cls:cI->Nat
 |.ld .. =>1
 |.box .. | .alloc .. | .mk .. | .bs .. | .call .. | .bad _=>2
 |.st .. | .app .. | .xa .. =>3
 |_=>0
def cI.jI:cI->Bool
 |.st .. | .app .. | .xa .. =>true
 |.call _ pr _ _=> !pr
 |_=>false
def cI.awk:cI->Bool
 |.call .. =>true
 |_=>false
def s8(ops:Array Oper):Nat->Nat->Nat->Bool
 |0,_,_=>false
 |n+1,i,j=>match ops[j]? with
  |none=>false
  |some o=>o.after.toList.any fun e=>Region.binds .any e&&(e.on==i||s8 ops n i e.on)
def wE(P:Program)(ops:Array Oper)(i:Nat):Nat:=((ops[i]?).map fun o=>(gq P true o).cls).getD 9
def AJ(P:Program)(dr:Bool)(ops:Array Oper)(i:Nat):Bool:=((ops[i]?).map fun o=>(gq P dr o).jI).getD false
def J8(P:Program)(dr:Bool)(ops:Array Oper)(bh:Array Bool)(i:Nat):Bool:=
  (Region.ready .any ops bh).contains i&&Region.free .any ops bh i&&
  (match wE P ops i with
   |0=>true
   |1=>(List.range ops.size).all fun j=> !AJ P dr ops j||s8 ops ops.size i j
   |_=>false)
def wX:List RT->RT
 | []=>.nil
 | [r]=>r
 |r::rs=>.br r (wX rs)
def rF(P:Program)(N:Nat)(dr:Bool)(ops:Array Oper):Nat->Array Bool->Option RT
 |0,bh=>if Region.ready .any ops bh==[]then some .nil else none
 |n+1,bh=>
  if Region.ready .any ops bh==[]then some .nil else
  match(List.range ops.size).find? (J8 P dr ops bh)with
  |some i=>((ops[i]?).bind (lQ P N dr ops)).bind fun g=>(rF P N dr ops n (bh.setIfInBounds i true)).map fun r=>.o g.g g.o r
  |none=>((Region.ready .any ops bh).mapM fun i=>((ops[i]?).bind (lQ P N dr ops)).bind fun g=>(rF P N dr ops n (bh.setIfInBounds i true)).map fun r=>RT.o g.g g.o r).map wX
def C4(P:Program)(N:Nat)(dr:Bool)(ops:Array Oper):Nat->Array Bool->Option RT
 |0,bh=>if Region.ready .any ops bh==[]then some .nil else none
 | n+1,bh=>
  if Region.ready .any ops bh==[]then some .nil else
  match(List.range ops.size).find? (J8 P dr ops bh)with
  |some i=>((ops[i]?).bind (lQ P N dr ops)).bind fun g=>(C4 P N dr ops n (bh.setIfInBounds i true)).map fun r=>.o g.g g.o r
  |none=>match Region.ready .any ops bh with
   | [i]=>((ops[i]?).bind (lQ P N dr ops)).bind fun g=>(C4 P N dr ops n (bh.setIfInBounds i true)).map fun r=>.o g.g g.o r
   |_=>none
theorem GK{P:Program}{N:Nat}{dr:Bool}{ops:Array Oper}:∀(n:Nat)(bh:Array Bool)(r:RT),C4 P N dr ops n bh=some r->rF P N dr ops n bh=some r
 |0,bh,r,h=>h
 | n +1,bh,r,h=>by
  unfold C4 at h;unfold rF;split
  ·rename_i hr;rw[if_pos hr]at h;exact h
  ·rename_i hr;rw[if_neg hr]at h;split at h
   ·rename_i i hf;simp only[Kab,Kaa]at h⊢;obtain⟨g,hg,r',fL,rfl⟩:=h;exact⟨g,hg,r',GK n _ _ fL,rfl⟩
   ·rename_i hf;split at h
    ·rename_i i Jt;simp only[Kab,Kaa]at h;obtain⟨g,⟨o,ho,hg⟩,r',fL,rfl⟩:=h;simp[Jt,ho,hg,GK n _ _ fL,wX]
    ·cases h
def RT.count:RT->Nat
 |.nil=>1
 |.o _ _ r=>r.count
 |.br a b=>a.count+b.count
 |.wk r=>r.count
def AW:List n5->RT
 | []=>.nil
 |g::gs=>.o g.g g.o (AW gs)
def aiY(P:Program)(ops:Array Oper):Bool:=decide (ops.size<=100)&&ops.toList.any fun o=>(gq P false o).awk
def aiZ(P:Program)(ops:Array Oper):Bool:=
 let cs:=ops.toList.map (gq P true)
 decide (100<ops.size)||4<=(cs.filter fun o=>match o with| .app .. =>true|_=>false).length||
  (3<=(cs.filter fun o=>match o with| .box .. | .alloc .. =>true|_=>false).length&&3<=(cs.filter fun o=>match o with| .st .. =>true|_=>false).length)
def CR(P:Program)(N:Nat)(ops:Array Oper)(dr:Bool)(zI:Nat):Option SC:=
 if aiZ P ops then none else
 match rF P N dr ops ops.size (Array.replicate ops.size false)with
 |some r=>if r.count<=zI then some (.rg r)else none
 |none=>none
def CS(P:Program)(N:Nat)(ops:Array Oper)(draw:Bool):Option SC:=
 if draw then
  if Region.noSelect ops then
   match(if aiY P ops then(C4 P N false ops ops.size (Array.replicate ops.size false)).map .rg else none)with
   |some s=>some s
   |none=>CR P N ops true 100
  else none
 else(ops.toList.mapM (lQ P N false ops)).map fun l=>.rg (AW l)
def gg(P:Program)(N:Nat):Code->Option SC
 |.skip=>some .skip
 |.region id ops draw=>match CS P N ops draw with
  |some s=>some s
  |none=>if draw then some (.raw id ops)else none
 |.seq a b=>(gg P N a).bind fun a=>(gg P N b).map fun b=>.seq a b
 |.cond c a b=>(cj c).bind fun c=>(gg P N a).bind fun a=>(gg P N b).map fun b=>.cond c a b
 |.block id a=>(gg P N a).map (.block id)
 |.loop a=>(gg P N a).map .loop
 |.exit id=>some (.exit id)
 |.ret=>some .ret
 |_=>none
inductive RV where
 |t (s:Nat)
 |cell (s n:Nat) (ag:Bool)
 deriving Inhabited
def ie(P:Program)(r:ResultVar):Option RV:=
 match r with
 |.tmp t=>some (.t t)
 |.cell a t=>(eV P t).bind fun n=>(nr P t).map fun ag=>.cell a n ag
def RT.strip:RT->RT
 |.nil=>.nil
 |.o g p r=>.o g p r.strip
 |.br a b=>.br a.strip b.strip
 |.wk r=>r.strip
def SC.strip:SC->SC
 |.rg r=>.rg r.strip
 |.seq a b=>.seq a.strip b.strip
 |.cond c a b=>.cond c a.strip b.strip
 |.block id a=>.block id a.strip
 |.loop a=>.loop a.strip
 |s=>s
theorem UL:∀l:List n5,(AW l).strip=AW l
 | []=>rfl
 |g::gs=>by simp only[AW,RT.strip,UL gs]
theorem VC:∀l:List RT,(∀r∈l,r.strip=r)->(wX l).strip=wX l
 | [],_=>rfl
 | [r],h=>h r (by simp)
 |r::s::l,h=>by have:=VC (s::l) fun x hx=>h x (KaZ _ hx);simp only[wX,RT.strip,h r (by simp),this]
theorem Pe{α O:Type}{f:α->Option O}{Q:O->Prop}(hf:∀a b,f a=some b->Q b):∀(l:List α)(rs:List O),l.mapM f=some rs->∀r∈rs,Q r
 | [],rs,h=>by simp at h;subst h;simp
 |a::l,rs,h=>by
  simp only[Kch,KbX,Kcl,Kab,KaD]at h;obtain⟨b,h1,bs,h2,rfl⟩:=h;intro r hr;rcases KaH.1 hr with rfl|hr
  ·exact hf _ _ h1
  ·exact Pe hf l bs h2 r hr
theorem GN{P:Program}{N:Nat}{dr:Bool}{ops:Array Oper}:∀(n:Nat)(bh:Array Bool)(r:RT),rF P N dr ops n bh=some r->r.strip=r
 |0,bh,r,h=>by
  unfold rF at h;split at h
  ·cases h;rfl
  ·cases h
 | n+1,bh,r,h=>by
  unfold rF at h;split at h
  ·cases h;rfl
  ·split at h
   ·simp only[Kab,Kaa]at h;obtain⟨g,_,r',fL,rfl⟩:=h;simp only[RT.strip,GN n _ _ fL]
   ·simp only[Kaa]at h;obtain⟨rs,dw,rfl⟩:=h;refine VC rs (Pe (fun i b hb=>?_) _ rs dw);simp only[Kab,Kaa]at hb;obtain⟨g,_,r',fL,rfl⟩:=hb;simp only[RT.strip,GN n _ _ fL]
theorem Qwz{P:Program}{N:Nat}{ops:Array Oper}{draw:Bool}{s:SC}(h:CS P N ops draw=some s):s.strip=s:=by
 unfold CS at h;split at h
 ·split at h
  ·have key:∀(dr:Bool) (zI:Nat) (s:SC),CR P N ops dr zI=some s->s.strip=s:=fun dr zI s hc=>by
    unfold CR at hc;split at hc
    ·cases hc
    split at hc
    ·rename_i r hr;split at hc
     ·cases hc;simp only[SC.strip,GN _ _ _ hr]
     ·cases hc
    ·cases hc
   split at h
   ·rename_i s' fg;cases h;split at fg
    ·simp only[Kaa]at fg;obtain⟨r,hr,rfl⟩:=fg;simp only[SC.strip,GN _ _ _ (GK _ _ _ hr)]
    ·cases fg
   ·exact key _ _ _ h
  ·cases h
 ·simp only[Kaa]at h;obtain⟨gs,_,rfl⟩:=h;simp only[SC.strip,UL]
theorem TI{P:Program}{N:Nat}:∀(c:Code)(s:SC),gg P N c=some s->s.strip=s:=by
 intro c;induction c with
 |skip=>intro s h;simp[gg]at h;subst h;rfl
 | region id ops draw=>
  intro s h;simp only[gg]at h;split at h
  ·rename_i s' fg;cases h;exact Qwz fg
  ·split at h
   ·cases h;rfl
   ·cases h
 |seq x y mf zC=>intro s h;simp only[gg,Kab,Kaa]at h;obtain⟨sx,hx,sy,hy,rfl⟩:=h;simp only[SC.strip,mf _ hx,zC _ hy]
 |cond c x y mf zC=>intro s h;simp only[gg,Kab,Kaa]at h;obtain⟨pc,ZT,sx,hx,sy,hy,rfl⟩:=h;simp only[SC.strip,mf _ hx,zC _ hy]
 |block id x mf=>intro s h;simp only[gg,Kaa]at h;obtain⟨sx,hx,rfl⟩:=h;simp only[SC.strip,mf _ hx]
 |loop x mf=>intro s h;simp only[gg,Kaa]at h;obtain⟨sx,hx,rfl⟩:=h;simp only[SC.strip,mf _ hx]
 |exit id=>intro s h;simp[gg]at h;subst h;rfl
 |ret=>intro s h;simp[gg]at h;subst h;rfl
 |_=>intro s h;simp[gg]at h
structure az where
 n:Nat
 rs:List RV
 body:SC
 deriving Inhabited
def Qd(P:Program)(f:Func):Option az:=
 f.body.bind fun c=>(gg P f.ntmps c).bind fun b=>(f.results.toList.mapM (ie P)).map fun rs=>⟨f.ntmps,rs,b⟩
def az.strip(s:az):az:=⟨s.n,s.rs,s.body.strip⟩
theorem KF{P:Program}{f:Func}{s:az}(h:Qd P f=some s):Qd P f=some s.strip:=by have h0:=h;simp only[Qd,Kab,Kaa]at h;obtain⟨c,hb,sb,jK,rs,dw,rfl⟩:=h;rw[h0,az.strip,TI _ _ jK]
abbrev Zo(o:cI)(r:RT):RT:=.o none o r
abbrev Zg(g:Nat)(b:Bool)(o:cI)(r:RT):RT:=.o (some (g,b)) o r
abbrev Zm(d x:Nat)(r:RT):RT:=.o none (.mv d (.t x)) r
abbrev Zc(d:Nat)(n:Int)(r:RT):RT:=.o none (.mv d (.c (.int .i64 n))) r
abbrev Zf(d o x:Nat)(r:RT):RT:=.o none (.bG d o (.t x)) r
abbrev Zl(d n x:Nat)(r:RT):RT:=.o none (.ld d n false (.t x)) r
abbrev Zh(d n x:Nat)(r:RT):RT:=.o none (.ld d n true (.t x)) r
abbrev Zs(n x v:Nat)(r:RT):RT:=.o none (.st n (.t x) (.t v)) r
abbrev Zi(d e x i:Nat)(r:RT):RT:=.o none (.idx d e (.t x) (.t i)) r
abbrev Zb(d:Nat)(o:BinOp)(x y:Nat)(r:RT):RT:=.o none (.bin d o false (.t x) (.t y)) r
abbrev Zk(d:Nat)(o:BinOp)(x:Nat)(n:Int)(r:RT):RT:=.o none (.bin d o false (.t x) (.c (.int .i64 n))) r
abbrev Zn(d x:Nat)(r:RT):RT:=.o none (.len d (.t x)) r
abbrev Zu(d x:Nat)(r:RT):RT:=.o none (.un d .not (.t x)) r
abbrev Zq(d:Nat)(p:Bool)(f:Nat)(l:List aM)(r:RT):RT:=.o none (.call (some d) p (.c (.fn f [] [])) l) r
abbrev Zr(r:RT)(y:SC):SC:=.seq (.rg r) y
abbrev Zz(n:Int):PV:=.int .i64 n
theorem D0{p:Prop}(h:p:=by first|omega|rfl|(simp+decide only[go_sem]<;>rfl)|fail):p:=h
theorem D1{p A0:Prop}(x0:A0)(h:A0->p:=by intro x0;first|omega|rfl|(simp+decide only[go_sem,x0]<;>rfl)|fail):p:=h x0
theorem D2{p A0 A1:Prop}(x0:A0)(x1:A1)(h:A0->A1->p:=by intro x0 x1;first|omega|rfl|(simp+decide only[go_sem,x0,x1]<;>rfl)|fail):p:=h x0 x1
theorem D3{p A0 A1 A2:Prop}(x0:A0)(x1:A1)(x2:A2)(h:A0->A1->A2->p:=by intro x0 x1 x2;first|omega|rfl|(simp+decide only[go_sem,x0,x1,x2]<;>rfl)|fail):p:=h x0 x1 x2
theorem D4{p A0 A1 A2 A3:Prop}(x0:A0)(x1:A1)(x2:A2)(x3:A3)(h:A0->A1->A2->A3->p:=by intro x0 x1 x2 x3;first|omega|rfl|(simp+decide only[go_sem,x0,x1,x2,x3]<;>rfl)|fail):p:=h x0 x1 x2 x3
theorem D5{p A0 A1 A2 A3 A4:Prop}(x0:A0)(x1:A1)(x2:A2)(x3:A3)(x4:A4)(h:A0->A1->A2->A3->A4->p:=by intro x0 x1 x2 x3 x4;first|omega|rfl|(simp+decide only[go_sem,x0,x1,x2,x3,x4]<;>rfl)|fail):p:=h x0 x1 x2 x3 x4
theorem D6{p A0 A1 A2 A3 A4 A5:Prop}(x0:A0)(x1:A1)(x2:A2)(x3:A3)(x4:A4)(x5:A5)(h:A0->A1->A2->A3->A4->A5->p:=by intro x0 x1 x2 x3 x4 x5;first|omega|rfl|(simp+decide only[go_sem,x0,x1,x2,x3,x4,x5]<;>rfl)|fail):p:=h x0 x1 x2 x3 x4 x5
theorem E0{p:Prop}(h:p:=by first|omega|rfl|(simp+decide only[go_sem,il,KaK,KaT,KaC,KaN,Kak]<;>rfl)|fail):p:=h
theorem E1{p A0:Prop}(x0:A0)(h:A0->p:=by intro x0;first|omega|rfl|(simp+decide only[go_sem,il,KaK,KaT,KaC,KaN,Kak,x0]<;>rfl)|fail):p:=h x0
theorem E2{p A0 A1:Prop}(x0:A0)(x1:A1)(h:A0->A1->p:=by intro x0 x1;first|omega|rfl|(simp+decide only[go_sem,il,KaK,KaT,KaC,KaN,Kak,x0,x1]<;>rfl)|fail):p:=h x0 x1
abbrev Ya(t:Nat)(a:Nat)(b:Nat)(c:Int)(r:RT):RT:=Zm t a<|Zo (.idx (t+1) b (.t t) (.c (Zz c))) r
abbrev Yb(t:Nat)(a b:Nat)(r:RT):RT:=Zf t a b<|Zl (t+1) 1 t r
abbrev Yc(t:Nat)(r:RT):RT:=Zl t 1 57<|Zo (.conv (t+1) .u64 (.t t))<|Zb (t+2) .rem 53 (t+1) r
abbrev Yd(t:Nat)(r:RT):RT:=Zo (.alloc t 3 57 (.agg [.bool false,.ab,.ab])) r
abbrev Ye(t:Nat)(a:Nat)  :RT:=Zm t a .nil
abbrev Yf(t:Nat)(a b c:Nat)(r:RT):RT:=Zq t true a [.t b,.t c] r
abbrev Yh(t:Nat)(a:Nat)(r:RT):RT:=Zo (.ext t (.t a) 0)<|Zo (.ext (t+1) (.t a) 1) r
abbrev Yj(t:Nat)(a:Int)  :RT:=Zc t a .nil
abbrev Yk(t:Nat)(r:RT):RT:=Zo (.mv t (.c .ab)) r
abbrev Yl(t:Nat)(r:RT):RT:=Zo (.mv t (.c (.bool false))) r
abbrev Ym(t:Nat)(a b:Nat)(r:RT):RT:=Zm t a<|Zm (t+1) b r
abbrev Yn(t:Nat)(a:Nat)(b:Int)(c:Nat)  :RT:=Zk t .eql a b<|Zm c t .nil
abbrev Yo(t:Nat)(a b:Nat)(r:RT):RT:=Zo (.pick t (.t a) (.c (.bool true)) (.t b)) r
abbrev Yp(t:Nat)(a b:Nat)(r:RT):RT:=Zo (.pick t (.t a) (.t b) (.c (.bool false))) r
abbrev Yq(t:Nat)(a:Nat)(b:Nat)(c:Int)(d:Int)(r:RT):RT:=Ya t a b c<|Zh (t+2) b (t+1)<|Ya (t+3) a b d<|Zh (t+5) b (t+4) r
abbrev Yr(t:Nat)(a b c:Nat)(r:RT):RT:=Zq t false a [.t b,.t c] r
abbrev Ys(t:Nat)(r:RT):RT:=Zo (.alloc t 1 157 (.int .u64 0)) r
abbrev Yu(t:Nat)(a b c:Nat)(r:RT):RT:=Zm t a<|Zg t false (.bG (t+1) b (.t c))<|Zg t false (.ld (t+2) 1 false (.t (t+1))) r
abbrev Yv(t:Nat)(a b:Nat)(r:RT):RT:=Zq t false a [.t b] r
abbrev Yw(t:Nat)(a b:Nat)  :RT:=Zb t .lss a b .nil
abbrev Yx(t:Nat)  :RT:=Zs t (t+9) 60 .nil
abbrev Yy(t:Nat)(a b c d e:Nat)(r:RT):RT:=Zo (.bs t a b [.t c])<|Zo (.app (t+1) a d b (.t e) (.t t)) r
abbrev Yz(t:Nat)(a b:Nat)(r:RT):RT:=Zi t 1 a b<|Zl (t+1) 1 t r
abbrev YA(t:Nat)(a:Nat)  :RT:=Zm t a<|Zk (t+1) .add t 1<|Ye a (t+1)
abbrev YB(t:Nat)(a:Nat)(r:RT):RT:=Zm t a<|Zn (t+1) t r
abbrev YC(t:Nat)(a b c:Nat)(r:RT):RT:=Zf t a b<|Zh (t+1) c t r
abbrev YD(t:Nat)(a:Int)(r:RT):RT:=Zm t 8<|Yb (t+1) 1 3<|Zo (.idx (t+3) 1 (.t (t+2)) (.c (Zz a)))<|Zl (t+4) 1 (t+3)<|Zi (t+5) 2 t (t+4)<|Zh (t+6) 2 (t+5) r
abbrev YE(t:Nat)(a b:Nat)  :RT:=Zk t .add a 1<|Zm b t .nil
abbrev YG(t:Nat)(a b:Nat)(r:RT):RT:=Zg t true (.bG (t+1) a (.t b))<|Zg t true (.ld (t+2) 1 false (.t (t+1))) r
abbrev YH(t:Nat)(r:RT):RT:=Zl t 1 5<|Zk (t+1) .sub t 1<|Zi (t+2) 1 54 (t+1) r
abbrev YI(t:Nat)(a b:Nat)(r:RT):RT:=Yb t a b<|Zn (t+2) (t+1) r
abbrev YJ(t:Nat)(a b:Nat)(r:RT):RT:=Zm t a<|Zk (t+1) .gtr t 0<|Zm (t+2) (t+1)<|Zg (t+2) true (.mv (t+3) (.t 0))<|Zg (t+2) true (.mv (t+4) (.t a))<|Zg (t+2) true (.bin (t+5) .sub false (.t (t+4)) (.c (Zz 1)))<|Zg (t+2) true (.idx (t+6) b (.t (t+3)) (.t (t+5))) r
abbrev YK(t:Nat)  :RT:=Yk t .nil
abbrev YL(t:Nat)(a:Nat)(b:Nat)(c:Nat)(d:Int)(r:RT):RT:=Yu t a b c<|Zg t false (.len (t+3) (.t (t+2)))<|Zg t false (.bin (t+4) .gtr false (.t (t+3)) (.c (Zz d)))<|Yo (t+5) t (t+4) r
abbrev YM(t:Nat)(a b c:Nat)(r:RT):RT:=Zo (.box t a b (.t c)) r
abbrev YN(t:Nat)(a b:Nat)  :RT:=Ym t a b<|Zn (t+2) (t+1)<|Yw (t+3) t (t+2)
abbrev YO(t:Nat)(a b c d:Nat)(r:RT):RT:=Zh t a b<|Zh (t+1) c d r
abbrev YP(t:Nat)(a b:Nat)(r:RT):RT:=Zm t a<|Zg t false (.mv (t+1) (.t b)) r
abbrev YQ(t:Nat)(a b:Nat)(r:RT):RT:=Zm t a<|Yv (t+1) b t r
abbrev YS(t:Nat)(r:RT):RT:=Zo (.alloc t 2 55 (.agg [.bool false,.ab])) r
abbrev YT(t:Nat)(a:Nat)(r:RT):RT:=Zo (.alloc t 2 a (.agg [.ab,.ab])) r
abbrev YU(t:Nat)(a:Nat)  :RT:=Zm t a<|Zk (t+1) .neq t 0 .nil
abbrev YV(t:Nat)(a b c d e:Nat)  :RT:=Yf t a b c<|Zs d e t .nil
abbrev YW(t:Nat)(a b c d e:Nat)(r:RT):RT:=Zq t true a [.t b,.t c,.t d,.t e] r
abbrev YX(t:Nat)  :RT:=Zo (.mv t (.c (.bool true))) .nil
abbrev YY(t:Nat)  :RT:=Zs t (t+8) 52<|Yx t
abbrev YZ(t:Nat)(a b c d:Nat)(r:RT):RT:=Yr t a b c<|Zm d t<|Yh (t+1) d r
abbrev dW(t:Nat)(a b c:Nat)(r:RT):RT:=Zi t a b c<|Zh (t+1) a t r
abbrev bP(t:Nat)  :RT:=Yl t .nil
abbrev gH(t:Nat)  :RT:=Zs t (t+8) 52<|Yc 58<|Yx t
abbrev j'(t:Nat)(a b:Nat)(r:RT):RT:=Zm t a<|Zg t true (.mv (t+1) (.t b)) r
abbrev dP(t:Nat)(a b:Nat)(r:RT):RT:=Zo (.box t (t+1) a (.t b)) r
abbrev dX(t:Nat)(a b:Nat)(r:RT):RT:=Zo (.box t t a (.t b)) r
abbrev pQ(t:Nat)(a b c:Nat)  :RT:=Zo (.conv t .u16 (.t a))<|Zi (t+1) 1 b c<|Zs 1 (t+1) t .nil
abbrev Bf(t:Nat)(a:Nat)(r:RT):RT:=Zg t true (.bG (t+1) 2 (.t 2))<|Zg t true (.ld (t+2) 3 true (.t (t+1)))<|Zg t true (.call (some (t+3)) false (.c (.fn a [] [])) [.t (t+2)])<|Zg t true (.un (t+4) .not (.t (t+3))) r
abbrev eu(t:Nat)(a b c:Nat)(r:RT):RT:=Yb t a b<|Zm (t+2) c r
abbrev wV(t:Nat)(a:Int)(b:Int)(c:Nat)(d:Nat)(r:RT):RT:=Yq t 1 6 0 1<|Yq (t+6) 1 6 a b<|Zq (t+12) false c [.t (t+2),.t (t+5),.t (t+8),.t (t+11)]<|Zo (.bs d 3 57 [.t (t+12)]) r
abbrev Bg(t:Nat)(a b c d:Nat)(r:RT):RT:=Zm t a<|Zg t false (.ld (t+1) b true (.t c))<|Zg t false (.call (some (t+2)) false (.c (.fn d [] [])) [.t (t+1)])<|Zg t false (.un (t+3) .not (.t (t+2)))<|Yo (t+4) t (t+3) r
abbrev cV(t:Nat)(a b c d:Nat)(r:RT):RT:=Yb t a b<|Yb (t+2) c d r
abbrev wW(t:Nat)(a:Nat)(b:Nat)(c:Nat)(d:Int)(e:Nat)(f:Int)(r:RT):RT:=Zo (.xI t a b (.t c) (.c (Zz d)))<|Zh (t+1) b t<|Zo (.xI (t+2) a b (.t e) (.c (Zz f)))<|Zh (t+3) b (t+2) r
abbrev DR(t:Nat)(r:RT):RT:=Zg t true (.len (t+4) (.t (t+3)))<|Zg t true (.bin (t+5) .eql false (.t (t+4)) (.c (Zz 0)))<|Yp (t+6) t (t+5)<|Zm (t+7) (t+6)<|YG (t+7) 2 1<|Zg (t+7) true (.len (t+10) (.t (t+9)))<|Zg (t+7) true (.bin (t+11) .eql false (.t (t+10)) (.c (Zz 0))) r
abbrev dJ(t:Nat)(a b:Nat)(r:RT):RT:=Zq t true a [.t b] r
abbrev tG(t:Nat)  :RT:=Zo (.alloc t (t+1) 57 (.agg [.bool false,.ab,.ab])) .nil
abbrev DS(t:Nat)(a b:Nat)(r:RT):RT:=Zg t false (.bG (t+5) a (.t (t+4)))<|Zg t false (.bG (t+6) b (.t (t+5)))<|Zg t false (.ld (t+7) 1 false (.t (t+6)))<|Zg t false (.len (t+8) (.t (t+7)))<|Zg t false (.bin (t+9) .gtr false (.t (t+8)) (.c (Zz 2)))<|Yo (t+10) t (t+9) r
abbrev jG(t:Nat)(r:RT):RT:=Zl t 1 3<|Zi (t+3) 1 t (t+2) r
abbrev fU(t:Nat)(a b c:Nat)(r:RT):RT:=Ym t a b<|Yr (t+2) c t (t+1) r
abbrev DT(t:Nat)(r:RT):RT:=Zm t 0<|j' (t+1) t 1<|Zg (t+1) true (.len (t+3) (.t (t+2)))<|Zg (t+1) true (.bin (t+4) .gtr false (.t (t+3)) (.c (Zz 0)))<|Yp (t+5) (t+1) (t+4)<|Zm (t+6) 1<|Zo (.dY (t+7) [.bool false,.ab] [(0,1,.t (t+5)),(1,1,.t (t+6))]) r
abbrev jc(t:Nat)(a:Int)(b:Nat)(r:RT):RT:=Ya t 1 6 a<|YC (t+2) b (t+1) 3 r
abbrev tH(t:Nat)  :RT:=Zo (.alloc t t 55 (.agg [.bool false,.ab])) .nil
abbrev oE(t:Nat)(a b c d:Nat)(r:RT):RT:=Zh t a b<|Yv (t+1) c t<|Zm d (t+1)<|Yh (t+2) d r
abbrev yF(t:Nat)(a:Int)(b:Nat)(c:Nat)  :RT:=Zo (.dY t [Zz 0,.ab,Zz 0] [(0,1,.c (Zz a)),(1,1,.t b),(2,1,.t c)])<|Zs 3 4 t<|YX 5
abbrev tI(t:Nat)(r:RT):RT:=Zo (.alloc t t 57 (.agg [.bool false,.ab,.ab])) r
abbrev jZ(t:Nat)(a:Nat)  :RT:=Zk t .add a 1<|Ye a t
abbrev ir(t:Nat)(a:Nat)(b:Int)(r:RT):RT:=Ya t a 1 b<|Zl (t+2) 1 (t+1) r
abbrev et(t:Nat)(a b:Nat)  :RT:=Zm t a<|Ye (t+1) b
abbrev yE(t:Nat)(a b c:Nat)(r:RT):RT:=dW t 6 a b<|Zo (.alloc c 6 96 (.agg [Zz 0,.str ⟨#[]⟩,.ab,.bool false,.ab,.ab])) r
abbrev mF(t:Nat)(a b c:Nat)  :RT:=Zm t a<|YI (t+1) b c<|Yw (t+4) t (t+3)
abbrev DN(t:Nat)(a b:Nat)(r:RT):RT:=Ym t a 0<|Zn (t+2) (t+1)<|Zb (t+3) .lss t (t+2)<|YP (t+4) (t+3) b<|Zg (t+4) false (.mv (t+6) (.t 1))<|Zg (t+4) false (.len (t+7) (.t (t+6)))<|Zg (t+4) false (.bin (t+8) .lss false (.t (t+5)) (.t (t+7))) r
abbrev eG(t:Nat)(a b c:Nat)(r:RT):RT:=Ym t a b<|Zm (t+2) c r
abbrev ja(t:Nat)(a b c d e:Nat)  :RT:=Yr t a b c<|Zs d e t .nil
abbrev tF(t:Nat)(a:Nat)(r:RT):RT:=Zo (.box t (t+4) a (.t 0))<|Zo (.box (t+1) (t+4) a (.t 1)) r
abbrev Bd(t:Nat)(a:Nat)(r:RT):RT:=Zm t a<|Zg t true (.bG (t+1) 0 (.t 1))<|Zg t true (.bG (t+2) 1 (.t (t+1)))<|Zg t true (.ld (t+3) 1 false (.t (t+2))) r
abbrev rW(t:Nat)(a b:Nat)(r:RT):RT:=Zo (.mk t 1 2 177 (.int .u16 0) (.t a) (.t b)) r
abbrev oD(t:Nat)  :RT:=Zs t (t+1) 34<|Zs t (t+2) 40 .nil
abbrev jb(t:Nat)(a b c d e:Nat)(r:RT):RT:=Yf t a b c<|Yf (t+1) d e t r
abbrev j0(t:Nat)(a:Nat)(r:RT):RT:=Zo (.box t (t+2) a (.t 0)) r
abbrev DO(t:Nat)(a b c:Nat)(r:RT):RT:=Zm t a<|YG t b 2<|Zg t true (.bG (t+3) c (.t 3))<|Zg t true (.ld (t+4) 1 false (.t (t+3)))<|Zg t true (.bin (t+5) .neq false (.t (t+2)) (.t (t+4)))<|Yp (t+6) t (t+5) r
abbrev Be(t:Nat)(a b c d:Nat)  :RT:=Zo (.dY t [.bool false,.ab,.ab,.ab] [(0,3,.t a),(3,1,.t b)])<|Yy (t+1) 4 171 t 80 c<|Ye d (t+2)
abbrev wU(t:Nat)(a:Nat)(r:RT):RT:=Zm t a<|Zo (.bin (t+1) .shr false (.t t) (.c (.int .u64 16))) r
abbrev DP(t:Nat)(a:Nat)  :RT:=Zm t a<|Zk (t+1) .lss t 0<|YP (t+2) (t+1) a<|Zg (t+2) false (.mv (t+4) (.t 1))<|Zg (t+2) false (.bin (t+5) .geq false (.t (t+3)) (.t (t+4)))<|Yo (t+6) (t+2) (t+5) .nil
abbrev fJ(t:Nat)(a:Int)  :RT:=Yk t<|Yj (t+1) a
abbrev j1(t:Nat)(a b:Nat)(r:RT):RT:=Ym t a b<|Yz (t+2) t (t+1) r
abbrev lY(t:Nat)(a:Nat)(r:RT):RT:=Zo (.conv t .u32 (.t a)) r
abbrev DQ(t:Nat)(a b:Nat)  :RT:=Yf t 39 a b<|jb (t+3) 39 (t+1) (t+2) 50 t<|Yf (t+7) 39 (t+5) (t+6)<|jb (t+10) 39 (t+8) (t+9) 50 (t+7)<|Zo (.bs (t+12) 1 61 [.t (t+4),.t (t+11)])<|Ye 16 (t+12)
abbrev mG(t:Nat)(a:Nat)(r:RT):RT:=Zo (.conv t .u64 (.t a)) r
abbrev nC(t:Nat)(r:RT):RT:=Zo (.box t (t+3) 59 (.t 0)) r
abbrev gU(t:Nat)(a b:Nat)  :RT:=Zm t a<|Ye b t
abbrev yG(t:Nat)(a b:Nat)(r:RT):RT:=Zo (.dY t [.bool false,.ab,.ab] [(0,2,.t a),(2,1,.t b)]) r
abbrev gI(t:Nat)  :RT:=Yc t<|YY 1
abbrev lB(t:Nat)(a b c d e:Nat)(r:RT):RT:=YO t a b a c<|YO (t+3) a d a e r
abbrev jd(t:Nat)(a:Nat)  :RT:=Zm t a<|Yj (t+1) 0
abbrev lZ(t:Nat)(a b c d:Nat)(r:RT):RT:=eu t a b c<|Zi (t+3) d (t+1) (t+2) r
abbrev Bh(t:Nat)(a:Nat)(b:Int)(c:Nat)(d:Int)(r:RT):RT:=Ya t 11 2 0<|Yb (t+2) a (t+1)<|Ya (t+4) 11 2 b<|Yb (t+6) c (t+5)<|Ya (t+8) 11 2 d<|Yb (t+10) c (t+9) r
abbrev dM(t:Nat)(a b:Nat)(r:RT):RT:=Zb t .add a b r
abbrev kN(t:Nat)(a:Nat)(b:Int)  :RT:=Zk t .eql a b .nil
abbrev kO(t:Nat)(a b:Nat)  :RT:=Zm t a<|YE (t+1) t b
abbrev jH(t:Nat)(a b c d e f g:Nat)  :RT:=Yf t a b c<|YV (t+1) d e t f g
abbrev ke(t:Nat)(a:Nat)  :RT:=YB t a<|Yj (t+2) 0
abbrev yH(t:Nat)(a:Nat)(r:RT):RT:=Zg t true (.call (some (t+2)) false (.c (.fn a [] [])) [.t (t+1)]) r
abbrev l0(t:Nat)(a b c:Nat)(r:RT):RT:=Ym t a b<|Zi (t+2) c t (t+1) r
abbrev Fr:=Nat->PV
structure HB where
 e:Nat
 ty:TypeId
 xs:List PV
 fz:Bool
abbrev HP:=Nat->Option HB
def ae(f:Fr)(a:Nat)(v:PV):Fr:=fun b=>if b=a then v else f b
def Qj(h:HP)(a:Nat)(v:HB):HP:=fun b=>if b=a then some v else h b
def aO:Fr:=fun _=>.undef
def aA:HP:=fun _=>none
def bW(O:Nat):Bool:=decide (1000000<=O)
def aQ(O:Nat):Bool:=decide (1000000<=O)&&decide (O<2000000)
def fH(O:Nat):Bool:=decide (1500000<=O)&&decide (O<2000000)
theorem AA{O:Nat}(h:aQ O=false):fH O=false:=by simp[aQ]at h;simp[fH];omega
theorem yh{O:Nat}(h:bW O=false):aQ O=false:=by simp[bW]at h;simp[aQ];omega
def PV.bS:PV->List Nat
 |.mp O _ _=>[O]
 |.ax O _ _| .rb O _ _=>[O]
 |_=>[]
def PV.refs:PV->List Nat
 |.mp O _ _=>[O]
 |.ax O _ _| .rb O _ _=>[O]
 |.fn _ first cap=>first.flatMap PV.bS++cap.flatMap PV.bS
 |_=>[]
def PV.mg:PV->Bool
 |.mp .. | .ax .. | .rb .. | .int .. | .bool _| .ab| .sl .. | .pt _| .np .. | .aL .. =>true
 |_=>false
def PV.dO:PV->List Nat
 |.ax O _ _=>[O]
 |.aL γ _ _| .np γ _ _=>[γ]
 |_=>[]
def PV.fa:PV->List Nat
 |.aL γ _ _| .np γ _ _=>[γ]
 |_=>[]
def PV.aV:PV->List Nat
 |.aL γ _ _| .np γ _ _=>[γ]
 |.aP cs=>cs.flatMap PV.dO
 |.fb cs=>cs.flatMap PV.dO
 |.dx cs _=>cs.flatMap PV.dO
 |.aJ γ _ _ xs=>γ::xs.flatMap fun x=>x.bg.flatMap PV.dO
 |.fn _ first cap=>first.flatMap PV.fa++cap.flatMap PV.fa
 |_=>[]
def bU(O:Nat)(p:PV):PV:=if p.refs.contains O then .undef else p
def bZ(O:Nat)(fr:Fr):Fr:=fun i=>bU O (fr i)
def cx(hp:HP):PV->PV
 |.mp O i o=>if aQ O then .undef else match hp O with
  |some hb=>match hb.xs[i]? with
   |some x=>.pt (x.cells.drop o)
   |none=>.undef
  |none=>.undef
 |.ax O o n=>if aQ O then .undef else match hp O with
  |some hb=>.sl hb.e ((hb.xs.drop o).take n)
  |none=>.undef
 |.rb _ _ _| .aL _ _ _| .np _ _ _| .aP _| .fb _| .dx _ _| .aJ _ _ _ _=>.undef
 |p=>p
def Qr(hp:HP):PV->PV
 |.fn f first cap=>.fn f (first.map (cx hp)) (cap.map (cx hp))
 |p=>cx hp p
def Q6(hp:HP)(l:List Nat):HP:=fun O=>if l.contains O then(hp O).map fun hb=>{ hb with fz:=true }else hp O
def ev(fr:Fr):aM->PV
 |.t n=>fr n
 |.c p=>p
def eZ:Bool->Nat->Nat->PV->PV
 |true,n,o,x=>.agg ((x.cells.drop o).take n)
 |false,_,o,x=>(x.cells.drop o).headD .undef
def uh(x:PV)(o:Nat)(v:PV):PV:=.agg (x.cells.take o++v.cells++x.cells.drop (o+v.cells.length))
def PV.ql:PV->Bool
 |.ax .. | .aL .. | .undef=>true
 |_=>false
def pz(cs:List PV):PV:=if cs.any PV.ql then .aP cs else .agg cs
def gw:List PV->PV
 | [c]=>c
 |cs=>pz cs
def ue(ag:Bool)(n o:Nat)(x:PV):PV:=if ag then pz ((x.bg.drop o).take n)else(x.bg.drop o).headD .undef
def fO:PV->Option (List PV)
 |.aP cs=>if cs.all PV.iz then some cs else none
 |.aL γ o n=>some [.aL γ o n]
 |.ax O o n=>if bW O then some [.ax O o n]else none
 |.int k n=>some [.int k n]
 |.bool b=>some [.bool b]
 |.ab=>some [.ab]
 |.sl e xs=>some [.sl e xs]
 |.pt cs=>some [.pt cs]
 |.agg cs=>some cs
 |_=>none
def rS(l:List PV)(o:Nat)(cs:List PV):List PV:=l.take o++cs++l.drop (o+cs.length)
def jT(γ:Nat):PV->PV
 |.aJ bj e ty xs=>if bj=γ then .undef else .aJ bj e ty xs
 |p=>p
def jv(γ:Nat)(fr:Fr):Fr:=fun i=>jT γ (fr i)
def iV(O:Nat):PV->PV
 |.ax bY o n=>if bY=O then .undef else .ax bY o n
 |.aL γ o n=>if γ=O then .undef else .aL γ o n
 |p=>p
def dC(O:Nat):PV->PV
 |.aJ γ e ty xs=>if γ=O then .undef else .aJ γ e ty (xs.map fun x=>gw (x.bg.map (iV O)))
 |.aP cs=>.aP (cs.map (iV O))
 |.fb cs=>.fb (cs.map (iV O))
 |.dx cs q=>.dx (cs.map (iV O)) q
 |.aL γ o n=>if γ=O then .undef else .aL γ o n
 |.np γ i o=>if γ=O then .undef else .np γ i o
 |.fn f first cap=>if(first.flatMap PV.fa++cap.flatMap PV.fa).contains O then .undef else bU O (.fn f first cap)
 |p=>bU O p
def gi(O:Nat)(fr:Fr):Fr:=fun i=>dC O (fr i)
abbrev Qg:=Fr->HP->Prop
def cn(op:BinOp)(bt:Bool)(a b:PV)(d:Nat)(fr:Fr)(hp:HP)(K:Qg):Prop:=
 match a,b with
 |.int k x,.int k' y=>
  match op with
  |.shl=>0<=y/\K (ae fr d (.int k (k.wrap (x*2^(min y.toNat k.bits))))) hp
  |.shr=>0<=y/\K (ae fr d (.int k (x.fdiv (2^(min y.toNat k.bits))))) hp
  |.add=>k=k'/\K (ae fr d (.int k (k.wrap (x+y)))) hp
  |.sub=>k=k'/\K (ae fr d (.int k (k.wrap (x-y)))) hp
  |.mul=>k=k'/\K (ae fr d (.int k (k.wrap (x*y)))) hp
  |.quo=>k=k'/\y≠0/\K (ae fr d (.int k (k.wrap (x.tdiv y)))) hp
  |.rem=>k=k'/\y≠0/\K (ae fr d (.int k (x.tmod y))) hp
  |.and=>k=k'/\K (ae fr d (.int k (k.wrap (BitVec.ofInt k.bits x&&&BitVec.ofInt k.bits y).toNat))) hp
  |.or=>k=k'/\K (ae fr d (.int k (k.wrap (BitVec.ofInt k.bits x|||BitVec.ofInt k.bits y).toNat))) hp
  |.xor=>k=k'/\K (ae fr d (.int k (k.wrap (BitVec.ofInt k.bits x^^^BitVec.ofInt k.bits y).toNat))) hp
  |.andNot=>False
  |.eql=>k=k'/\K (ae fr d (.bool (decide (x=y)))) hp
  |.neq=>k=k'/\K (ae fr d (.bool (!decide (x=y)))) hp
  |.lss=>k=k'/\K (ae fr d (.bool (decide (x<y)))) hp
  |.leq=>k=k'/\K (ae fr d (.bool (decide (x<=y)))) hp
  |.gtr=>k=k'/\K (ae fr d (.bool (decide (y<x)))) hp
  |.geq=>k=k'/\K (ae fr d (.bool (decide (y<=x)))) hp
 |.bool x,.bool y=>
  match op with
  |.eql=>bt=true/\K (ae fr d (.bool (x==y))) hp
  |.neq=>bt=true/\K (ae fr d (.bool (!(x==y)))) hp
  |_=>False
 |_,_=>False
def tB(ng:Bool)(a b:PV)(d:Nat)(fr:Fr)(hp:HP)(K:Qg):Prop:=
 match a,b with
 |.agg [.int k x,.int l y],.agg [.int k' x',.int l' y']=>k=k'/\l=l'/\K (ae fr d (.bool (ng !=(decide (x=x')&&decide (y=y'))))) hp
 |_,_=>False
def tC(ng:Bool)(a b:PV)(d:Nat)(fr:Fr)(hp:HP)(K:Qg):Prop:=
 match a,b with
 |.str x,.str y=>K (ae fr d (.bool (ng !=decide (x=y)))) hp
 |_,_=>False
def yx(a:PV)(d:Nat)(fr:Fr)(hp:HP)(K:Qg):Prop:=
 match a with
 |.str s=>K (ae fr d (.int .i64 s.size)) hp
 |_=>False
def wH(a i:PV)(d:Nat)(fr:Fr)(hp:HP)(K:Qg):Prop:=
 match a,i with
 |.str s,.int _ n=>0<=n/\n<s.size/\K (ae fr d (.int .u8 (s.get! n.toNat).toNat)) hp
 |_,_=>False
def uX(c a b:PV)(d:Nat)(fr:Fr)(hp:HP)(K:Qg):Prop:=
 match c with
 |.bool t=>(t=true->K (ae fr d a) hp)/\(t=false->K (ae fr d b) hp)
 |_=>False
def xO(op:UnOp)(a:PV)(d:Nat)(fr:Fr)(hp:HP)(K:Qg):Prop:=
 match op,a with
 |.not,.bool b=>K (ae fr d (.bool !b)) hp
 |.neg,.int k n=>K (ae fr d (.int k (k.wrap (0-n)))) hp
 |_,_=>False
def yp(k:IntKind)(a:PV)(d:Nat)(fr:Fr)(hp:HP)(K:Qg):Prop:=
 match a with
 |.int _ n=>K (ae fr d (.int k (k.wrap n))) hp
 |_=>False
def qG(a:PV)(d:Nat)(fr:Fr)(hp:HP)(K:Qg):Prop:=
 match a with
 |.ab=>K (ae fr d (.int .i64 0)) hp
 |.sl _ xs=>K (ae fr d (.int .i64 xs.length)) hp
 |.ax _ _ n=>K (ae fr d (.int .i64 n)) hp
 |.aL _ _ n=>K (ae fr d (.int .i64 n)) hp
 |_=>False
def zJ(a b:PV)(d:Nat)(fr:Fr)(hp:HP)(K:Qg):Prop:=
 match a,b with
 |.int k x,.int _ y=>K (ae fr d (.int k (max x y))) hp
 |_,_=>False
def zH(a b:PV)(d:Nat)(fr:Fr)(hp:HP)(K:Qg):Prop:=
 match a,b with
 |.int k x,.int _ y=>K (ae fr d (.int k (min x y))) hp
 |_,_=>False
def dt(e:Nat)(a i:PV)(d:Nat)(fr:Fr)(hp:HP)(K:Qg):Prop:=
 match a,i with
 |.sl e' xs,.int _ n=>e=e'/\0<=n/\∃h:n.toNat<xs.length,K (ae fr d (.pt (xs[n.toNat]'h).cells)) hp
 |.ax O o m,.int _ n=>0<=n/\n.toNat<m/\(hp O).map (·.e)=some e/\K (ae fr d (.mp O (o+n.toNat) 0)) hp
 |.aL γ o m,.int _ n=>0<=n/\n.toNat<m/\(hp γ).map (·.e)=some e/\K (ae fr d (.np γ (o+n.toNat) 0)) hp
 |_,_=>False
def mD(len e:Nat)(a i:PV)(d:Nat)(fr:Fr)(hp:HP)(K:Qg):Prop:=
 match a,i with
 |.mp O j o,.int _ n=>0<=n/\n<len/\K (ae fr d (.mp O j (o+n.toNat*e))) hp
 |.pt cs,.int _ n=>0<=n/\n<len/\n.toNat*e<=cs.length/\K (ae fr d (.pt (cs.drop (n.toNat*e)))) hp
 |_,_=>False
def AQ(len e:Nat)(ag:Bool)(a i:PV)(d:Nat)(fr:Fr)(hp:HP)(K:Qg):Prop:=
 match a,i with
 |.agg cs,.int _ n=>0<=n/\n<len/\n.toNat*e+e<=cs.length/\(ag=false->e=1)/\K (ae fr d (eZ ag e (n.toNat*e) (.agg cs))) hp
 |_,_=>False
def tD(off:Nat)(a:PV)(d:Nat)(fr:Fr)(hp:HP)(K:Qg):Prop:=
 match a with
 |.mp O i o=>K (ae fr d (.mp O i (o+off))) hp
 |.np γ i o=>K (ae fr d (.np γ i (o+off))) hp
 |.pt cs=>off<=cs.length/\K (ae fr d (.pt (cs.drop off))) hp
 |_=>False
def tq(off n:Nat)(ag:Bool)(a:PV)(d:Nat)(fr:Fr)(hp:HP)(K:Qg):Prop:=
 match a with
 |.agg cs=>off+n<=cs.length/\(ag=false->n=1)/\K (ae fr d (eZ ag n off (.agg cs))) hp
 |.aP cs=>off+n<=cs.length/\(ag=false->n=1)/\K (ae fr d (ue ag n off (.aP cs))) hp
 |_=>False
def iQ(n:Nat)(ag:Bool)(a:PV)(d:Nat)(fr:Fr)(hp:HP)(K:Qg):Prop:=
 match a with
 |.mp O i o=>match hp O with
  |some hb=>∃h:i<hb.xs.length,o+n<=hb.e/\(ag=false->n=1)/\K (ae fr d (eZ ag n o (hb.xs[i]'h))) hp
  |none=>False
 |.pt cs=>n<=cs.length/\(ag=false->n=1)/\K (ae fr d (eZ ag n 0 (.agg cs))) hp
 |.rb O o m=>n=1/\ag=false/\K (ae fr d (.ax O o m)) hp
 |.np γ i o=>match fr γ with
  |.aJ bj e _ xs=>bj=γ/\∃h:i<xs.length,o+n<=e/\(ag=false->n=1)/\K (ae fr d (ue ag n o (xs[i]'h))) hp
  |_=>False
 |_=>False
def o8 (n:Nat) (a v:PV) (fr:Fr) (hp:HP) (K:Qg):Prop:=
 match a with
 |.mp O i o=>match Q6 hp v.refs O with
  | some hb=>hb.fz=false/\(Qr hp v).aG=true/\(Qr hp v).cells.length=n/\∃h:i<hb.xs.length,o+n<=hb.e/\
    K fr (Qj (Q6 hp v.refs) O { hb with xs:=hb.xs.set i (if n=hb.e then Qr hp v else uh (hb.xs[i]'h) o (Qr hp v)) })
  |none=>False
 |.np γ i o=>match fr γ with
  |.aJ bj e ty xs=>bj=γ/\(∃hb,hp γ=some hb/\hb.fz=false)/\∃h:i<xs.length,o+n<=e/\match fO v with
   |some cs=>cs.length=n/\K (ae (jv γ fr) γ (.aJ γ e ty (xs.set i (gw (rS (xs[i]'h).bg o cs))))) hp
   |none=>False
  |_=>False
 |_=>False
def dB(d:Nat):Nat:=4000000+d
def wI(n ty:Nat)(cs:List PV)(d:Nat)(fr:Fr)(hp:HP)(K:Qg):Prop:=
 (cs.length=n/\0<n/\cs.all PV.iz=true/\cs.all (fun x=> !(x.dO.contains (dB d)))=true)/\
  K (ae (ae (gi (dB d) fr) (dB d) (.aJ (dB d) n ty [.aP cs])) d (.np (dB d) 0 0)) (Qj hp (dB d) ⟨n,ty,[],false⟩)
def fQ(n ty:Nat)(v:PV)(d:Nat)(fr:Fr)(hp:HP)(K:Qg):Prop:=
 match v with
 |.aP cs=>wI n ty cs d fr hp K
 |v=>match(match v with| .ax O o m=>if aQ O then some (O,o,m)else none|_=>none)with
 |some (O,o,m)=>K (ae fr d (.rb O o m)) hp
 |none=>
 (Qr hp v).aG=true/\(Qr hp v).cells.length=n/\0<n/\K (ae (bZ d fr) d (.mp d 0 0)) (Qj (Q6 hp v.refs) d ⟨n,ty,[Qr hp v],false⟩)
def o6(e by_ ty:Nat)(z l c:PV)(d:Nat)(fr:Fr)(hp:HP)(K:Qg):Prop:=
 match l,c with
 |.int _ L,.int _ C=>0<e/\z.cells.length=e/\0<=L/\L<=C/\by_*C<=281474976710656/\C<=9223372036854775807/\
   K (ae (bZ d fr) d (.ms d L.toNat)) (Qj hp d ⟨e,ty,List.replicate L.toNat z,false⟩)
 |_,_=>False
def HO(hp:HP)(e:Nat)(ps:List PV):Prop:=∀p∈ps,(Qr hp p).aG=true/\(Qr hp p).cells.length=e
def nn:PV->Bool
 |.ax O 0 _=>decide (5000000<=O)
 |_=>false
def ot:List PV->Bool
 | [x]=>nn x
 |_=>false
def WR(e ty:Nat)(ps:List PV)(d:Nat)(fr:Fr)(hp:HP)(K:Qg):Prop:=
 e=1/\K (ae (ae (gi (dB d) fr) (dB d) (.aJ (dB d) 1 ty ps)) d (.aL (dB d) 0 1)) (Qj hp (dB d) ⟨1,ty,[],false⟩)
def AR (e by_ ty:Nat) (s x:PV) (d:Nat) (fr:Fr) (hp:HP) (K:Qg):Prop:=
 match x with
 |.aL δ 0 1=>match fr δ with
  |.aJ O1 1 _ [y]=>O1=δ/\nn y=true/\e=1/\
   match s with
   |.ab=>by_<=140737488355328/\K (ae (ae (gi (dB d) fr) (dB d) (.aJ (dB d) 1 ty [y])) d (.aL (dB d) 0 1)) (Qj hp (dB d) ⟨1,ty,[],false⟩)
   |.aL γ 0 k=>match fr γ with
    |.aJ bj 1 qt xs=>(bj=γ/\γ<5000000/\aQ γ=false/\qt=ty/\k=xs.length/\xs.all nn=true/\(k+1)*by_<=140737488355328/\k+1<=9223372036854775807)/\(∃hb,hp γ=some hb/\hb.fz=false)/\
      K (ae (ae (gi γ fr) γ (.aJ γ 1 ty (xs++[y]))) d (.aL γ 0 (k+1))) (Qj hp γ ⟨1,ty,[],false⟩)
    |_=>False
   |_=>False
  |_=>False
 |_=>False
def DU(e ty:Nat)(ps:List PV)(d:Nat)(fr:Fr)(hp:HP)(K:Qg):Prop:=
 0<e/\HO hp e ps/\K (ae (bZ d fr) d (.ms d ps.length)) (Qj (Q6 hp (ps.flatMap PV.refs)) d ⟨e,ty,ps.map (Qr hp),false⟩)
def l7(e ty:Nat)(ps:List PV)(d:Nat)(fr:Fr)(hp:HP)(K:Qg):Prop:=if ot ps=true then WR e ty ps d fr hp K else DU e ty ps d fr hp K
def kE(hp:HP):PV->Option (Nat×List PV)
 |.ab=>some (0,[])
 |.sl e xs=>some (e,xs)
 |.ax O o n=>(hp O).map fun hb=>(hb.e,(hb.xs.drop o).take n)
 |_=>none
def jz (e by_ ty:Nat) (s x:PV) (d:Nat) (fr:Fr) (hp:HP) (K:Qg):Prop:=
 match kE hp x with
 |none=>AR e by_ ty s x d fr hp K
 | some (e',ys)=>0<e/\(e'=e∨ys=[])/\
  match s with
  |.ab=>ys.length*by_<=140737488355328/\ys.length<=9223372036854775807/\
    K (ae (bZ d fr) d (.ms d ys.length)) (Qj hp d ⟨e,ty,ys,false⟩)
  |.ax O 0 n=>match hp O with
   | some hb=>(bW O=false/\hb.fz=false/\hb.e=e/\hb.ty=ty/\n<=hb.xs.length/\(n+ys.length)*by_<=140737488355328/\n+ys.length<=9223372036854775807/\
     K (ae (bZ O fr) d (.ms O (n+ys.length))) (Qj hp O ⟨e,ty,hb.xs.take n++ys,false⟩))∨
    (bW O=true/\aQ O=false/\(ys≠[]/\hb.fz=false/\hb.e=e/\hb.ty=ty/\n<=hb.xs.length/\(n+ys.length)*by_<=140737488355328/\n+ys.length<=9223372036854775807)/\
     K (ae (gi O fr) d (.ms O (n+ys.length))) (Qj hp O ⟨e,ty,hb.xs.take n++ys,false⟩))
   |none=>False
  |_=>False
def wJ (e:Nat) (s x:PV) (d:Nat) (fr:Fr) (hp:HP) (K:Qg):Prop:=
 match kE hp x,s with
 |some (e',ys),.ax O 0 n=>match hp O with
  | some hb=>0<e/\hb.fz=false/\hb.e=e/\(e'=e∨ys=[])/\n=hb.xs.length/\
    K (ae fr d (.int .i64 (min (ys.length:Int) n))) (Qj hp O { hb with xs:=ys.take n++hb.xs.drop ys.length })
  |none=>False
 |_,_=>False
def iR(d:Int):Option PV->Option Int
 |none=>some d
 |some (.int _ n)=>some n
 |some _=>none
def jo(e:Nat)(a:PV)(lo hi mx:Option PV)(d:Nat)(fr:Fr)(hp:HP)(K:Qg):Prop:=
 match a with
 |.ab=>match iR 0 lo,iR 0 hi,iR 0 mx with
  |some L,some H,some M=>L=0/\H=0/\M=0/\(mx.isSome->hi.isSome)/\K (ae fr d .ab) hp
  |_,_,_=>False
 |.sl e' xs=>match iR 0 lo,iR xs.length hi,iR xs.length mx with
  |some L,some H,some M=>e'=e/\0<=L/\L<=H/\H<=M/\M<=xs.length/\(mx.isSome->hi.isSome)/\K (ae fr d (.sl e ((xs.take H.toNat).drop L.toNat))) hp
  |_,_,_=>False
 |.ax O o n=>match iR 0 lo,iR n hi,mx with
  |some L,some H,none=>(hp O).map (·.e)=some e/\0<=L/\L<=H/\H<=n/\(L=0∨L<n)/\K (ae fr d (.ax O (o+L.toNat) (H.toNat-L.toNat))) hp
  |_,_,_=>False
 |_=>False
def ns(a:PV)(i:Nat)(d:Nat)(fr:Fr)(hp:HP)(K:Qg):Prop:=
 match a with
 |.aK ps=>match ps[i]? with
  |some p=>p.aG=true/\K (ae fr d p) hp
  |none=>False
 |.fb ps=>match ps[i]? with
  |some p=>K (ae fr d p) hp
  |none=>False
 |.dx cs q=>match i with
  |0=>K (ae fr d (.aP cs)) hp
  |1=>K (ae fr d q) hp
  |_=>False
 |_=>False
def iD(cells:List PV):List (Nat×List PV)->List PV
 | []=>cells
 |(o,xs)::r=>iD (cells.take o++xs++cells.drop (o+xs.length)) r
def J9(hp:HP)(len:Nat)(ps:List (Nat×Nat×PV)):Prop:=∀p∈ps,(Qr hp p.2.2).aG=true/\(Qr hp p.2.2).cells.length=p.2.1/\p.1+p.2.1<=len
def DH(zero:List PV)(ps:List (Nat×Nat×PV))(d:Nat)(fr:Fr)(hp:HP)(K:Qg):Prop:=
 J9 hp zero.length ps/\K (ae fr d (.agg (iD zero (ps.map fun p=>(p.1,(Qr hp p.2.2).cells))))) (Q6 hp (ps.flatMap fun p=>p.2.2.refs))
def PV.mh:PV->Bool
 |.aL .. | .aP _=>true
 |.ax O _ _=>decide (2000000<=O)
 |_=>false
def wv(len:Nat)(ps:List (Nat×Nat×PV)):Prop:=∀p∈ps,∃cs,fO p.2.2=some cs/\cs.length=p.2.1/\p.1+p.2.1<=len
def lW(zero:List PV)(ps:List (Nat×Nat×PV))(d:Nat)(fr:Fr)(hp:HP)(K:Qg):Prop:=
 if ps.any (fun p=>p.2.2.mh)then wv zero.length ps/\K (ae fr d (.aP (iD zero (ps.map fun p=>(p.1,(fO p.2.2).getD []))))) hp
 else DH zero ps d fr hp K
def DE(a:PV)(d:Option Nat)(fr:Fr)(hp:HP)(K:Qg):Prop:=
 match a,d with
 |.mp _ _ _,some d| .pt _,some d| .fn _ _ _,some d=>K (ae fr d a) hp
 |.mp _ _ _,none| .pt _,none| .fn _ _ _,none=>K fr hp
 |_,_=>False
structure Ctx where
 P:Program
 N:Nat
 w0:World
 X0:Nat->Prop
 Er:∀b,X0 b->b<w0.heap.size
 hN:N<=1000000
 fx:Nat->Option Nat
 pZ:∀O b,fx O=some b->b<w0.heap.size/\(fH O=false->¬X0 b)
 Z0:Nat->Prop
 I6:∀b,Z0 b->b<w0.heap.size/\¬X0 b/\∀O,fx O≠some b
@[reducible] def Ctx.plain (P : Program) (N : Nat) (w : World) (X : Nat -> Prop) (hX : ∀ b, X b -> b < w.heap.size) (hN : N <= 1000000) : Ctx :=
 ⟨P, N, w, X, hX, hN, fun _ => none, (fun _ _ h => nomatch h), Q5, fun _ h => h.elim⟩
def Ctx.Y0(C:Ctx):Nat->Prop:=fun b=>(∃O,fH O=false/\C.fx O=some b)∨C.Z0 b
theorem Ctx.pV(C:Ctx):∀b,C.Y0 b->b<C.w0.heap.size/\¬C.X0 b
 |b,.inl ⟨O,hr,h⟩=>⟨(C.pZ O b h).1,(C.pZ O b h).2 hr⟩
 |b,.inr h=>⟨(C.I6 b h).1,(C.I6 b h).2.1⟩
theorem Ctx.OE{P:Program}{N:Nat}{w w':World}{X:Nat->Prop}{hX:∀b,X b->b<w.heap.size}{hN:N<=1000000}(h:Ext (Ctx.plain P N w X hX hN).Y0 w w'):Ext Q5 w w':=
 h.mono fun b _ hb=>by
  rcases hb with⟨O,_,hb⟩|hb
  ·cases hb
  ·exact hb
def Ctx.cls(C:Ctx)(O b:Nat):Prop:=if aQ O=true then C.fx O=some b else C.w0.heap.size<=b∨C.Z0 b
theorem Ctx.IG{C:Ctx}{O b:Nat}(h:C.cls O b)(hr:fH O=false):C.w0.heap.size<=b∨C.Y0 b:=by
 unfold Ctx.cls at h;split at h
 ·exact .inr (.inl ⟨O,hr,h⟩)
 ·exact h.imp id .inr
theorem Ctx.w9{C:Ctx}{O b:Nat}(h:C.cls O b)(hB:aQ O=false):C.w0.heap.size<=b∨C.Z0 b:=by
 unfold Ctx.cls at h
 rwa[if_neg (by simp[hB])]at h
theorem Ctx.Xc{C:Ctx}{O b:Nat}(h:C.w0.heap.size<=b∨C.Z0 b)(hB:aQ O=false):C.cls O b:=by
 unfold Ctx.cls
 rwa[if_neg (by simp[hB])]
theorem Ctx.N_Y{C:Ctx}{b:Nat}(h:C.w0.heap.size<=b∨C.Z0 b):C.w0.heap.size<=b∨C.Y0 b:=h.imp id .inr
theorem Ctx.O6{C:Ctx}{O b:Nat}(h:C.w0.heap.size<=b∨C.Z0 b):C.fx O≠some b:=fun e=>by
 rcases h with h|h
 ·have:=(C.pZ O b e).1;omega
 ·exact(C.I6 b h).2.2 O e
theorem Ctx.IF{C:Ctx}{O b:Nat}(h:C.cls O b)(hr:fH O=false):¬C.X0 b:=fun hx=>by
 rcases Ctx.IG h hr with h|h
 ·have:=C.Er b hx;omega
 ·exact(C.pV b h).2 hx
def aI(C:Ctx)(ρ:Nat->Option Nat)(hp:HP):Nat->Prop:=fun b=>C.X0 b∨∃O hb,hp O=some hb/\hb.fz=false/\ρ O=some b
def dH(w:World)(b e cap:Nat):Prop:=∃cur ty,w.heap[b]? =some (.cells cur ty (0,0))/\cur.size=cap*e
def AS(w:World)(X:Nat->Prop)(b:Nat)(hb:HB):Prop:=
 ∃(cur:Array Value)(cap:Nat),w.heap[b]? =some (.cells cur hb.ty (0,0))/\cur.size=cap*hb.e/\hb.xs.length<=cap/\cap<=maxLen/\
  ∀(i:Nat)(x:PV),hb.xs[i]? =some x->∀(j:Nat)(y:PV),x.cells[j]? =some y->Qn w X y (cur.getD (i*hb.e+j) undef)
structure vb(C:Ctx)(ρ:Nat->Option Nat)(hp:HP)(w:World)(O:Nat)(hb:HB):Prop where
 lE:0<hb.e
 len:∀(i:Nat)(x:PV),hb.xs[i]? =some x->x.cells.length=hb.e/\x.aG=true
 bV:match ρ O with
  |none=>hb.xs=[]
  |some b=>C.cls O b/\b<w.heap.size/\AS w (aI C ρ hp) b hb
 fix:aQ O=true->ρ O=C.fx O
 ro:fH O=true->hb.fz=true
def fm(ρ:Nat->Option Nat)(hp:HP)(w:World)(O o n:Nat)(v:Value):Prop:=
 ∃ hb,hp O=some hb/\o+n<=hb.xs.length/\((ρ O=none/\v= .slice none 0 0/\n=0/\o=0)∨
   ∃b cap,ρ O=some b/\v= .slice (some ⟨b,o*hb.e,none⟩) n cap/\dH w b hb.e (o+cap)/\o+cap<=maxLen)
def pE(ρ:Nat->Option Nat)(hp:HP)(w:World)(γ o n:Nat)(v:Value):Prop:=
 bW γ=true/\∃hb b cap,hp γ=some hb/\ρ γ=some b/\v= .slice (some ⟨b,o*hb.e,none⟩) n cap/\dH w b hb.e (o+cap)/\o+cap<=maxLen/\n<=cap
def cZ(C:Ctx)(ρ:Nat->Option Nat)(hp:HP)(w:World):PV->Value->Prop
 |.undef,_=>True
 |.ax O o n,v=>bW O=true/\fm ρ hp w O o n v
 |.aL γ o n,v=>pE ρ hp w γ o n v
 |p,v=>Qn w (aI C ρ hp) p v
def dp(C:Ctx)(ρ:Nat->Option Nat)(hp:HP)(w:World):PV->Value->Prop
 |.mp O i o,v=>∃b hb,ρ O=some b/\hp O=some hb/\v= .pointer (some ⟨b,i*hb.e+o,none⟩)
 |.ax O o n,v=>fm ρ hp w O o n v
 |.rb O o n,v=>∃b u,v= .pointer (some ⟨b,0,none⟩)/\b<w.heap.size/\¬aI C ρ hp b/\w.cell? ⟨b,0,none⟩=some u/\fm ρ hp w O o n u
 |.np γ i o,v=>bW γ=true/\∃b hb,ρ γ=some b/\hp γ=some hb/\v= .pointer (some ⟨b,i*hb.e+o,none⟩)
 |.aL γ o n,v=>pE ρ hp w γ o n v
 |p,v=>Qn w (aI C ρ hp) p v
def Qk(C:Ctx)(ρ:Nat->Option Nat)(hp:HP)(w:World):PV->Value->Prop
 |.undef,_=>True
 |.mp O i o,v=>dp C ρ hp w (.mp O i o) v
 |.ax O o n,v=>dp C ρ hp w (.ax O o n) v
 |.rb O o n,v=>dp C ρ hp w (.rb O o n) v
 |.np γ i o,v=>dp C ρ hp w (.np γ i o) v
 |.aL γ o n,v=>dp C ρ hp w (.aL γ o n) v
 |.aP cs,v=>∃vs:Array Value,v= .agg vs/\vs.size=cs.length/\∀(i:Nat)(x:PV),cs[i]? =some x->cZ C ρ hp w x (vs.getD i undef)
 |.fb cs,v=>∃vs:Array Value,v= .tuple vs/\vs.size=cs.length/\∀(i:Nat)(x:PV),cs[i]? =some x->cZ C ρ hp w x (vs.getD i undef)
 |.dx cs q,v=>∃(vs:Array Value)(u:Value),v= .tuple #[.agg vs,u]/\vs.size=cs.length/\(∀(i:Nat)(x:PV),cs[i]? =some x->cZ C ρ hp w x (vs.getD i undef))/\Q8 w (aI C ρ hp) q u
 |.aJ γ e ty xs,_=>bW γ=true/\0<e/\∃(b:Nat) (hb:HB) (cur:Array Value) (cap:Nat),ρ γ=some b/\hp γ=some hb/\hb.xs=[]/\hb.e=e/\hb.ty=ty/\w.heap[b]? =some (.cells cur ty (0,0))/\cur.size=cap*e/\xs.length<=cap/\cap<=maxLen/\
   (∀(i:Nat)(x:PV),xs[i]? =some x->x.bg.length=e)/\∀(i:Nat)(x:PV),xs[i]? =some x->∀(j:Nat)(y:PV),x.bg[j]? =some y->cZ C ρ hp w y (cur.getD (i*e+j) undef)
 |.fn f first cap,v=>∃fv cv:Array Value,v= .func (.func f) fv cv/\fv.size=first.length/\cv.size=cap.length/\
   (∀(i:Nat)(x:PV),first[i]? =some x->dp C ρ hp w x (fv.getD i undef))/\(∀(i:Nat)(x:PV),cap[i]? =some x->dp C ρ hp w x (cv.getD i undef))
 |p,v=>eX w (aI C ρ hp) p v
structure Qt(C:Ctx)(ρ:Nat->Option Nat)(fr:Fr)(hp:HP)(tmps:Array Value)(w:World):Prop where
 sz:tmps.size=C.N
 ext:Ext C.Y0 C.w0 w
 fI:∀O b,C.fx O=some b->∀e cap,dH C.w0 b e cap->dH w b e cap
 own:∀O hb,hp O=some hb->vb C ρ hp w O hb
 inj:∀O γ b,hp O≠none->hp γ≠none->ρ O=some b->ρ γ=some b->O=γ
 dm:∀i,Qk C ρ hp w (fr i) (tmps.getD i undef)
def eE(C:Ctx)(fr:Fr)(hp:HP)(tmps:Array Value)(w:World):Prop:=∃ρ,Qt C ρ fr hp tmps w
def wK(tmps:Array Value)(d:Option Nat)(v:Value):Array Value:=match d with|some d=>tmps.setIfInBounds d v|none=>tmps
def Wk(fr:Fr)(hp:HP)(aC:Fr)(hp':HP):Prop:=∀(C:Ctx)(tmps:Array Value)(w:World),eE C fr hp tmps w->eE C aC hp' tmps w
def gF(C:Ctx)(pr:Bool)(f:PV)(args:List PV)(d:Option Nat)(fr:Fr)(hp:HP)(K:Qg):Prop:=
 match f with
 |.fn g first cap => (C.P.funcs[g]?).any (fun fn => fn.body.isSome && fn.name != "runtime.NumGoroutine") = true /\
  ∀ρ tmps w (fv cv av:Array Value),(∀x,d=some x->x<C.N)->Qt C ρ fr hp tmps w->
   fv.size=first.length->cv.size=cap.length->av.size=args.length->
   (∀(i:Nat)(x:PV),first[i]? =some x->dp C ρ hp w x (fv.getD i undef))->(∀(i:Nat)(x:PV),cap[i]? =some x->dp C ρ hp w x (cv.getD i undef))->
   (∀(i:Nat)(x:PV),args[i]? =some x->Qk C ρ hp w x (av.getD i undef))->
   Calls C.P g (fv++av++cv) w fun e w'=>∃v aC hp',e= .returned v/\eE C aC hp' (wK tmps d v) w'/\(pr=true->Ext Q5 w w')/\K aC hp'
 |_=>False
def bA(C:Ctx)(o:cI)(fr:Fr)(hp:HP)(K:Qg):Prop:=
 match o with
 |.mv d x=>K (ae fr d (ev fr x)) hp
 |.pick d c a b=>uX (ev fr c) (ev fr a) (ev fr b) d fr hp K
 |.bin d op bt x y=>cn op bt (ev fr x) (ev fr y) d fr hp K
 |.eqs d ng x y=>tB ng (ev fr x) (ev fr y) d fr hp K
 |.zP d ng x y=>tC ng (ev fr x) (ev fr y) d fr hp K
 |.Gh d x=>yx (ev fr x) d fr hp K
 |.Gg d x i=>wH (ev fr x) (ev fr i) d fr hp K
 |.un d op x=>xO op (ev fr x) d fr hp K
 |.conv d k x=>yp k (ev fr x) d fr hp K
 |.len d x=>qG (ev fr x) d fr hp K
 |.mx d x y=>zJ (ev fr x) (ev fr y) d fr hp K
 |.mn d x y=>zH (ev fr x) (ev fr y) d fr hp K
 |.idx d e x i=>dt e (ev fr x) (ev fr i) d fr hp K
 |.xI d n e x i=>mD n e (ev fr x) (ev fr i) d fr hp K
 |.FX d n e ag x i=>AQ n e ag (ev fr x) (ev fr i) d fr hp K
 |.bG d off x=>tD off (ev fr x) d fr hp K
 |.Bq d off n ag x=>tq off n ag (ev fr x) d fr hp K
 |.ld d n ag x=>iQ n ag (ev fr x) d fr hp K
 |.st n x v=>o8 n (ev fr x) (ev fr v) fr hp K
 |.box d n ty v=>fQ n ty (ev fr v) d fr hp K
 |.alloc d n ty z=>fQ n ty z d fr hp K
 |.mk d e by_ ty z l c=>o6 e by_ ty z (ev fr l) (ev fr c) d fr hp K
 |.bs d e ty ps=>l7 e ty (ps.map (ev fr)) d fr hp K
 |.app d e by_ ty s x=>jz e by_ ty (ev fr s) (ev fr x) d fr hp K
 |.xa d e s x=>wJ e (ev fr s) (ev fr x) d fr hp K
 |.sl d e x lo hi mx=>jo e (ev fr x) (lo.map (ev fr)) (hi.map (ev fr)) (mx.map (ev fr)) d fr hp K
 |.ext d x i=>ns (ev fr x) i d fr hp K
 |.dY d zero ps=>lW zero (ps.map fun p=>(p.1,p.2.1,ev fr p.2.2)) d fr hp K
 |.fn d f first cap=>(first.map (ev fr)++cap.map (ev fr)).all PV.mg=true/\K (ae fr d (.fn f (first.map (ev fr)) (cap.map (ev fr)))) hp
 |.call d pr f args=>gF C pr (ev fr f) (args.map (ev fr)) d fr hp K
 |.F7 d x=>DE (ev fr x) d fr hp K
 |.bad _=>False
def kF(o:cI)(fr:Fr)(hp:HP)(K:Qg):Prop:=
 match o.dst with
 |some d=>K (ae fr d (.aK [])) hp
 |none=>K fr hp
def fl(C:Ctx)(g:Option (Nat×Bool))(o:cI)(fr:Fr)(hp:HP)(K:Qg):Prop:=
 match g with
 |none=>bA C o fr hp K
 |some (s,want)=>match fr s with
  |.bool t=>(t=want->bA C o (ae fr s (.bool want)) hp K)/\(t=(!want)->kF o (ae fr s (.bool !want)) hp K)
  |.aK []=>kF o fr hp K
  |_=>False
inductive It where
 |c (s:SC)
 |o (r:RT)
 |eb (id:Nat)
 |el (J:Qg)
def RT.sz:RT->Nat
 |.nil=>1
 |.o _ _ r=>r.sz+1
 |.br a b=>a.sz+b.sz+1
 |.wk r=>r.sz+1
def SC.sz:SC->Nat
 |.rg r=>r.sz+1
 |.seq a b=>a.sz+b.sz+1
 |.cond _ a b=>a.sz+b.sz+1
 |.block _ a=>a.sz+2
 |.loop a=>a.sz+2
 |_=>1
def It.sz:It->Nat
 |.c s=>s.sz
 |.o r=>r.sz
 |_=>1
def cf:List It->Nat
 | []=>0
 |i::is=>i.sz+cf is
def cD(id:Nat):List It->Option (List It)
 | []=>none
 |.eb i::sk=>if i=id then some sk else cD id sk
 |_::sk=>cD id sk
theorem CC(id:Nat):∀(sk fc:List It),FW.cD id sk=some fc->cf fc<=cf sk
 | [],_,h=>by simp[FW.cD]at h
 |.c s::sk,fc,h=>by have:=CC id sk fc (by simpa[FW.cD]using h);simp[cf];omega
 |.o s::sk,fc,h=>by have:=CC id sk fc (by simpa[FW.cD]using h);simp[cf];omega
 |.el s::sk,fc,h=>by have:=CC id sk fc (by simpa[FW.cD]using h);simp[cf];omega
 |.eb i::sk,fc,h=>by
  simp only[FW.cD]at h;split at h
  ·cases h;simp[cf]
  ·have:=CC id sk fc h;simp[cf];omega
theorem RT.B6(r:RT):0<r.sz:=by cases r<;>simp[RT.sz]
theorem SC.B6(s:SC):0<s.sz:=by cases s<;>simp[SC.sz]
def vc(C:Ctx)(R:Qg)(sk:List It)(fr:Fr)(hp:HP):Prop:=
 match sk with
 | []=>R fr hp
 |.el J::_=>J fr hp
 |.eb _::sk=>vc C R sk fr hp
 |.o .nil::sk=>vc C R sk fr hp
 |.o (.o g o r)::sk=>fl C g o fr hp (fun fr hp=>vc C R (.o r::sk) fr hp)
 |.o (.br a b)::sk=>vc C R (.o a::sk) fr hp/\vc C R (.o b::sk) fr hp
 |.o (.wk r)::sk=>∃aO aA,Wk fr hp aO aA/\vc C R (.o r::sk) aO aA
 |.c .skip::sk=>vc C R sk fr hp
 |.c (.rg r)::sk=>vc C R (.o r::sk) fr hp
 |.c (.raw id ops)::sk=>∀tmps w Q,eE C fr hp tmps w->(∀aC hp' xN w',eE C aC hp' xN w'->vc C R sk aC hp'->Q .normal { tmps:=xN,defers:=[] } w')->(Code.region id ops true).wp C.P Q { tmps:=tmps,defers:=[] } w
 |.c (.seq a b)::sk=>vc C R (.c a:: .c b::sk) fr hp
 |.c (.cond c a b)::sk=>match ev fr c with
  |.bool t=>(t=true->vc C R (.c a::sk) fr hp)/\(t=false->vc C R (.c b::sk) fr hp)
  |_=>False
 |.c (.block id a)::sk=>vc C R (.c a:: .eb id::sk) fr hp
 |.c (.loop a)::sk=>∃(I:Qg)(μ:Fr->HP->Nat),(∃aO aA,Wk fr hp aO aA/\I aO aA)/\∀fr hp,I fr hp->vc C R (.c a:: .el (fun aC hp'=>∃aO aA,Wk aC hp' aO aA/\I aO aA/\μ aO aA<μ fr hp)::sk) fr hp
 |.c (.exit id)::sk=>match h:FW.cD id sk with
  |some fc=>vc C R fc fr hp
  |none=>False
 |.c .ret::_=>R fr hp
termination_by cf sk
decreasing_by
 all_goals simp only[cf,It.sz,SC.sz,RT.sz]
 all_goals first|omega|(have:=CC _ _ _ h;omega)|skip
variable {C : Ctx} {ρ : Nat -> Option Nat} {fr : Fr} {hp : HP} {tmps : Array Value} {w : World}
theorem fm.move{ρ':Nat->Option Nat}{hp':HP}{w':World}{O o n:Nat}{v:Value}(h:fm ρ hp w O o n v)
  (hr:ρ' O=ρ O/\∀hb,hp O=some hb->∃au,hp' O=some au/\au.e=hb.e/\hb.xs.length<=au.xs.length/\∀b cap,ρ O=some b->dH w b hb.e cap->dH w' b hb.e cap):fm ρ' hp' w' O o n v:=by
 obtain⟨hb,h2,h3,h4⟩:=h;obtain⟨e1,e2⟩:=hr;obtain⟨au,h5,h6,h7,h8⟩:=e2 hb h2;refine⟨au,h5,KaQ h3 h7,?_⟩;rcases h4 with⟨g1,g2,g3⟩|⟨b,cap,g1,g2,g3,g4⟩
 ·exact .inl ⟨by rw[e1];exact g1,g2,g3⟩
 ·exact .inr ⟨b,cap,by rw[e1];exact g1,by rw[h6];exact g2,by rw[h6];exact h8 b (o+cap) g1 g3,g4⟩
structure nt(w w':World)(X X':Nat->Prop):Prop where
 bV:∀b,b<w.heap.size->¬X b->w'.heap[b]? =w.heap[b]?
 out:∀b,b<w.heap.size->¬X b->¬X' b
 size:w.heap.size<=w'.heap.size
theorem nt.rc{w w':World}{X X':Nat->Prop}(h:nt w w' X X'):∀q u,Qn w X q u->Qn w' X' q u:=fun _ _ hq=>hq.mono h.bV h.out h.size
structure qv(ρ ρ':Nat->Option Nat)(hp hp':HP)(w w':World)(O:Nat):Prop where
 r:ρ' O=ρ O
 h:∀hb,hp O=some hb->∃au,hp' O=some au/\au.e=hb.e/\hb.xs.length<=au.xs.length/\(∀b cap,ρ O=some b->dH w b hb.e cap->dH w' b hb.e cap)/\(hb.xs=[]->au.xs=[]/\au.ty=hb.ty/\∀b,ρ O=some b->w'.heap[b]? =w.heap[b]?)
theorem qv.o{ρ':Nat->Option Nat}{hp':HP}{w':World}{O:Nat}(h:qv ρ ρ' hp hp' w w' O):ρ' O=ρ O/\∀hb,hp O=some hb->∃au,hp' O=some au/\au.e=hb.e/\hb.xs.length<=au.xs.length/\∀b cap,ρ O=some b->dH w b hb.e cap->dH w' b hb.e cap:=
 ⟨h.r,fun hb aj=>let⟨au,a,b,c,d,_⟩:=h.h hb aj;⟨au,a,b,c,d⟩⟩
structure yy(ρ ρ':Nat->Option Nat)(hp hp':HP)(w w':World)(O:Nat):Prop where
 r:ρ' O=ρ O
 h:∀hb,hp O=some hb->∃au,hp' O=some au/\au.e=hb.e/\hb.xs.length<=au.xs.length/\∀b cap,ρ O=some b->dH w b hb.e cap->dH w' b hb.e cap
theorem qv.B7{ρ':Nat->Option Nat}{hp':HP}{w':World}{O:Nat}(h:qv ρ ρ' hp hp' w w' O):yy ρ ρ' hp hp' w w' O:=⟨h.r,h.o.2⟩
theorem pE.move{ρ':Nat->Option Nat}{hp':HP}{w':World}{γ o n:Nat}{v:Value}(h:pE ρ hp w γ o n v)(hr:yy ρ ρ' hp hp' w w' γ):pE ρ' hp' w' γ o n v:=by obtain⟨h0,hb,b,cap,h1,h2,h3,h4,h5,h6⟩:=h;obtain⟨au,a1,a2,_,a4⟩:=hr.h hb h1;exact⟨h0,au,b,cap,a1,by rw[hr.r];exact h2,by rw[a2];exact h3,by rw[a2];exact a4 b _ h2 h4,h5,h6⟩
theorem cZ.move{ρ':Nat->Option Nat}{hp':HP}{w':World}{p:PV}{v:Value}(h:cZ C ρ hp w p v)(hc:nt w w' (aI C ρ hp) (aI C ρ' hp'))(hs:∀O∈p.dO,yy ρ ρ' hp hp' w w' O):cZ C ρ' hp' w' p v:=by
 cases p with
 |undef=>trivial
 |ax O o n=>exact⟨h.1,fm.move h.2 ⟨(hs O (by simp[PV.dO])).r,(hs O (by simp[PV.dO])).h⟩⟩
 |aL γ o n=>exact pE.move h (hs γ (by simp[PV.dO]))
 |_=>exact hc.rc _ _ h
theorem dp.move{ρ':Nat->Option Nat}{hp':HP}{w':World}{p:PV}{v:Value}(h:dp C ρ hp w p v)
  (hc:nt w w' (aI C ρ hp) (aI C ρ' hp'))
  (hr:∀O∈p.bS,ρ' O=ρ O/\∀hb,hp O=some hb->∃au,hp' O=some au/\au.e=hb.e/\hb.xs.length<=au.xs.length/\∀b cap,ρ O=some b->dH w b hb.e cap->dH w' b hb.e cap)
  (hs:∀O∈p.fa,yy ρ ρ' hp hp' w w' O):
  dp C ρ' hp' w' p v:=by
 cases p with
 |mp O i o=>obtain⟨b,hb,h1,h2,h3⟩:=h;obtain⟨e1,e2⟩:=hr O (by simp[PV.bS]);obtain⟨au,h4,h5,_,_⟩:=e2 hb h2;exact⟨b,au,by rw[e1];exact h1,h4,by rw[h5];exact h3⟩
 |ax O o n=>exact fm.move h (hr O (by simp[PV.bS]))
 |rb O o n=>obtain⟨b,u,h1,h2,h3,h4,h5⟩:=h;exact⟨b,u,h1,KaE h2 hc.size,hc.out b h2 h3,(xU (hc.bV b h2 h3)).trans h4,fm.move h5 (hr O (by simp[PV.bS]))⟩
 |np γ i o=>obtain⟨h0,b,hb,h1,h2,h3⟩:=h;have hq:=hs γ (by simp[PV.fa]);obtain⟨au,a1,a2,_⟩:=hq.h hb h2;exact⟨h0,b,au,by rw[hq.r];exact h1,a1,by rw[a2];exact h3⟩
 |aL γ o n=>exact pE.move h (hs γ (by simp[PV.fa]))
 |_=>exact hc.rc _ _ h
theorem KG{f:FuncId}{first cap:List PV}{i:Nat}{x:PV}(h:first[i]? =some x):∀O∈x.bS,O∈(PV.fn f first cap).refs:=by intro O aj;simp only[PV.refs,KaS,Kaq];exact .inl ⟨x,Kai h,aj⟩
theorem KN{f:FuncId}{first cap:List PV}{i:Nat}{x:PV}(h:cap[i]? =some x):∀O∈x.bS,O∈(PV.fn f first cap).refs:=by intro O aj;simp only[PV.refs,KaS,Kaq];exact .inr ⟨x,Kai h,aj⟩
theorem eX.move{w':World}{X X':Nat->Prop}{p:PV}{v:Value}(h:eX w X p v)(hc:∀q u,Qn w X q u->Qn w' X' q u):eX w' X' p v:=by
 have h1:∀p v,Q8 w X p v->Q8 w' X' p v:=by
  intro p v h;cases p with
  |agg cs=>obtain⟨vs,rfl,h1,h2⟩:=h;exact⟨vs,rfl,h1,fun i x hi=>hc _ _ (h2 i x hi)⟩
  |_=>exact hc _ _ h
 cases p with
 |aK ps=>obtain⟨vs,rfl,g1,g2⟩:=h;exact⟨vs,rfl,g1,fun i x hi=>h1 _ _ (g2 i x hi)⟩
 |agg cs=>exact h1 (.agg cs) v h
 |_=>exact hc _ _ h
theorem Qk.move{ρ':Nat->Option Nat}{hp':HP}{w':World}{p:PV}{v:Value}(h:Qk C ρ hp w p v)
  (hc:nt w w' (aI C ρ hp) (aI C ρ' hp'))
  (hr:∀O∈p.refs,ρ' O=ρ O/\∀hb,hp O=some hb->∃au,hp' O=some au/\au.e=hb.e/\hb.xs.length<=au.xs.length/\∀b cap,ρ O=some b->dH w b hb.e cap->dH w' b hb.e cap)
  (hs:∀O∈p.aV,yy ρ ρ' hp hp' w w' O) (hn:∀γ e ty xs,p= .aJ γ e ty xs->qv ρ ρ' hp hp' w w' γ):
  Qk C ρ' hp' w' p v:=by
 cases p with
 |undef=>trivial
 |mp O i o=>exact dp.move (p:=.mp O i o) h hc (fun bY nX=>hr bY nX) (fun O aj=>by cases aj)
 |ax O o n=>exact dp.move (p:=.ax O o n) h hc (fun bY nX=>hr bY nX) (fun O aj=>by cases aj)
 |rb O o n=>exact dp.move (p:=.rb O o n) h hc (fun bY nX=>hr bY nX) (fun O aj=>by cases aj)
 |np γ i o=>exact dp.move (p:=.np γ i o) h hc (fun O aj=>by cases aj) (fun bY nX=>hs bY nX)
 |aL γ o n=>exact dp.move (p:=.aL γ o n) h hc (fun O aj=>by cases aj) (fun bY nX=>hs bY nX)
 |aP cs=>obtain⟨vs,rfl,h1,h2⟩:=h;exact⟨vs,rfl,h1,fun i x hi=>(h2 i x hi).move hc (fun O aj=>hs O (Kaq.2 ⟨x,Kai hi,aj⟩))⟩
 |fb cs=>obtain⟨vs,rfl,h1,h2⟩:=h;exact⟨vs,rfl,h1,fun i x hi=>(h2 i x hi).move hc (fun O aj=>hs O (Kaq.2 ⟨x,Kai hi,aj⟩))⟩
 |dx cs q=>obtain⟨vs,u,rfl,h1,h2,h3⟩:=h;exact⟨vs,u,rfl,h1,fun i x hi=>(h2 i x hi).move hc (fun O aj=>hs O (Kaq.2 ⟨x,Kai hi,aj⟩)),h3.mono hc.bV hc.out hc.size⟩
 |aJ γ e ty xs=>obtain⟨h0,he,b,hb,cur,cap,h1,h2,h3,h4,h5,h6,h7,h8,h9,du,nG⟩:=h;have hq:=hn γ e ty xs rfl;obtain⟨au,a1,a2,_,_,a5⟩:=hq.h hb h2;obtain⟨a5,a6,a7⟩:=a5 h3;refine⟨h0,he,b,au,cur,cap,by rw[hq.r];exact h1,a1,a5,by rw[a2];exact h4,by rw[a6];exact h5,by rw[a7 b h1];exact h6,h7,h8,h9,du,fun i x hi j y hy=>(nG i x hi j y hy).move hc (fun O aj=>hs O ?_)⟩;refine KaZ _ (Kaq.2 ⟨x,Kai hi,Kaq.2 ⟨y,Kai hy,aj⟩⟩)
 | fn f first cap=>
  obtain⟨fv,cv,rfl,h1,h2,h3,h4⟩:=h;exact⟨fv,cv,rfl,h1,h2,fun i x hi=>(h3 i x hi).move hc (fun O aj=>hr O (KG hi O aj)) (fun O aj=>hs O (KaS.2 (.inl (Kaq.2 ⟨x,Kai hi,aj⟩)))),
   fun i x hi=>(h4 i x hi).move hc (fun O aj=>hr O (KN hi O aj)) (fun O aj=>hs O (KaS.2 (.inr (Kaq.2 ⟨x,Kai hi,aj⟩))))⟩
 |agg cs=>exact eX.move (p:=.agg cs) h hc.rc
 |aK cs=>exact eX.move (p:=.aK cs) h hc.rc
 |_=>exact hc.rc _ _ h
theorem Qk.qZ{ρ':Nat->Option Nat}{hp':HP}{w':World}{p:PV}{v:Value}(h:Qk C ρ hp w p v)
  (hc:nt w w' (aI C ρ hp) (aI C ρ' hp'))
  (hr:∀O∈p.refs,ρ' O=ρ O/\∀hb,hp O=some hb->∃au,hp' O=some au/\au.e=hb.e/\hb.xs.length<=au.xs.length/\∀b cap,ρ O=some b->dH w b hb.e cap->dH w' b hb.e cap)
  (hs:∀O∈p.aV,qv ρ ρ' hp hp' w w' O):Qk C ρ' hp' w' p v:=
 h.move hc hr (fun O aj=>(hs O aj).B7) (fun γ e ty xs e1=>hs γ (by rw[e1];simp[PV.aV]))
theorem mw{w w':World}{b e cap:Nat}(h:w'.heap[b]? =w.heap[b]?)(hc:dH w b e cap):dH w' b e cap:=by obtain⟨cur,ty,h1,h2⟩:=hc;exact⟨cur,ty,by rw[h];exact h1,h2⟩
theorem mB{w:World}{b e cap:Nat}(hc:dH w b e cap):b<w.heap.size:=by obtain⟨cur,ty,h1,_⟩:=hc;exact(Kan.1 h1).1
theorem AS.move{w w':World}{X X':Nat->Prop}{b:Nat}{hb au:HB}(h:AS w X b hb)(hh:w'.heap[b]? =w.heap[b]?)(e1:au.e=hb.e)(e2:au.ty=hb.ty)(e3:au.xs=hb.xs)
  (hc:∀q u,Qn w X q u->Qn w' X' q u):AS w' X' b au:=by
 obtain⟨cur,cap,h1,h2,h3,h4,h5⟩:=h;exact⟨cur,cap,by rw[hh,e2];exact h1,by rw[e1];exact h2,by rw[e3];exact h3,h4,fun i x hi j y hy=>by rw[e1];exact hc _ _ (h5 i x (by rw[<-e3];exact hi) j y hy)⟩
theorem Qt.ae(h:Qt C ρ fr hp tmps w){d:Nat}{p:PV}{v:Value}(hv:Qk C ρ hp w p v)(hd:d<C.N):Qt C ρ (ae fr d p) hp (tmps.setIfInBounds d v) w:=by
 refine⟨by simpa using h.sz,h.ext,h.fI,h.own,h.inj,fun i=>?_⟩;unfold FW.ae;split
 ·rename_i he;subst he;simpa[Array.getD,h.sz,hd]using hv
 ·rename_i he;have:(tmps.setIfInBounds d v).getD i undef=tmps.getD i undef:=by simp only[KaL];rw[Kb6 (fun e=>he e.symm)]
  rw[this];exact h.dm i
theorem K2{l:List Nat}{b:Nat}(h:aI C ρ (Q6 hp l) b):aI C ρ hp b:=by
 rcases h with h|⟨O,hb,h1,h2,h3⟩
 ·exact .inl h
 ·refine .inr ⟨O,hb,?_,h2,h3⟩;unfold Q6 at h1;split at h1
  ·cases hq:hp O with
   |none=>simp[hq]at h1
   |some lF=>simp[hq]at h1;subst h1;simp at h2
  ·exact h1
theorem GW{l:List Nat}{O:Nat}{hb:HB}(h:hp O=some hb):∃au,Q6 hp l O=some au/\au.e=hb.e/\au.ty=hb.ty/\au.xs=hb.xs/\(au.fz=false->au=hb)/\(au.fz=false->O ∉ l):=by
 unfold Q6;by_cases hl:l.contains O=true
 ·rw[if_pos hl,h];exact⟨_,rfl,rfl,rfl,rfl,by simp,by simp⟩
 ·rw[if_neg hl,h];exact⟨hb,rfl,rfl,rfl,rfl,fun _=>rfl,fun _=>by simpa using hl⟩
theorem Cp{l:List Nat}{O:Nat}{au:HB}(h:Q6 hp l O=some au):∃hb,hp O=some hb/\au.e=hb.e/\au.ty=hb.ty/\au.xs=hb.xs/\(au.fz=false->au=hb)/\(au.fz=false->O ∉ l):=by
 cases hq:hp O with
 |none=>unfold Q6 at h;split at h<;>simp[hq]at h
 |some hb=>obtain⟨cN,g1,g2⟩:=GW (l:=l) hq;rw[g1]at h;cases h;exact⟨hb,rfl,g2⟩
theorem Qn.freeze{l:List Nat}{q:PV}{u:Value}(h:Qn w (aI C ρ hp) q u):Qn w (aI C ρ (Q6 hp l)) q u:=
 h.mono (fun _ _ _=>rfl) (fun _ _ hn hx=>hn (K2 hx)) (Kae _)
theorem Qt.freeze(h:Qt C ρ fr hp tmps w)(l:List Nat):Qt C ρ fr (Q6 hp l) tmps w:=by
 refine⟨h.sz,h.ext,h.fI,fun O au aj=>?_,fun O γ b h1 h2 h3 h4=>?_,fun i=>?_⟩
 ·obtain⟨hb,g1,g2,g3,g4,g5,_⟩:=Cp aj;obtain⟨p1,p2,p3,p4,p5⟩:=h.own O hb g1;refine⟨by rw[g2];exact p1,fun i x hi=>by rw[g2];exact p2 i x (by rw[<-g4];exact hi),?_,p4,fun hq=>by
   cases hz:au.fz with
   |true=>rfl
   |false=>rw[<-g5 hz,hz]at p5;cases p5 hq⟩
  cases bE:ρ O with
  |none=>rw[bE]at p3;simp only at p3 ⊢;rw[g4];exact p3
  |some b=>rw[bE]at p3;simp only at p3 ⊢;exact⟨p3.1,p3.2.1,p3.2.2.move rfl g2 g3 g4 (fun q u hq=>hq.freeze)⟩
 ·have f1:∀γ,FW.Q6 hp l γ≠none->hp γ≠none:=fun γ hn=>by
   cases hq:hp γ with
   |none=>unfold FW.Q6 at hn;split at hn<;>simp[hq]at hn
   |some _=>simp
  exact h.inj O γ b (f1 O h1) (f1 γ h2) h3 h4
 ·refine(h.dm i).qZ ⟨fun _ _ _=>rfl,fun _ _ hn hx=>hn (K2 hx),Kae _⟩ (fun O _=>⟨rfl,fun hb aj=>by
  obtain⟨au,g1,g2,_,g4,_⟩:=GW (l:=l) aj;exact⟨au,g1,g2,by rw[g4];exact Kae _,fun b cap _ hc=>hc⟩⟩) (fun O _=>⟨rfl,fun hb aj=>by
  obtain⟨au,g1,g2,g3,g4,_⟩:=GW (l:=l) aj;exact⟨au,g1,g2,by rw[g4];exact Kae _,fun b cap _ hc=>hc,fun he=>⟨by rw[g4];exact he,g3,fun _ _=>rfl⟩⟩⟩)
theorem Qt.grow{w':World}(h:Qt C ρ fr hp tmps w)(hx:Ext Q5 w w'):Qt C ρ fr hp tmps w':=by
 have iv:nt w w' (aI C ρ hp) (aI C ρ hp):=⟨fun b hb _=>hx.block b hb (fun h=>h),fun _ _ hn=>hn,hx.size⟩
 have hc:=iv.rc;refine⟨h.sz,h.ext.trans' hx (fun _ _ h=>h.elim),fun b0 b hb e cap hc=>mw (hx.block b (mB (h.fI b0 b hb e cap hc)) (fun h=>h)) (h.fI b0 b hb e cap hc),fun O hb aj=>?_,h.inj,fun i=>?_⟩
 ·obtain⟨p1,p2,p3,p4,p5⟩:=h.own O hb aj;refine⟨p1,p2,?_,p4,p5⟩;cases bE:ρ O with
  |none=>rw[bE]at p3;exact p3
  |some b=>rw[bE]at p3;exact⟨p3.1,KaE p3.2.1 hx.size,p3.2.2.move (hx.block b p3.2.1 (fun h=>h)) rfl rfl rfl hc⟩
 ·exact(h.dm i).qZ iv (fun O _=>⟨rfl,fun hb aj=>⟨hb,aj,rfl,Kae _,fun b cap _ dQ=>mw (hx.block b (mB dQ) (fun h=>h)) dQ⟩⟩)
   (fun O _=>⟨rfl,fun hb aj=>⟨hb,aj,rfl,Kae _,fun b cap _ dQ=>mw (hx.block b (mB dQ) (fun h=>h)) dQ,fun he=>⟨he,rfl,fun b bE=>hx.block b (by have:=(h.own O hb aj).bV;rw[bE]at this;exact this.2.1) (fun h=>h)⟩⟩⟩)
theorem UE{O:Nat}{p:PV}:∀γ∈(bU O p).refs,γ≠O/\γ∈p.refs:=by
 intro γ ah;unfold bU at ah;split at ah
 ·simp[PV.refs]at ah
 ·rename_i hn;refine⟨fun he=>hn (by subst he;simpa using ah),ah⟩
theorem Qk.kill{O:Nat}{p:PV}{v:Value}(h:Qk C ρ hp w p v):Qk C ρ hp w (bU O p) v:=by
 unfold bU;split
 ·trivial
 ·exact h
theorem cZ.B4{p:PV}{v:Value}(h:cZ C ρ hp w p v):∀γ∈p.dO,bW γ=true:=by
 intro γ ah;cases p with
 |ax O o n=>simp[PV.dO]at ah;subst ah;exact h.1
 |aL O o n=>simp[PV.dO]at ah;subst ah;exact h.1
 |np O o n=>cases h
 |_=>cases ah
theorem dp.aaP{p:PV}{v:Value}(h:dp C ρ hp w p v):∀γ∈p.fa,bW γ=true:=by
 intro γ ah;cases p with
 |aL O o n=>simp[PV.fa]at ah;subst ah;exact h.1
 |np O o n=>simp[PV.fa]at ah;subst ah;exact h.1
 |_=>cases ah
theorem Qk.B4{p:PV}{v:Value}(h:Qk C ρ hp w p v):∀γ∈p.aV,bW γ=true:=by
 intro γ ah;cases p with
 |aL O o n=>simp[PV.aV]at ah;subst ah;exact h.1
 |np O o n=>simp[PV.aV]at ah;subst ah;exact h.1
 |aP cs=>obtain⟨vs,_,_,h2⟩:=h;obtain⟨x,hx,ah⟩:=Kaq.1 ah;obtain⟨i,hi⟩:=KaF hx;exact(h2 i x hi).B4 γ ah
 |fb cs=>obtain⟨vs,_,_,h2⟩:=h;obtain⟨x,hx,ah⟩:=Kaq.1 ah;obtain⟨i,hi⟩:=KaF hx;exact(h2 i x hi).B4 γ ah
 |dx cs q=>obtain⟨vs,u,_,_,h2,_⟩:=h;obtain⟨x,hx,ah⟩:=Kaq.1 ah;obtain⟨i,hi⟩:=KaF hx;exact(h2 i x hi).B4 γ ah
 | aJ O e ty xs=>
  obtain⟨h0,_,b,hb,cur,cap,_,_,_,_,_,_,_,_,_,_,nG⟩:=h;rcases KaH.1 ah with rfl|ah
  ·exact h0
  ·obtain⟨x,hx,ah⟩:=Kaq.1 ah;obtain⟨y,hy,ah⟩:=Kaq.1 ah;obtain⟨i,hi⟩:=KaF hx;obtain⟨j,hj⟩:=KaF hy;exact(nG i x hi j y hj).B4 γ ah
 | fn f first cap=>
  obtain⟨fv,cv,_,_,_,h3,h4⟩:=h;rcases KaS.1 ah with ah|ah
  ·obtain⟨x,hx,ah⟩:=Kaq.1 ah;obtain⟨i,hi⟩:=KaF hx;exact(h3 i x hi).aaP γ ah
  ·obtain⟨x,hx,ah⟩:=Kaq.1 ah;obtain⟨i,hi⟩:=KaF hx;exact(h4 i x hi).aaP γ ah
 |_=>cases ah
def rb(ρ:Nat->Option Nat)(O:Nat)(b':Option Nat):Nat->Option Nat:=fun γ=>if γ=O then b' else ρ γ
theorem ij(ρ:Nat->Option Nat)(O:Nat)(b':Option Nat):rb ρ O b' O=b':=by simp[rb]
theorem qA{ρ:Nat->Option Nat}{O γ:Nat}{b':Option Nat}(h:γ≠O):rb ρ O b' γ=ρ γ:=by simp[rb,h]
def AT(C:Ctx)(ρ:Nat->Option Nat)(hp:HP)(w:World)(O:Nat)(fr aC:Fr):Prop:=∀(i:Nat)(v:Value),Qk C ρ hp w (fr i) v->Qk C ρ hp w (aC i) v/\(∀γ∈(aC i).refs,γ≠O)/\∀γ∈(aC i).aV,γ≠O
theorem Hb{O:Nat}(hB:bW O=false):AT C ρ hp w O fr (bZ O fr):=fun i v h=>by have hk:=Qk.kill (O:=O) h;exact⟨hk,fun γ ah=>(UE γ ah).1,fun γ ah e=>by have:=hk.B4 γ ah;rw[e,hB]at this;cases this⟩
theorem Qt.B3{w':World}{aC:Fr}(h:Qt C ρ fr hp tmps w)(O:Nat)(b':Option Nat)(au:HB)(hB:aQ O=false)(sm:AT C ρ hp w O fr aC)
  (hx:Ext (fun b=>ρ O=some b/\∃hb,hp O=some hb/\hb.fz=false) w w')
  (oQ:∀c,b'=some c->(C.w0.heap.size<=c∨C.Z0 c)/\c<w'.heap.size/\(w.heap.size<=c∨(ρ O=some c/\∃hb,hp O=some hb/\hb.fz=false)))
  (he:0<au.e) (hl:∀(i:Nat)(x:PV),au.xs[i]? =some x->x.cells.length=au.e/\x.aG=true)
  (mK:b'=none->au.xs=[]) (bc:∀c,b'=some c->∃(cur:Array Value) (cap:Nat),w'.heap[c]? =some (.cells cur au.ty (0,0))/\cur.size=cap*au.e/\au.xs.length<=cap/\cap<=maxLen/\
   ∀(i:Nat)(x:PV),au.xs[i]? =some x->∀(j:Nat)(y:PV),x.cells[j]? =some y->Qn w (aI C ρ hp) y (cur.getD (i*au.e+j) undef)):
  Qt C (rb ρ O b') aC (Qj hp O au) tmps w':=by
 have hX:∀b,b<w.heap.size->¬aI C ρ hp b->¬aI C (rb ρ O b') (Qj hp O au) b:=by
  intro b hb hn aX;rcases aX with aX|⟨γ,hg,h1,h2,h3⟩
  ·exact hn (.inl aX)
  ·unfold Qj at h1;by_cases ah:γ=O
   ·subst ah;rw[ij]at h3;obtain⟨_,_,h4|⟨h5,lF,h6,h7⟩⟩:=oQ b h3
    ·omega
    ·exact hn (.inr ⟨γ,lF,h6,h7,h5⟩)
   ·rw[if_neg ah]at h1;rw[qA ah]at h3;exact hn (.inr ⟨γ,hg,h1,h2,h3⟩)
 have iv:nt w w' (aI C ρ hp) (aI C (rb ρ O b') (Qj hp O au)):=
  ⟨fun b hb hn=>hx.block b hb (fun⟨e1,lF,e2,e3⟩=>hn (.inr ⟨O,lF,e2,e3,e1⟩)),hX,hx.size⟩
 have hc:=iv.rc;have hold:∀b,ρ O=some b->(∃hb,hp O=some hb/\hb.fz=false)->C.w0.heap.size<=b∨C.Z0 b:=by intro b e1 ⟨lF,e2,e3⟩;have:=(h.own O lF e2).bV;rw[e1]at this;exact Ctx.w9 this.1 hB
 have fX:Ext C.Y0 C.w0 w':=by refine h.ext.trans' (Y':=fun b=>ρ O=some b/\∃hb,hp O=some hb/\hb.fz=false) hx ?_;intro b hb ⟨e1,e2⟩;exact(Ctx.N_Y (hold b e1 e2)).resolve_left (by omega)
 have EW:∀O b,C.fx O=some b->∀e cap,dH C.w0 b e cap->dH w' b e cap:=fun b0 b hb e cap iv=>by have h1:=h.fI b0 b hb e cap iv;refine mw (hx.block b (mB h1) ?_) h1;intro⟨e1,e2⟩;exact Ctx.O6 (hold b e1 e2) hb
 refine⟨h.sz,fX,EW,fun γ hg ah=>?_,fun γ δ b h1 h2 h3 h4=>?_,fun i=>?_⟩
 ·unfold Qj at ah;by_cases ud:γ=O
  ·rw[if_pos ud]at ah;cases ah;subst ud;refine⟨he,hl,?_,(fun hq=>by rw[hB]at hq;cases hq),fun hq=>by rw[AA hB]at hq;cases hq⟩;rw[ij];cases b' with
   |none=>exact mK rfl
   |some c=>obtain⟨cur,cap,c1,c2,c3,c4,c5⟩:=bc c rfl;exact⟨Ctx.Xc (oQ c rfl).1 hB,(oQ c rfl).2.1,cur,cap,c1,c2,c3,c4,fun i x hi j y hy=>hc _ _ (c5 i x hi j y hy)⟩
  ·rw[if_neg ud]at ah;obtain⟨p1,p2,p3,p4,p5⟩:=h.own γ hg ah;refine⟨p1,p2,?_,(fun hq=>by rw[qA ud];exact p4 hq),p5⟩;rw[qA ud];cases bE:ρ γ with
   |none=>rw[bE]at p3;exact p3
   |some b=>rw[bE]at p3;refine⟨p3.1,KaE p3.2.1 hx.size,p3.2.2.move (hx.block b p3.2.1 ?_) rfl rfl rfl hc⟩;intro⟨e1,lF,e2,_⟩;exact ud (h.inj γ O b (by simp[ah]) (by simp[e2]) bE e1)
 ·
  have key:∀γ b,γ≠O->hp γ≠none->ρ γ=some b->b'=some b->False:=by
   intro γ b bz hs hr hb;obtain⟨_,_,h4|⟨h5,lF,h6,h7⟩⟩:=oQ b hb
   ·cases hq:hp γ with
    |none=>exact hs hq
    |some hg=>have:=(h.own γ hg hq).bV;rw[hr]at this;omega
   ·exact bz (h.inj γ O b hs (by simp[h6]) hr h5)
  unfold Qj at h1 h2;by_cases ah:γ=O<;>by_cases oX:δ=O
  ·rw[ah,oX]
  ·subst ah;rw[ij]at h3;rw[qA oX]at h4;rw[if_neg oX]at h2;exact(key δ b oX h2 h4 h3).elim
  ·subst oX;rw[ij]at h4;rw[qA ah]at h3;rw[if_neg ah]at h1;exact(key γ b ah h1 h3 h4).elim
  ·rw[qA ah]at h3;rw[qA oX]at h4;rw[if_neg ah]at h1;rw[if_neg oX]at h2;exact h.inj γ δ b h1 h2 h3 h4
 ·obtain⟨hk,ko,iy⟩:=sm i _ (h.dm i);refine hk.qZ iv (fun γ ah=>?_) (fun γ ah=>?_)
  ·have bz:=ko γ ah;refine⟨qA bz,fun hg gZ=>⟨hg,by simp[Qj,bz,gZ],rfl,Kae _,fun b cap bE dQ=>mw (hx.block b (mB dQ) ?_) dQ⟩⟩;intro⟨e1,lF,e2,_⟩;exact bz (h.inj γ O b (by simp[gZ]) (by simp[e2]) bE e1)
  ·have bz:=iy γ ah;have qi:∀b hg,hp γ=some hg->ρ γ=some b->¬(ρ O=some b/\∃hb,hp O=some hb/\hb.fz=false):=fun b hg gZ bE ⟨e1,lF,e2,_⟩=>bz (h.inj γ O b (by simp[gZ]) (by simp[e2]) bE e1);refine⟨qA bz,fun hg gZ=>⟨hg,by simp[Qj,bz,gZ],rfl,Kae _,fun b cap bE dQ=>mw (hx.block b (mB dQ) (qi b hg gZ bE)) dQ,fun he=>⟨he,rfl,fun b bE=>hx.block b ?_ (qi b hg gZ bE)⟩⟩⟩;have:=(h.own γ hg gZ).bV;rw[bE]at this;exact this.2.1
theorem Qt.rebind{w':World}(h:Qt C ρ fr hp tmps w)(O:Nat)(b':Option Nat)(au:HB)(hB:bW O=false)
  (hx:Ext (fun b=>ρ O=some b/\∃hb,hp O=some hb/\hb.fz=false) w w')
  (oQ:∀c,b'=some c->(C.w0.heap.size<=c∨C.Z0 c)/\c<w'.heap.size/\(w.heap.size<=c∨(ρ O=some c/\∃hb,hp O=some hb/\hb.fz=false)))
  (he:0<au.e) (hl:∀(i:Nat)(x:PV),au.xs[i]? =some x->x.cells.length=au.e/\x.aG=true)
  (mK:b'=none->au.xs=[]) (bc:∀c,b'=some c->∃(cur:Array Value) (cap:Nat),w'.heap[c]? =some (.cells cur au.ty (0,0))/\cur.size=cap*au.e/\au.xs.length<=cap/\cap<=maxLen/\
   ∀(i:Nat)(x:PV),au.xs[i]? =some x->∀(j:Nat)(y:PV),x.cells[j]? =some y->Qn w (aI C ρ hp) y (cur.getD (i*au.e+j) undef)):
  Qt C (rb ρ O b') (bZ O fr) (Qj hp O au) tmps w':=h.B3 O b' au (yh hB) (Hb hB) hx oQ he hl mK bc
theorem Qt.store{w':World}(h:Qt C ρ fr hp tmps w)(O b:Nat)(hb au:HB)(aj:hp O=some hb)(nO:hb.fz=false)(bz:hb.xs≠[])(bE:ρ O=some b)
  (hx:Ext (fun c=>c=b) w w') (e1:au.e=hb.e) (e3:au.xs.length=hb.xs.length) (e4:au.fz=false)
  (hl:∀(i:Nat)(x:PV),au.xs[i]? =some x->x.cells.length=au.e/\x.aG=true)
  (dQ:∀e cap,dH w b e cap->dH w' b e cap)
  (bc:∃(cur:Array Value) (cap:Nat),w'.heap[b]? =some (.cells cur au.ty (0,0))/\cur.size=cap*au.e/\au.xs.length<=cap/\cap<=maxLen/\
   ∀(i:Nat)(x:PV),au.xs[i]? =some x->∀(j:Nat)(y:PV),x.cells[j]? =some y->Qn w (aI C ρ hp) y (cur.getD (i*au.e+j) undef)):Qt C ρ fr (Qj hp O au) tmps w':=by
 have Nb:∀c,aI C ρ (Qj hp O au) c↔aI C ρ hp c:=by
  intro c;constructor
  ·rintro(hx|⟨γ,hg,h1,h2,h3⟩)
   ·exact .inl hx
   ·unfold Qj at h1;by_cases ah:γ=O
    ·subst ah;exact .inr ⟨γ,hb,aj,nO,h3⟩
    ·rw[if_neg ah]at h1;exact .inr ⟨γ,hg,h1,h2,h3⟩
  ·rintro(hx|⟨γ,hg,h1,h2,h3⟩)
   ·exact .inl hx
   ·by_cases ah:γ=O
    ·subst ah;exact .inr ⟨γ,au,by simp[Qj],e4,h3⟩
    ·exact .inr ⟨γ,hg,by simp[Qj,ah,h1],h2,h3⟩
 have hXf:aI C ρ (Qj hp O au)=aI C ρ hp:=funext fun c=>propext (Nb c);have Ni:aI C ρ hp b:=.inr ⟨O,hb,aj,nO,bE⟩;have zj:fH O=false:=by
  cases hq:fH O with
  |false=>rfl
  |true=>have:=(h.own O hb aj).ro hq;rw[nO]at this;cases this
 have iv:nt w w' (aI C ρ hp) (aI C ρ (Qj hp O au)):=by rw[hXf];exact⟨fun c hc hn=>hx.block c hc (fun e=>hn (e▸Ni)),fun _ _ hn=>hn,hx.size⟩
 have hc:=iv.rc;have aS:=(h.own O hb aj).bV;rw[bE]at aS;have fX:Ext C.Y0 C.w0 w':=by refine h.ext.trans' (Y':=fun c=>c=b) hx ?_;intro c hc he;subst he;exact(Ctx.IG aS.1 zj).resolve_left (by omega)
 have EW:∀O c,C.fx O=some c->∀e cap,dH C.w0 c e cap->dH w' c e cap:=fun b0 c iv e cap jg=>by
  have h1:=h.fI b0 c iv e cap jg;by_cases jK:c=b
  ·subst jK;exact dQ e cap h1
  ·exact mw (hx.block c (mB h1) jK) h1
 refine⟨h.sz,fX,EW,fun γ hg ah=>?_,fun γ δ c h1 h2 h3 h4=>?_,fun i=>?_⟩
 ·unfold Qj at ah;by_cases ud:γ=O
  ·subst ud;rw[if_pos rfl]at ah;cases ah;refine⟨by rw[e1];exact(h.own γ hb aj).lE,hl,?_,(h.own γ hb aj).fix,fun hq=>by rw[zj]at hq;cases hq⟩;rw[bE];obtain⟨cur,cap,c1,c2,c3,c4,c5⟩:=bc;exact⟨aS.1,KaE aS.2.1 hx.size,cur,cap,c1,c2,c3,c4,fun i x hi j y hy=>hc _ _ (c5 i x hi j y hy)⟩
  ·rw[if_neg ud]at ah;obtain⟨p1,p2,p3,p4,p5⟩:=h.own γ hg ah;refine⟨p1,p2,?_,p4,p5⟩;cases hr:ρ γ with
   |none=>rw[hr]at p3;exact p3
   |some c=>rw[hr]at p3;exact⟨p3.1,KaE p3.2.1 hx.size,p3.2.2.move (hx.block c p3.2.1 (fun e=>ud (h.inj γ O b (by simp[ah]) (by simp[aj]) (e▸hr) bE))) rfl rfl rfl hc⟩
 ·have f1:∀γ,Qj hp O au γ≠none->hp γ≠none:=fun γ hn=>by
   unfold Qj at hn;by_cases ah:γ=O
   ·subst ah;simp[aj]
   ·rwa[if_neg ah]at hn
  exact h.inj γ δ c (f1 γ h1) (f1 δ h2) h3 h4
 ·have key:∀γ,qv ρ ρ hp (Qj hp O au) w w' γ:=fun γ=>⟨rfl,fun hg gZ=>by
   by_cases ah:γ=O
   ·subst ah;rw[aj]at gZ;cases gZ;exact⟨au,by simp[Qj],e1,by rw[e3];exact Kae _,fun c cap hr jg=>by rw[bE]at hr;cases hr;exact dQ _ cap jg,fun he=>absurd he bz⟩
   ·have qi:∀c,ρ γ=some c->¬c=b:=fun c hr e=>ah (h.inj γ O b (by simp[gZ]) (by simp[aj]) (e▸hr) bE);refine⟨hg,by simp[Qj,ah,gZ],rfl,Kae _,fun c cap hr jg=>mw (hx.block c (mB jg) (qi c hr)) jg,fun he=>⟨he,rfl,fun c hr=>hx.block c ?_ (qi c hr)⟩⟩;have:=(h.own γ hg gZ).bV;rw[hr]at this;exact this.2.1⟩
  exact(h.dm i).qZ iv (fun γ _=>(key γ).o) (fun γ _=>key γ)
end Go.FW
namespace Go.FW
open Go
variable {C : Ctx} {ρ : Nat -> Option Nat} {fr : Fr} {hp : HP} {w : World} {a : Act} {K : Qg}
theorem TF{X:Nat->Prop}{v:Value}{p:PV}(h:CP v=some p):Qn w X p v:=by unfold CP at h;split at h<;>simp at h<;>subst h<;>constructor
theorem nh{α O:Type}{f:α->Option O}:∀ {l:List α} {r:List O},l.mapM f=some r->r.length=l.length/\∀(i:Nat)(y:O),r[i]? =some y->∃x,l[i]? =some x/\f x=some y
 | [],r,h=>by simp at h;subst h;simp
 |x::l,r,h=>by
  rw[Kch]at h;simp only[KbX,Kcl,Kab,KaD]at h;obtain⟨y,hy,r',hr,rfl⟩:=h;obtain⟨h1,h2⟩:=nh hr;refine⟨by simp[h1],fun i z hz=>?_⟩;cases i with
  |zero=>simp at hz;subst hz;exact⟨x,by simp,hy⟩
  |succ i=>simp at hz;simpa using h2 i z hz
theorem GX(cs:Array Value)(i:Nat)(x:Value)(h:cs.toList[i]? =some x):cs.getD i undef=x:=by simp only[Array.getElem?_toList]at h;simp[KaL,h]
theorem uA{X:Nat->Prop}{v:Value}{p:PV}(h:uF v=some p):Q8 w X p v:=by
 unfold uF at h;split at h
 ·rename_i cs;simp only[Kaa]at h;obtain⟨l,h1,rfl⟩:=h;obtain⟨g1,g2⟩:=nh h1;refine⟨cs,rfl,by simpa using g1.symm,fun i x hx=>?_⟩;obtain⟨u,hu,hc⟩:=g2 i x hx;rw[GX cs i u hu];exact TF hc
 ·exact Q8.sN (TF h)
theorem GO{v:Value}{p:PV}(h:uF v=some p):p.aG=true/\p.refs=[]/\(∀f first cap,p≠ .fn f first cap):=by
 unfold uF at h;split at h
 ·simp only[Kaa]at h;obtain⟨l,h1,rfl⟩:=h;simp[PV.aG,PV.refs]
 ·unfold CP at h;split at h<;>simp at h<;>subst h<;>simp[PV.aG,PV.refs]
theorem Qk.aaT{p:PV}{v:Value}(h:Q8 w (aI C ρ hp) p v)(hn:∀f first cap,p≠ .fn f first cap):Qk C ρ hp w p v:=by
 cases p with
 |fn f first cap=>exact absurd rfl (hn _ _ _)
 |undef=>trivial
 |mp=>cases h
 |ax=>cases h
 |rb=>cases h
 |aL=>cases h
 |np=>cases h
 |aP=>cases h
 |fb=>cases h
 |dx=>cases h
 |aJ=>cases h
 |aK=>cases h
 |agg cs=>exact h
 |_=>exact h
theorem Qk.mZ{p:PV}{v:Value}(h:Q8 w (aI C ρ hp) p v):Qk C ρ hp w p v:=by
 by_cases hf:∃f first cap,p= .fn f first cap
 ·obtain⟨f,first,cap,rfl⟩:=hf;cases h with
  |fn _ _ _ fv cv h1 h2 h3 h4=>
   refine⟨fv,cv,rfl,h1,h2,fun i x hi=>?_,fun i x hi=>?_⟩
   ·have:=h3 i x hi;cases x<;>first|exact this|cases this
   ·have:=h4 i x hi;cases x<;>first|exact this|cases this
 ·exact Qk.aaT h (fun f first cap e=>hf ⟨f,first,cap,e⟩)
theorem cP{x:Operand}{y:aM}(h:Qt C ρ fr hp a.tmps w)(ho:cj x=some y):Qk C ρ hp w (ev fr y) (a.eval x):=by
 cases x with
 |tmp t=>simp[cj]at ho;subst ho;exact h.dm t
 |const v=>simp only[cj,Kaa]at ho;obtain⟨p,hp',rfl⟩:=ho;exact Qk.aaT (uA hp') (GO hp').2.2
 |global g=>simp[cj]at ho
 |func f=>simp[cj]at ho;subst ho;exact⟨#[],#[],rfl,rfl,rfl,by simp,by simp⟩
theorem Qk.lK{k:IntKind}{n:Int}{v:Value}(h:Qk C ρ hp w (.int k n) v):v= .int k n:=by cases h;rfl
theorem Qk.Bk{b:Bool}{v:Value}(h:Qk C ρ hp w (.bool b) v):v= .bool b:=by cases h;rfl
theorem Qk.zL{v:Value}(h:Qk C ρ hp w .ab v):v= .slice none 0 0:=by cases h;rfl
theorem Qk.mkInt(k:IntKind)(n:Int):Qk C ρ hp w (.int k n) (.int k n):=Qn.int k n
theorem Qk.xK(b:Bool):Qk C ρ hp w (.bool b) (.bool b):=Qn.bool b
theorem Qk.abc:Qk C ρ hp w (.aK []) undef:=⟨#[],rfl,rfl,by simp⟩
def Qx(C:Ctx)(ρ:Nat->Option Nat)(o:Oper)(a:Act)(w:World)(K:Qg):Prop:=
 ∃v,(∀w',(execOp a.eval o).run C.P w'= .ok (.value v) w')/\∃aC hp',Qt C ρ aC hp' (a.put o.dst v).tmps w/\K aC hp'
theorem Qx.mk{o:Oper}{d:Nat}{p:PV}{v:Value}(hd:o.dst=some d)(ao:d<C.N)(h:Qt C ρ fr hp a.tmps w)
  (bQ:∀w',(execOp a.eval o).run C.P w'= .ok (.value v) w') (hr:Qk C ρ hp w p v) (hK:K (ae fr d p) hp):Qx C ρ o a w K:=
 ⟨v,bQ,ae fr d p,hp,by rw[hd];exact h.ae hr ao,hK⟩
theorem Q9{P:Program}{t:TypeId}{d:TypeDesc}(h:P.underlying t=some d)(w:World):(underlying t).run P w= .ok d w:=run_underlying h w
theorem mz{P:Program}{t:TypeId}{n:Nat}(h:eV P t=some n)(w:World):(sizeOf t).run P w= .ok n w:=by simp only[eV,Kaa]at h;obtain⟨i,hi,rfl⟩:=h;simp[sizeOf,typeInfo,hi]
theorem CD{P:Program}{t:TypeId}{ag:Bool}(h:nr P t=some ag)(w:World):(isAgg t).run P w= .ok ag w:=by simp only[nr,Kaa]at h;obtain⟨d,hd,rfl⟩:=h;simp only[isAgg,Kal,Q9 hd,Kaj];cases d<;>rfl
theorem Ty{P:Program}{T:TypeId}(hu:P.underlying T=some .bool)(n m:Bool)(w:World):(Op.equal T (.bool n) (.bool m)).run P w= .ok (n==m) w:=by show(Op.equalIn (9999+1) T (.bool n) (.bool m)).run P w=_;unfold Op.equalIn;rw[Kal,Q9 hu,Kaj];rfl
theorem Q0p{P:Program}{T:TypeId}(hu:P.underlying T=some .bool)(n m:Bool)(w:World):(binOp .eql T (.bool n) (.bool m)).run P w= .ok (.bool (n==m)) w:=by show(do pure (Value.bool (<-Op.equal T (.bool n) (.bool m))):Sem Value).run P w=_;rw[Kal,Ty hu,Kaj];rfl
theorem Q0q{P:Program}{T:TypeId}(hu:P.underlying T=some .bool)(n m:Bool)(w:World):(binOp .neq T (.bool n) (.bool m)).run P w= .ok (.bool (!(n==m))) w:=by show(do pure (Value.bool (!(<-Op.equal T (.bool n) (.bool m)))):Sem Value).run P w=_;rw[Kal,Ty hu,Kaj];rfl
theorem rh{o:Oper}{op:BinOp}{T T2:TypeId}{x y:Operand}(ho:o.op= .binOp op T x y T2){vx vy v:Value}(ex:a.eval x=vx)(ey:a.eval y=vy)
  (hg:∀w,(eqGuard op T x y vx vy).run C.P w= .ok () w) (hr:∀w,(binOp op T vx vy).run C.P w= .ok v w):∀w,(execOp a.eval o).run C.P w= .ok (.value v) w:=by
 intro w;unfold execOp;simp only[ho,ex,ey,Kal,hg,hr,Kaj];rfl
theorem Q9i{o:Oper}{op:BinOp}{T T2:TypeId}{x y:Operand}{px py:PV}{d:Nat}(ho:o.op= .binOp op T x y T2)(hd:o.dst=some d)(ao:d<C.N)(h:Qt C ρ fr hp a.tmps w)
    (hx:Qk C ρ hp w px (a.eval x)) (hy:Qk C ρ hp w py (a.eval y)) {bt:Bool} (lG:bt=true->C.P.underlying T=some .bool)
    (hv:cn op bt px py d fr hp K):Qx C ρ o a w K:=by
  unfold cn at hv;split at hv
  · rename_i k n k' m
    have ex:=hx.lK;have ey:=hy.lK;have kk:∀w',(eqGuard op T x y (.int k n) (.int k' m)).run C.P w'= .ok () w':=by intro w';unfold eqGuard;cases op<;>rfl
    split at hv
    · obtain⟨h0,hv⟩:=hv
      have Ec:¬m<0:=by omega
      exact Qx.mk hd ao h (rh ho ex ey kk (fun w'=>by simp[binOp,Op.shift,Ec])) (Qk.mkInt _ _) hv
    · obtain⟨h0,hv⟩:=hv
      have Ec:¬m<0:=by omega
      exact Qx.mk hd ao h (rh ho ex ey kk (fun w'=>by simp[binOp,Op.shift,Ec])) (Qk.mkInt _ _) hv
    all_goals first
      |exact hv.elim
      | (obtain⟨rfl,h0,hv⟩:=hv
         exact Qx.mk hd ao h (rh ho ex ey kk (fun w'=>by simp[binOp,Op.intDiv,h0])) (Qk.mkInt _ _) hv)
      | (obtain⟨rfl,hv⟩:=hv
         exact Qx.mk hd ao h (rh ho ex ey kk (fun w'=>by simp[binOp,Op.intArith,Op.intBits])) (Qk.mkInt _ _) hv)
      | (obtain⟨rfl,hv⟩:=hv
         refine Qx.mk hd ao h (rh ho ex ey kk ?_) (Qk.xK _) hv;intro w';simp[binOp,Op.intCmp]<;>rfl)
  · rename_i n m
    have ex:=hx.Bk;have ey:=hy.Bk;have kk:∀w',(eqGuard op T x y (.bool n) (.bool m)).run C.P w'= .ok () w':=by intro w';unfold eqGuard;cases op<;>rfl
    split at hv
    · obtain⟨hb,hv⟩:=hv
      exact Qx.mk hd ao h (rh ho ex ey kk (Q0p (lG hb) n m)) (Qk.xK _) hv
    · obtain⟨hb,hv⟩:=hv
      exact Qx.mk hd ao h (rh ho ex ey kk (Q0q (lG hb) n m)) (Qk.xK _) hv
    · exact hv.elim
  · exact hv.elim
theorem Qk.aa7{e:Nat}{xs:List PV}{v:Value}(h:Qk C ρ hp w (.sl e xs) v):∃ad cap,v= .slice ad xs.length cap/\xs.length<=cap/\cap<=maxLen:=by
 cases h with
 |gC _ ad cap hc=>exact⟨ad,cap,rfl,Ka6 _,hc⟩
 |sl _ _ b off cap vs hX hb hl hc=>exact⟨_,cap,rfl,hl,hc⟩
theorem Qk.OA{O o n:Nat}{v:Value}(h:Qk C ρ hp w (.ax O o n) v):∃ad cap,v= .slice ad n cap:=by
 obtain⟨hb,_,_,⟨_,rfl,rfl,rfl⟩|⟨b,cap,_,rfl,_⟩⟩:=h
 ·exact⟨_,_,rfl⟩
 ·exact⟨_,_,rfl⟩
theorem Qk.awy{γ o n:Nat}{v:Value}(h:Qk C ρ hp w (.aL γ o n) v):∃ad cap,v= .slice ad n cap:=by obtain⟨_,hb,b,cap,_,_,rfl,_⟩:=h;exact⟨_,_,rfl⟩
theorem Qk.JO{γ i o:Nat}{v:Value}(h:Qk C ρ hp w (.np γ i o) v):bW γ=true/\∃b hb,ρ γ=some b/\hp γ=some hb/\v= .pointer (some ⟨b,i*hb.e+o,none⟩):=h
theorem Qk.ofS{p:PV}{v:Value}(h:cZ C ρ hp w p v):Qk C ρ hp w p v:=by
 cases p with
 |undef=>trivial
 |ax O o n=>exact h.2
 |aL γ o n=>exact h
 |_=>exact Qk.mZ (Q8.sN h)
theorem cZ.toC{p:PV}{v:Value}(h:cZ C ρ hp w p v)(hr:p.ql=false):Qn w (aI C ρ hp) p v:=by
 cases p with
 |undef=>cases hr
 |ax=>cases hr
 |aL=>cases hr
 |_=>exact h
theorem cZ.ofC{p:PV}{v:Value}(h:Qn w (aI C ρ hp) p v):cZ C ρ hp w p v:=by
 cases p with
 |ax=>cases h
 |aL=>cases h
 |undef=>trivial
 |_=>exact h
theorem cZ.uf{p:PV}{v:Value}(h:cZ C ρ hp w p v)(hu:p≠ .undef):v.oneCell'=true/\v.cells= #[v]:=by
 cases p with
 |undef=>exact absurd rfl hu
 |ax O o n=>obtain⟨_,hb,_,_,⟨_,rfl,_⟩|⟨b,cap,_,rfl,_⟩⟩:=h<;>exact⟨rfl,rfl⟩
 |aL γ o n=>obtain⟨_,hb,b,cap,_,_,rfl,_⟩:=h;exact⟨rfl,rfl⟩
 |_=>exact⟨(Qn.uf h).1,(Qn.uf h).2.1⟩
theorem Q3v(cs:List PV):(pz cs).bg=cs:=by unfold pz;split<;>rfl
theorem Q9j{cs:List PV}{vs:Array Value}(hs:vs.size=cs.length)(h:∀(i:Nat)(x:PV),cs[i]? =some x->cZ C ρ hp w x (vs.getD i undef)):Qk C ρ hp w (pz cs) (.agg vs):=by
 unfold pz;split
 ·exact⟨vs,rfl,hs,h⟩
 ·rename_i hn;refine⟨vs,rfl,hs,fun i x hi=>(h i x hi).toC ?_⟩;have hm:=Kai hi;cases hq:x.ql with
  |false=>rfl
  |true=>exact absurd (KaU.2 ⟨x,hm,hq⟩) hn
theorem L4{ag:Bool}{n off:Nat}{x:PV}{vs:Array Value}(hs:vs.size=n)(hle:off+n<=x.bg.length)(h1:ag=false->n=1)
  (hr:∀j y,j<n->x.bg[off+j]? =some y->cZ C ρ hp w y (vs.getD j undef)):Qk C ρ hp w (ue ag n off x) (if ag then .agg vs else vs.getD 0 undef):=by
 cases ag with
 | true=>
  refine Q9j (by simp[hs];omega) (fun i y hy=>?_);have hi:i<n:=by have:=(Kaf.1 hy).1;simp at this;omega
  rw[KaI hi,Ka4]at hy;exact hr i y hi hy
 | false=>
  have hn:=h1 rfl;subst hn;have ao:off<x.bg.length:=by omega
  have e:x.bg[off+0]? =some (x.bg[off]):=by simp[Kad ao]
  have:=hr 0 _ (by omega) e;simp only[ue,KaY,if_false];have e2:(x.bg.drop off).headD .undef=x.bg[off]:=by rw[KbM,Kcv,Kad ao];rfl
  rw[e2];exact Qk.ofS this
theorem GL{o:Oper}{b:Builtin}{args:Array Operand}{ts:Array TypeId}(ho:o.op= .call { callee:=.builtin b,args:=args,argTypes:=ts }){v:Value}
  (hr:∀w,(builtin b ts o.type (args.map fun| .const _=>true|_=>false) (args.map a.eval)).run C.P w= .ok (.value v) w):∀w,(execOp a.eval o).run C.P w= .ok (.value v) w:=by
 intro w;unfold execOp;simp only[ho,resolve,Kal,KaW,Kaj,invoke];exact hr w
theorem Q9k{o:Oper}{x:Operand}{t:TypeId}{px:PV}{d:Nat}(ho:o.op= .call { callee:=.builtin .len,args:= #[x],argTypes:= #[t] })(hd:o.dst=some d)(ao:d<C.N)(h:Qt C ρ fr hp a.tmps w)
  (hx:Qk C ρ hp w px (a.eval x)) {e:TypeId} (he:C.P.underlying t=some (.slice e)) (hv:qG px d fr hp K):Qx C ρ o a w K:=by
 have key:∀ad n cap,a.eval x= .slice ad n cap->K (ae fr d (.int .i64 n)) hp->Qx C ρ o a w K:=fun ad n cap ex hK=>
  Qx.mk hd ao h (GL ho (fun w'=>by simp[builtin,Builtin.len_,ex,Kal,Q9 he,goInt])) (Qk.mkInt _ _) hK
 unfold qG at hv;split at hv
 ·exact key _ _ _ hx.zL hv
 ·obtain⟨ad,cap,ex,_⟩:=hx.aa7;exact key _ _ _ ex hv
 ·obtain⟨ad,cap,ex⟩:=hx.OA;exact key _ _ _ ex hv
 ·obtain⟨ad,cap,ex⟩:=hx.awy;exact key _ _ _ ex hv
 ·exact hv.elim
theorem Qk.JZ{s:ByteArray}{v:Value}(h:Qk C ρ hp w (.str s) v):v= .string s:=by cases h;rfl
theorem Pf{P:Program}{t:TypeId}(h:AV P t=true):P.underlying t=some .string:=by
 unfold AV at h;split at h
 ·assumption
 ·cases h
theorem Q9l{o:Oper}{x:Operand}{t:TypeId}{px:PV}{d:Nat}(ho:o.op= .call { callee:=.builtin .len,args:= #[x],argTypes:= #[t] })(hd:o.dst=some d)(ao:d<C.N)(h:Qt C ρ fr hp a.tmps w)
  (hx:Qk C ρ hp w px (a.eval x)) (hs:AV C.P t=true) (hv:yx px d fr hp K):Qx C ρ o a w K:=by
 have hu:=Pf hs;unfold yx at hv;split at hv
 ·rename_i s;have ex:=hx.JZ;exact Qx.mk hd ao h (GL ho (fun w'=>by simp[builtin,Builtin.len_,ex,Kal,Q9 hu,goInt])) (Qk.mkInt _ _) hv
 ·exact hv.elim
theorem Q3w{P:Program}{T:TypeId}(hu:P.underlying T=some .string)(n m:ByteArray)(w:World):(binOp .eql T (.string n) (.string m)).run P w= .ok (.bool (n==m)) w:=by simp[binOp,Op.stringOp,beq_toListBytes]
theorem Q3x{P:Program}{T:TypeId}(hu:P.underlying T=some .string)(n m:ByteArray)(w:World):(binOp .neq T (.string n) (.string m)).run P w= .ok (.bool (!(n==m))) w:=by simp[binOp,Op.stringOp,bne,beq_toListBytes]
theorem VD(x y:ByteArray):(x==y)=decide (x=y):=by
 by_cases h:x=y
 ·subst h;rw[decide_eq_true rfl];show(x.data==x.data)=true;simp
 ·rw[decide_eq_false h];have h':x.data≠y.data:=fun e=>h (by cases x;cases y;simp_all);show(x.data==y.data)=false;simpa using h'
theorem Q9m{o:Oper}{op:BinOp}{ng:Bool}{T T2:TypeId}{x y:Operand}{px py:PV}{d:Nat}(ho:o.op= .binOp op T x y T2)(hop:Gv op=some ng)(hs:AV C.P T=true)(hd:o.dst=some d)(ao:d<C.N)(h:Qt C ρ fr hp a.tmps w)
  (hx:Qk C ρ hp w px (a.eval x)) (hy:Qk C ρ hp w py (a.eval y)) (hv:tC ng px py d fr hp K):Qx C ρ o a w K:=by
 have hu:=Pf hs;unfold tC at hv;split at hv
 ·rename_i n m;have ex:=hx.JZ;have ey:=hy.JZ;have kk:∀w',(eqGuard op T x y (.string n) (.string m)).run C.P w'= .ok () w':=by intro w';unfold eqGuard;cases op<;>rfl
  cases op<;>first|(cases hop;done)|skip
  ·cases hop;exact Qx.mk hd ao h (rh ho ex ey kk (Q3w hu n m)) (Qk.xK _) (by rw[VD];simpa using hv)
  ·cases hop;exact Qx.mk hd ao h (rh ho ex ey kk (Q3x hu n m)) (Qk.xK _) (by rw[VD];simpa using hv)
 ·exact hv.elim
theorem agj{o:Oper}{x y:Operand}{ts:Array TypeId}{px py:PV}{d:Nat}(ho:o.op= .call { callee:=.builtin .max,args:= #[x,y],argTypes:=ts })(hd:o.dst=some d)(ao:d<C.N)(h:Qt C ρ fr hp a.tmps w)
  (hx:Qk C ρ hp w px (a.eval x)) (hy:Qk C ρ hp w py (a.eval y)) (hv:zJ px py d fr hp K):Qx C ρ o a w K:=by
 unfold zJ at hv;split at hv
 ·rename_i k n k' m;have ex:=hx.lK;have ey:=hy.lK;refine Qx.mk hd ao h (GL ho (fun w'=>?_)) (Qk.mkInt _ _) hv;have e:(if m>n then m else n)=max n m:=by omega
  simp[builtin,Builtin.max_,ex,ey,Builtin.max2,e]
 ·exact hv.elim
theorem agk{o:Oper}{x y:Operand}{ts:Array TypeId}{px py:PV}{d:Nat}(ho:o.op= .call { callee:=.builtin .min,args:= #[x,y],argTypes:=ts })(hd:o.dst=some d)(ao:d<C.N)(h:Qt C ρ fr hp a.tmps w)
  (hx:Qk C ρ hp w px (a.eval x)) (hy:Qk C ρ hp w py (a.eval y)) (hv:zH px py d fr hp K):Qx C ρ o a w K:=by
 unfold zH at hv;split at hv
 ·rename_i k n k' m;have ex:=hx.lK;have ey:=hy.lK;refine Qx.mk hd ao h (GL ho (fun w'=>?_)) (Qk.mkInt _ _) hv;have e:(if m<n then m else n)=min n m:=by omega
  simp[builtin,Builtin.min_,ex,ey,Builtin.min2,e]
 ·exact hv.elim
theorem agl{o:Oper}{op:UnOp}{T:TypeId}{x:Operand}{px:PV}{d:Nat}(ho:o.op= .unOp op T x)(hd:o.dst=some d)(ao:d<C.N)(h:Qt C ρ fr hp a.tmps w)
  (hx:Qk C ρ hp w px (a.eval x)) (hv:xO op px d fr hp K):Qx C ρ o a w K:=by
 unfold xO at hv;split at hv
 ·have ex:=hx.Bk;refine Qx.mk hd ao h (fun w'=>?_) (Qk.xK _) hv;unfold execOp;simp only[ho,ex];rfl
 ·have ex:=hx.lK;refine Qx.mk hd ao h (fun w'=>?_) (Qk.mkInt _ _) hv;unfold execOp;simp only[ho,ex];rfl
 ·exact hv.elim
theorem Q6w{o:Oper}{S T:TypeId}{x:Operand}{px:PV}{d:Nat}{ds:TypeDesc}{k:IntKind}(ho:o.op= .convert S T x)(hd:o.dst=some d)(ao:d<C.N)(h:Qt C ρ fr hp a.tmps w)
  (hS:C.P.underlying S=some ds) (hT:C.P.underlying T=some (.int k)) (hx:Qk C ρ hp w px (a.eval x)) (hv:yp k px d fr hp K):Qx C ρ o a w K:=by
 unfold yp at hv;split at hv
 ·have ex:=hx.lK;refine Qx.mk hd ao h (fun w'=>?_) (Qk.mkInt _ _) hv;unfold execOp;simp only[ho,ex,Kal,convert,Q9 hS,Q9 hT,Kaj];rfl
 ·exact hv.elim
theorem Q9n{o:Oper}{i:Nat}{x:Operand}{px:PV}{d:Nat}(ho:o.op= .extract x i)(hd:o.dst=some d)(ao:d<C.N)(h:Qt C ρ fr hp a.tmps w)
  (hx:Qk C ρ hp w px (a.eval x)) (hv:ns px i d fr hp K):Qx C ρ o a w K:=by
 unfold ns at hv;split at hv
 ·rename_i ps;split at hv
  ·rename_i p cK;obtain⟨dR,hv⟩:=hv;obtain⟨vs,ex,h1,h2⟩:=hx;have hi:i<vs.size:=by rw[h1];exact(Kaf.1 cK).1
   have hr:=h2 i p cK;have hg:vs.getD i undef=vs[i]:=by simp[Array.getD,hi]
   rw[hg]at hr;refine Qx.mk hd ao h (fun w'=>?_) (Qk.mZ hr) hv;unfold execOp;simp only[ho,ex,Kal,Instr.extract,Kbj hi];rfl
  ·exact hv.elim
 ·rename_i ps;split at hv
  ·rename_i p cK;obtain⟨vs,ex,h1,h2⟩:=hx;have hi:i<vs.size:=by rw[h1];exact(Kaf.1 cK).1
   have hr:=h2 i p cK;have hg:vs.getD i undef=vs[i]:=by simp[Array.getD,hi]
   rw[hg]at hr;refine Qx.mk hd ao h (fun w'=>?_) (Qk.ofS hr) hv;unfold execOp;simp only[ho,ex,Kal,Instr.extract,Kbj hi];rfl
  ·exact hv.elim
 ·rename_i cs q;obtain⟨vs,u,ex,h1,h2,h3⟩:=hx;split at hv
  ·refine Qx.mk (p:=.aP cs) (v:=.agg vs) hd ao h (fun w'=>?_) ⟨vs,rfl,h1,h2⟩ hv;unfold execOp;simp only[ho,ex,Kal,Instr.extract];rfl
  ·refine Qx.mk (v:=u) hd ao h (fun w'=>?_) (Qk.mZ h3) hv;unfold execOp;simp only[ho,ex,Kal,Instr.extract];rfl
  ·exact hv.elim
 ·exact hv.elim
theorem Pg{o:Oper}{x:Operand}{px:PV}{d:Nat}(ho:o.op= .move x∨o.op= .assign x)(hd:o.dst=some d)(ao:d<C.N)(h:Qt C ρ fr hp a.tmps w)
  (hx:Qk C ρ hp w px (a.eval x)) (hv:K (ae fr d px) hp):Qx C ρ o a w K:=by
 refine Qx.mk hd ao h (fun w'=>?_) hx hv;rcases ho with ho|ho<;>(unfold execOp;simp only[ho];rfl)
theorem Q6x{o:Oper}{c x y:Operand}{pc px py:PV}{d:Nat}(ho:o.op= .pick c x y)(hd:o.dst=some d)(ao:d<C.N)(h:Qt C ρ fr hp a.tmps w)
  (hc:Qk C ρ hp w pc (a.eval c)) (hx:Qk C ρ hp w px (a.eval x)) (hy:Qk C ρ hp w py (a.eval y))
  (hv:uX pc px py d fr hp K):Qx C ρ o a w K:=by
 obtain⟨t,rfl,hv⟩:∃t,pc= .bool t/\((t=true->K (ae fr d px) hp)/\(t=false->K (ae fr d py) hp)):=by
  cases pc with
  |bool t=>exact⟨t,rfl,hv⟩
  |_=>exact hv.elim
 have ec:=hc.Bk;cases t with
 |true=>refine Qx.mk hd ao h (fun w'=>?_) hx (hv.1 rfl);unfold execOp;simp only[ho,ec];rfl
 |false=>refine Qx.mk hd ao h (fun w'=>?_) hy (hv.2 rfl);unfold execOp;simp only[ho,ec];rfl
theorem GH{P:Program}{T:TypeId}{k0:IntKind}(hu:P.underlying T=some (.int k0))(d:Nat)(k:IntKind)(n m:Int)(w:World):(Op.equalIn (d+1) T (.int k n) (.int k m)).run P w= .ok (n==m) w:=by unfold Op.equalIn;rw[Kal,Q9 hu,Kaj];simp
theorem CE{P:Program}{t:TypeId}{cs:Array Value}{off:Nat}{v:Value}(ha:nr P t=some false)(hv:cs[off]? =some v)(w:World):(part t cs off).run P w= .ok v w:=by unfold part;rw[Kal,CD ha,Kaj];simp[hv]
theorem Q0t {P : Program} {T : TypeId} {f g : Field} (hu : P.underlying T = some (.struct #[f, g])) (h1 : f.name ≠ "_") (h2 : g.name ≠ "_") (o1 : f.offset = 0) (o2 : g.offset = 1) {k1 k2 : IntKind} (t1 : P.underlying f.type = some (.int k1)) (t2 : P.underlying g.type = some (.int k2))
  (hs:P.stoodInHeld T=false) (k l:IntKind) (x y x' y':Int) (w:World):(Op.equal T (.agg #[.int k x,.int l y]) (.agg #[.int k x',.int l y'])).run P w= .ok (x==x'&&y==y') w:=by
 have a1:nr P f.type=some false:=by simp[nr,t1]
 have a2:nr P g.type=some false:=by simp[nr,t2]
 show(Op.equalIn (9998+1+1) T _ _).run P w=_;rw[Op.equalIn];rw[Kal,Q9 hu,Kaj];have hp:Sem.run P program w= .ok P w:=rfl;rw[Kal,hp,Kaj,hs];simp only[KaY,if_false];rw[<-Array.forIn_toList];simp only[List.forIn_cons,List.forIn_nil,Kal,o1,o2,h1,h2,ne_eq,not_false_eq_true,if_true,CE a1 (show(#[Value.int k x,Value.int l y])[0]? =some _ from rfl),CE a1 (show(#[Value.int k x',Value.int l y'])[0]? =some _ from rfl),
  CE a2 (show(#[Value.int k x,Value.int l y])[1]? =some _ from rfl),CE a2 (show(#[Value.int k x',Value.int l y'])[1]? =some _ from rfl),GH t1,GH t2,Kaj]
 have q1:∀n m w,(Op.equalIn 9999 f.type (.int k n) (.int k m)).run P w= .ok (n==m) w:=fun n m w=>GH t1 9998 k n m w;have q2:∀n m w,(Op.equalIn 9999 g.type (.int l n) (.int l m)).run P w= .ok (n==m) w:=fun n m w=>GH t2 9998 l n m w;have p2:∀u v w,(part g.type #[u,v] 1).run P w= .ok v w:=fun u v w=>CE a2 (show(#[u,v])[1]? =some _ from rfl) w;by_cases e1:x=x'<;>by_cases e2:y=y'<;>simp[e1,e2,q1,q2,p2]
theorem agm{P:Program}{T:TypeId}{b:Bool}{X Y:Array Value}(h:∀w,(Op.equal T (.agg X) (.agg Y)).run P w= .ok b w)(w:World):(binOp .eql T (.agg X) (.agg Y)).run P w= .ok (.bool b) w:=by show(do pure (Value.bool (<-Op.equal T (.agg X) (.agg Y))):Sem Value).run P w=_;rw[Kal,h,Kaj];rfl
theorem agn{P:Program}{T:TypeId}{b:Bool}{X Y:Array Value}(h:∀w,(Op.equal T (.agg X) (.agg Y)).run P w= .ok b w)(w:World):(binOp .neq T (.agg X) (.agg Y)).run P w= .ok (.bool !b) w:=by show(do pure (Value.bool (!(<-Op.equal T (.agg X) (.agg Y)))):Sem Value).run P w=_;rw[Kal,h,Kaj];rfl
theorem UF {P : Program} {T:TypeId} {op:BinOp} {x y:Operand} {X Y:Array Value} (h:P.eqGuardType P.depth T=false) (w:World):(eqGuard op T x y (.agg X) (.agg Y)).run P w= .ok () w:=by
  have hp:Sem.run P program w= .ok P w:=rfl
  have hg : (do if !(<-program).eqGuardType (<-program).depth T then return
                if <- Op.eqGuardIn Op.maxDepth T (.agg X) (.agg Y) then unsupported (.noEntry "binop/eql: two nil values of an interface type with methods, in a part of a struct or an array") : Sem Unit).run P w = .ok () w := by
    rw[Kal,hp,Kaj,Kal,hp,Kaj,h];rfl
  cases op<;>first|rfl|exact hg
theorem amb {P : Program} {T : TypeId} (h : JY P T = true) : ∃ f g k1 k2, P.underlying T = some (.struct #[f, g]) /\ f.name ≠ "_" /\ g.name ≠ "_" /\ f.offset = 0 /\ g.offset = 1 /\ P.underlying f.type = some (.int k1) /\ P.underlying g.type = some (.int k2) /\ P.stoodInHeld T = false /\ P.eqGuardType P.depth T = false := by
 unfold JY at h;split at h
 ·rename_i fs hu;split at h
  ·rename_i f g pY;simp only[Ka2,bne_iff_ne,ne_eq,beq_iff_eq,Bool.not_eq_true']at h;obtain⟨⟨⟨⟨⟨⟨⟨h1,h2⟩,h3⟩,h4⟩,h5⟩,h6⟩,h7⟩,h8⟩:=h;have:fs= #[f,g]:=by rw[<-Array.toArray_toList (xs:=fs),pY]
   subst this;cases u1:P.underlying f.type with
   |none=>rw[u1]at h5;cases h5
   | some t1=>cases u2:P.underlying g.type with
    |none=>rw[u2]at h6;cases h6
    |some t2=>
     rw[u1]at h5;rw[u2]at h6;cases t1<;>first|(cases h5;done)|skip
     cases t2<;>first|(cases h6;done)|skip
     exact⟨f,g,_,_,hu,h1,h2,h3,h4,u1,u2,h7,h8⟩
  ·cases h
 ·cases h
theorem Ph{cs:List PV}{v:Value}{p q:PV}(l9:cs=[p,q])(h:Qk C ρ hp w (.agg cs) v):∃x y,v= .agg #[x,y]/\Qn w (aI C ρ hp) p x/\Qn w (aI C ρ hp) q y:=by
 subst l9;obtain⟨vs,rfl,h1,h2⟩:=h;have hs:vs.size=2:=h1;refine⟨vs.getD 0 undef,vs.getD 1 undef,?_,h2 0 p rfl,h2 1 q rfl⟩;congr 1;apply Array.ext
 ·simp[hs]
 ·intro i hi aE;have:i=0∨i=1:=by simp at aE;omega
  rcases this with rfl|rfl<;>simp[Array.getD,hs]
theorem Q9o{o:Oper}{op:BinOp}{ng:Bool}{T T2:TypeId}{x y:Operand}{px py:PV}{d:Nat}(ho:o.op= .binOp op T x y T2)(hop:Gv op=some ng)(dF:JY C.P T=true)(hd:o.dst=some d)(ao:d<C.N)(h:Qt C ρ fr hp a.tmps w)
  (hx:Qk C ρ hp w px (a.eval x)) (hy:Qk C ρ hp w py (a.eval y)) (hv:tB ng px py d fr hp K):Qx C ρ o a w K:=by
 obtain⟨f,g,k1,k2,hu,h1,h2,h3,h4,u1,u2,h7,h8⟩:=amb dF;unfold tB at hv;split at hv
 ·rename_i k n l m k' n' l' m';obtain⟨rfl,rfl,hv⟩:=hv;obtain⟨a1,b1,ex,r1,r2⟩:=Ph rfl hx;obtain⟨a2,b2,ey,r3,r4⟩:=Ph rfl hy;cases r1;cases r2;cases r3;cases r4;have heq:∀w,(Op.equal T (.agg #[.int k n,.int l m]) (.agg #[.int k n',.int l m'])).run C.P w= .ok (n==n'&&m==m') w:=fun w=>Q0t hu h1 h2 h3 h4 u1 u2 h7 k l n m n' m' w;have e:(n==n'&&m==m')=(decide (n=n')&&decide (m=m')):=rfl;rw[e]at heq;cases op<;>first|(cases hop;done)|skip
  ·cases hop;exact Qx.mk hd ao h (rh ho ex ey (UF h8) (agm heq)) (Qk.xK _) (by simpa using hv)
  ·cases hop;exact Qx.mk hd ao h (rh ho ex ey (UF h8) (agn heq)) (Qk.xK _) (by simpa using hv)
 ·exact hv.elim
end Go.FW
namespace Go.FW
open Go
variable {C : Ctx} {ρ : Nat -> Option Nat} {fr : Fr} {hp : HP} {w : World} {a : Act} {K : Qg}
theorem Q3y{l:List PV}{n:Nat}(h:n<l.length):l[n]? =some (l[n]'h):=Kad h
theorem KH{P:Program}{t e:TypeId}{n:Nat}{ad:Addr}{len cap:Nat}{k:IntKind}{i:Int}(hu:P.underlying t=some (.slice e))(hn:eV P e=some n)(h0:0<=i)(h1:i<len)(w:World):
  (Instr.indexAt t (.slice (some ad) len cap) (.int k i)).run P w= .ok (.pointer (some (ad.add (i.toNat*n)))) w:=by
 have h2:0<=i/\i<len:=⟨h0,h1⟩
 unfold Instr.indexAt;simp only[asIntOf,Kal,KaW,Kaj,Q9 hu,if_pos h2,mz hn]
theorem Tv{P:Program}{t e:TypeId}{n len:Nat}{ad:Addr}{k:IntKind}{i:Int}(hu:P.underlying t=some (.array len e))(hn:eV P e=some n)(h0:0<=i)(h1:i<len)(w:World):
  (Instr.indexAt t (.pointer (some ad)) (.int k i)).run P w= .ok (.pointer (some (ad.add (i.toNat*n)))) w:=by
 have h2:0<=i/\i<len:=⟨h0,h1⟩
 unfold Instr.indexAt;simp only[asIntOf,Kal,KaW,Kaj,Q9 hu,Instr.sureAddr,if_pos h2,mz hn]
theorem Qk.BY{O i o:Nat}{v:Value}(h:Qk C ρ hp w (.mp O i o) v):∃b hb,ρ O=some b/\hp O=some hb/\v= .pointer (some ⟨b,i*hb.e+o,none⟩):=h
theorem Qk.Oy{O i o b:Nat}{hb:HB}(h1:ρ O=some b)(h2:hp O=some hb):Qk C ρ hp w (.mp O i o) (.pointer (some ⟨b,i*hb.e+o,none⟩)):=⟨b,hb,h1,h2,rfl⟩
theorem Q9p{o:Oper}{t e:TypeId}{n:Nat}{x i:Operand}{px pi:PV}{d:Nat}(ho:o.op= .indexAddr t x i)(hd:o.dst=some d)(ao:d<C.N)(h:Qt C ρ fr hp a.tmps w)
  (hu:C.P.underlying t=some (.slice e)) (hn:eV C.P e=some n) (hx:Qk C ρ hp w px (a.eval x)) (hi:Qk C ρ hp w pi (a.eval i)) (hv:dt n px pi d fr hp K):Qx C ρ o a w K:=by
 unfold dt at hv;split at hv
 ·rename_i e' xs k m;obtain⟨rfl,h0,h1,hK⟩:=hv;have ei:=hi.lK;have hlen:m<xs.length:=by omega
  generalize ev:a.eval x=vx at hx;cases hx with
  |gC=>simp at h1
  |sl _ _ b off cap vs hX hb hl hc he qj hr=>
   have oU:=Q3y h1;have cF:=he _ _ oU;refine Qx.mk hd ao h (v:=.pointer (some ⟨b,off+m.toNat*n,none⟩)) (fun w'=>?_) ?_ hK
   ·unfold execOp;simp only[ho,ei,ev,Kal,KH hu hn h0 hlen,Kaj,KbQ];rfl
   ·exact Qn.pt _ b _ (vs m.toNat) hX hb (fun j hj=>qj m.toNat h1 j (by omega)) (fun j y hy=>hr m.toNat _ oU j y hy)
 ·rename_i O o' m k n';obtain⟨h0,h1,h2,hK⟩:=hv;have ei:=hi.lK;obtain⟨hb,g1,g2,⟨g3,_,g5,_⟩|⟨b,cap,g3,g4,g5,g6⟩⟩:=hx
  ·omega
  ·rw[g1]at h2;simp only[KbT,KaD]at h2;subst h2;have hm:n'<m:=by omega
   refine Qx.mk hd ao h (fun w'=>?_) (Qk.Oy g3 g1) hK;unfold execOp;simp only[ho,ei,g4,Kal,KH hu hn h0 hm,Kaj,KbQ,KaP,KaM];rfl
 ·rename_i γ o' m k n';obtain⟨h0,h1,h2,hK⟩:=hv;have ei:=hi.lK;obtain⟨hB,hb,b,cap,g1,g3,g4,g5,g6,g7⟩:=hx;rw[g1]at h2;simp only[KbT,KaD]at h2;subst h2;have hm:n'<m:=by omega
  refine Qx.mk hd ao h (p:=.np γ (o'+n'.toNat) 0) (fun w'=>?_) (show dp C ρ hp w (.np γ (o'+n'.toNat) 0) _ from⟨hB,b,hb,g3,g1,rfl⟩) hK;unfold execOp;simp only[ho,ei,g4,Kal,KH hu hn h0 hm,Kaj,KbQ,KaP,KaM];rfl
 ·exact hv.elim
theorem Qn.aaX{X:Nat->Prop}{cs:List PV}{b off k:Nat}(h:Qn w X (.pt cs) (.pointer (some ⟨b,off,none⟩))):Qn w X (.pt (cs.drop k)) (.pointer (some ⟨b,off+k,none⟩)):=by
 cases h with
 |pt _ _ _ vs hX hb hv hr=>
  refine Qn.pt _ b _ (fun j=>vs (k+j)) hX hb (fun j hj=>?_) (fun j y hy=>?_)
  ·have:=hv (k+j) (by simp at hj;omega);rwa[<-Nat.add_assoc]at this
  ·rw[Ka4]at hy;exact hr _ _ hy
theorem Qk.JS{cs:List PV}{v:Value}(h:Qk C ρ hp w (.pt cs) v):∃b off,v= .pointer (some ⟨b,off,none⟩)/\Qn w (aI C ρ hp) (.pt cs) (.pointer (some ⟨b,off,none⟩)):=by
 have h':Qn w (aI C ρ hp) (.pt cs) v:=h;cases h' with
 |pt _ b off vs hX hb hv hr=>exact⟨b,off,rfl,.pt _ b off vs hX hb hv hr⟩
theorem Q6y{o:Oper}{t e:TypeId}{n len:Nat}{x i:Operand}{px pi:PV}{d:Nat}(ho:o.op= .indexAddr t x i)(hd:o.dst=some d)(ao:d<C.N)(h:Qt C ρ fr hp a.tmps w)
  (hu:C.P.underlying t=some (.array len e)) (hn:eV C.P e=some n) (hx:Qk C ρ hp w px (a.eval x)) (hi:Qk C ρ hp w pi (a.eval i)) (hv:mD len n px pi d fr hp K):Qx C ρ o a w K:=by
 unfold mD at hv;split at hv
 ·rename_i O j o' k m;obtain⟨h0,h1,hK⟩:=hv;have ei:=hi.lK;obtain⟨b,hb,g1,g2,g3⟩:=hx.BY;refine Qx.mk hd ao h (fun w'=>?_) (Qk.Oy g1 g2) hK;unfold execOp;simp only[ho,ei,g3,Kal,Tv hu hn h0 h1,Kaj,KbQ,KbW];rfl
 ·rename_i cs k m;obtain⟨h0,h1,h2,hK⟩:=hv;have ei:=hi.lK;obtain⟨b,off,ex,hp'⟩:=hx.JS;refine Qx.mk hd ao h (p:=.pt (cs.drop (m.toNat*n))) (v:=.pointer (some ⟨b,off+m.toNat*n,none⟩)) (fun w'=>?_) hp'.aaX hK;unfold execOp;simp only[ho,ei,ex,Kal,Tv hu hn h0 h1,Kaj,KbQ];rfl
 ·exact hv.elim
theorem KO{P:Program}{t:TypeId}{fs:Array Field}{j:Nat}{f:Field}{n b off:Nat}(hu:P.underlying t=some (.struct fs))(hf:fs[j]? =some f)(hn:eV P f.type=some n)(h0:n≠0)(w:World):
  (Instr.fieldAt t (.pointer (some ⟨b,off,none⟩)) j).run P w= .ok (.pointer (some ⟨b,off+f.offset,none⟩)) w:=by
 unfold Instr.fieldAt;simp only[Kal,Q9 hu,Kaj,hf,Instr.sureAddr,KaW,fieldPlace,mz hn,if_neg h0,KbQ]
theorem Q9q{o:Oper}{t:TypeId}{fs:Array Field}{j n:Nat}{f:Field}{x:Operand}{px:PV}{d:Nat}(ho:o.op= .fieldAddr t x j)(hd:o.dst=some d)(ao:d<C.N)(h:Qt C ρ fr hp a.tmps w)
  (hu:C.P.underlying t=some (.struct fs)) (hf:fs[j]? =some f) (hn:eV C.P f.type=some n) (jk:n≠0) (hx:Qk C ρ hp w px (a.eval x)) (hv:tD f.offset px d fr hp K):Qx C ρ o a w K:=by
 unfold tD at hv;split at hv
 ·rename_i O i o';obtain⟨b,hb,g1,g2,g3⟩:=hx.BY;refine Qx.mk hd ao h (fun w'=>?_) (Qk.Oy g1 g2) hv;unfold execOp;simp only[ho,g3,Kal,KO hu hf hn jk,Kaj,KbW];rfl
 ·rename_i γ i o';obtain⟨hB,b,hb,g1,g2,g3⟩:=hx.JO;refine Qx.mk hd ao h (p:=.np γ i (o'+f.offset)) (fun w'=>?_) (show dp C ρ hp w (.np γ i (o'+f.offset)) _ from⟨hB,b,hb,g1,g2,rfl⟩) hv;unfold execOp;simp only[ho,g3,Kal,KO hu hf hn jk,Kaj,KbW];rfl
 ·rename_i cs;obtain⟨_,hK⟩:=hv;obtain⟨b,off,ex,hp'⟩:=hx.JS;refine Qx.mk hd ao h (p:=.pt (cs.drop f.offset)) (v:=.pointer (some ⟨b,off+f.offset,none⟩)) (fun w'=>?_) hp'.aaX hK;unfold execOp;simp only[ho,ex,Kal,KO hu hf hn jk,Kaj];rfl
 ·exact hv.elim
theorem zY(vs:Array Value)(off n j:Nat)(hj:j<n)(h:off+n<=vs.size):(vs.extract off (off+n)).getD j undef=vs.getD (off+j) undef:=by
 have h1:j<(vs.extract off (off+n)).size:=by simp;omega
 have h2:off+j<vs.size:=by omega
 simp only[KaL,Kbj h1,Kbj h2,Array.getElem_extract]
theorem C5{X:Nat->Prop}{ag:Bool}{n off:Nat}{x:PV}{vs:Array Value}(hs:vs.size=n)(hle:off+n<=x.cells.length)(h1:ag=false->n=1)
  (hr:∀j y,j<n->x.cells[off+j]? =some y->Qn w X y (vs.getD j undef)):Q8 w X (eZ ag n off x) (if ag then .agg vs else vs.getD 0 undef):=by
 cases ag with
 | true=>
  refine⟨vs,rfl,by simp[hs];omega,fun i y hy=>?_⟩;have hi:i<n:=by have:=(Kaf.1 hy).1;simp at this;omega
  rw[KaI hi,Ka4]at hy;exact hr i y hi hy
 | false=>
  have hn:=h1 rfl;subst hn;have ao:off<x.cells.length:=by omega
  have e:x.cells[off+0]? =some (x.cells[off]):=by simp[Kad ao]
  have:=hr 0 _ (by omega) e;simp only[eZ,KaY,if_false];have e2:(x.cells.drop off).headD .undef=x.cells[off]:=by rw[KbM,Kcv,Kad ao];rfl
  rw[e2];exact Q8.sN this
theorem Q6z{o:Oper}{t:TypeId}{fs:Array Field}{j n:Nat}{ag:Bool}{f:Field}{x:Operand}{px:PV}{d:Nat}(ho:o.op= .field t x j)(hd:o.dst=some d)(ao:d<C.N)(h:Qt C ρ fr hp a.tmps w)
  (hu:C.P.underlying t=some (.struct fs)) (hf:fs[j]? =some f) (hn:eV C.P f.type=some n) (kj:nr C.P f.type=some ag) (hx:Qk C ρ hp w px (a.eval x)) (hv:tq f.offset n ag px d fr hp K):Qx C ρ o a w K:=by
 unfold tq at hv;split at hv
 ·rename_i cs;obtain⟨h1,h2,hK⟩:=hv;obtain⟨vs,ex,g1,g2⟩:=hx;have hle:f.offset+n<=vs.size:=by omega
  have gA:=C5 (X:=aI C ρ hp) (w:=w) (ag:=ag) (off:=f.offset) (x:=.agg cs) (vs:=vs.extract f.offset (f.offset+n)) (by simp;omega) h1 h2
   (fun j y hj hy=>by rw[zY vs _ _ _ hj hle];exact g2 _ y hy)
  refine Qx.mk hd ao h (fun w'=>?_) (Qk.mZ gA) hK;unfold execOp;simp only[ho,ex,Kal,Instr.field,Q9 hu,Kaj,hf,asAgg,KaW,part,CD kj];cases ag with
  |true=>simp only[if_true,Kal,mz hn,Kaj,KaW]
  |false=>
   have zf:=h2 rfl;subst zf;have mR:f.offset<vs.size:=by omega
   simp only[KaY,if_false,Kbj mR,KaW,Kaj];rw[zY vs _ _ 0 (by omega) hle];simp[Array.getD,mR]
 ·rename_i cs;obtain⟨h1,h2,hK⟩:=hv;obtain⟨vs,ex,g1,g2⟩:=hx;have hle:f.offset+n<=vs.size:=by omega
  have gA:=L4 (C:=C) (ρ:=ρ) (hp:=hp) (w:=w) (ag:=ag) (off:=f.offset) (x:=.aP cs) (vs:=vs.extract f.offset (f.offset+n)) (by simp;omega) h1 h2
   (fun j y hj hy=>by rw[zY vs _ _ _ hj hle];exact g2 _ y hy)
  refine Qx.mk hd ao h (fun w'=>?_) gA hK;unfold execOp;simp only[ho,ex,Kal,Instr.field,Q9 hu,Kaj,hf,asAgg,KaW,part,CD kj];cases ag with
  |true=>simp only[if_true,Kal,mz hn,Kaj,KaW]
  |false=>
   have zf:=h2 rfl;subst zf;have mR:f.offset<vs.size:=by omega
   simp only[KaY,if_false,Kbj mR,KaW,Kaj];rw[zY vs _ _ 0 (by omega) hle];simp[Array.getD,mR]
 ·exact hv.elim
theorem Q9r{o:Oper}{t:TypeId}{x i:Operand}{px pi:PV}{d:Nat}(ho:o.op= .index t x i)(hd:o.dst=some d)(ao:d<C.N)(h:Qt C ρ fr hp a.tmps w)
  (hu:C.P.underlying t=some .string) (hx:Qk C ρ hp w px (a.eval x)) (hi:Qk C ρ hp w pi (a.eval i)) (hv:wH px pi d fr hp K):Qx C ρ o a w K:=by
 unfold wH at hv;split at hv
 ·rename_i s k m;obtain⟨h0,h1,hK⟩:=hv;have ei:=hi.lK;have ex:=hx.JZ;have mR:m.toNat<s.size:=by omega
  have e0:s.get! m.toNat=s[m.toNat]'mR:=by simp[ByteArray.get!,getElem!_pos,mR];rfl
  have e1:(if 0<=m then s[m.toNat]? else none)=some (s.get! m.toNat):=by rw[if_pos h0,getElem?_pos s m.toNat mR,e0]
  refine Qx.mk hd ao h (fun w'=>?_) (Qk.mkInt _ _) hK;unfold execOp;simp only[ho,ex,ei,Kal,Instr.index,asIntOf,Q9 hu,Kaj,KaW,e1]
 ·exact hv.elim
theorem Q9s{o:Oper}{t e:TypeId}{len n:Nat}{ag:Bool}{x i:Operand}{px pi:PV}{d:Nat}(ho:o.op= .index t x i)(hd:o.dst=some d)(ao:d<C.N)(h:Qt C ρ fr hp a.tmps w)
  (hu:C.P.underlying t=some (.array len e)) (hn:eV C.P e=some n) (kj:nr C.P e=some ag) (hx:Qk C ρ hp w px (a.eval x)) (hi:Qk C ρ hp w pi (a.eval i)) (hv:AQ len n ag px pi d fr hp K):Qx C ρ o a w K:=by
 unfold AQ at hv;split at hv
 ·rename_i cs k m;obtain⟨h0,h00,h1,h2,hK⟩:=hv;have ei:=hi.lK;obtain⟨vs,ex,g1,g2⟩:=hx;have hle:m.toNat*n+n<=vs.size:=by omega
  have ED:0<=m/\m<len:=⟨h0,h00⟩
  have gA:=C5 (X:=aI C ρ hp) (w:=w) (ag:=ag) (off:=m.toNat*n) (x:=.agg cs) (vs:=vs.extract (m.toNat*n) (m.toNat*n+n)) (by simp;omega) h1 h2
   (fun j y hj hy=>by rw[zY vs _ _ _ hj hle];exact g2 _ y hy)
  refine Qx.mk hd ao h (fun w'=>?_) (Qk.mZ gA) hK;unfold execOp;simp only[ho,ex,ei,Kal,Instr.index,asIntOf,Q9 hu,Kaj,KaW,if_pos ED,mz hn,part,CD kj];cases ag with
  |true=>simp only[if_true,Kal,mz hn,Kaj,KaW]
  |false=>
   have zf:=h2 rfl;subst zf;have mR:m.toNat*1<vs.size:=by omega
   simp only[KaY,if_false,Kbj mR,KaW,Kaj];rw[zY vs _ _ 0 (by omega) hle];have za:m.toNat<vs.size:=by omega
   simp[Array.getD,za]
 ·exact hv.elim
end Go.FW
namespace Go.FW
open Go
variable {C : Ctx} {ρ : Nat -> Option Nat} {fr : Fr} {hp : HP} {w : World} {a : Act} {K : Qg}
def Dp(C:Ctx)(ρ:Nat->Option Nat)(o:Oper)(a:Act)(w:World)(K:Qg):Prop:=
 ∃v b,b<w.heap.size/\(∀w',w'.heap[b]? =w.heap[b]? ->(execOp a.eval o).run C.P w'= .ok (.value v) w')/\∃aC hp',Qt C ρ aC hp' (a.put o.dst v).tmps w/\K aC hp'
theorem Co{P:Program}{t:TypeId}{n b off:Nat}{ag:Bool}{vs:Array Value}(hn:eV P t=some n)(kj:nr P t=some ag)(h1:ag=false->n=1)(hs:vs.size=n)
  (w:World) (hc:∀j,j<n->w.cell? ⟨b,off+j,none⟩=some (vs.getD j undef)):
  (loadVar t ⟨b,off,none⟩).run P w= .ok (if ag then .agg vs else vs.getD 0 undef) w:=by
 unfold loadVar;simp only[Kal,CD kj,Kaj];cases ag with
 | true=>
  have hl:=run_loadCells_list (P:=P) w ⟨b,off,none⟩ vs.toList (fun j v hj=>by
   have aT:j<vs.size:=by simpa using(Kaf.1 hj).1
   rw[KbQ,hc j (by omega),GX vs j v hj])
  simp only[Kcm,hs]at hl;simp only[if_true,Kal,mz hn,Kaj,hl,KaW]
 |false=>have zf:=h1 rfl;subst zf;have h0:=hc 0 (by omega);simp only[KaP]at h0;simp only[KaY,if_false,run_load,h0]
theorem oc{i e o j n cap:Nat}(h1:i<cap)(h2:o+n<=e)(h3:j<n):i*e+o+j<cap*e:=by have:(i+1)*e<=cap*e:=Kam e h1;rw[KaM,KcE]at this;omega
theorem mr{w:World}{b o:Nat}{cur:Array Value}{ty:TypeId}(h:w.heap[b]? =some (.cells cur ty (0,0)))(ho:o<cur.size):w.cell? ⟨b,o,none⟩=some (cur.getD o undef):=by simp[World.cell?,h,ho,Array.getD]
theorem s7{n:Nat}{f:Nat->Value}{j:Nat}(hj:j<n):(Array.ofFn (n:=n) fun i=>f i.val).getD j undef=f j:=by simp[Array.getD,hj]
theorem ago{o:Oper}{t:TypeId}{n:Nat}{ag:Bool}{x:Operand}{px:PV}{d:Nat}(ho:o.op= .load t x)(hd:o.dst=some d)(ao:d<C.N)(h:Qt C ρ fr hp a.tmps w)
  (hn:eV C.P t=some n) (kj:nr C.P t=some ag) (hx:Qk C ρ hp w px (a.eval x)) (hv:iQ n ag px d fr hp K):Dp C ρ o a w K:=by
 have fin:∀(b off:Nat)(vs:Array Value)(p:PV),a.eval x= .pointer (some ⟨b,off,none⟩)->(ag=false->n=1)->b<w.heap.size->vs.size=n->
   (∀j,j<n->w.cell? ⟨b,off+j,none⟩=some (vs.getD j undef))->Q8 w (aI C ρ hp) p (if ag then .agg vs else vs.getD 0 undef)->K (ae fr d p) hp->Dp C ρ o a w K:=by
  intro b off vs p ex h1 hb hs hc hr hK;refine⟨_,b,hb,fun w' uc=>?_,ae fr d p,hp,by rw[hd];exact h.ae (Qk.mZ hr) ao,hK⟩;have:=Co (P:=C.P) hn kj h1 hs w' (fun j hj=>by rw[xU uc];exact hc j hj);unfold execOp;simp only[ho,ex,Kal,Instr.loadAt,Instr.sureAddr,KaW,Kaj,this]
 unfold iQ at hv;split at hv
 ·rename_i O i o';split at hv
  ·rename_i hb aj;obtain⟨h1,h2,h3,hK⟩:=hv;obtain⟨b,cN,g1,g2,g3⟩:=hx.BY;rw[aj]at g2;cases g2;have aS:=h.own O hb aj;have bc:=aS.bV;rw[g1]at bc;obtain⟨_,mR,cur,cap,c1,c2,c3,c4,c5⟩:=bc;have gm:=Kad h1;have cF:=(aS.len i _ gm).1;have dQ:i<cap:=by omega
   have kS:∀j,j<n->i*hb.e+o'+j<cur.size:=fun j hj=>by rw[c2];exact oc dQ h2 hj
   refine fin b (i*hb.e+o') (Array.ofFn (n:=n) fun j=>cur.getD (i*hb.e+o'+j.val) undef) _ g3 h3 mR (by simp) (fun j hj=>?_) ?_ hK
   ·rw[s7 (f:=fun j=>cur.getD (i*hb.e+o'+j) undef) hj];exact mr c1 (kS j hj)
   ·refine C5 (by simp) (by rw[cF];exact h2) h3 (fun j y hj hy=>?_);rw[s7 (f:=fun j=>cur.getD (i*hb.e+o'+j) undef) hj,KbW];exact c5 i _ gm (o'+j) y hy
  ·exact hv.elim
 ·rename_i cs;obtain⟨h1,h3,hK⟩:=hv;obtain⟨b,off,ex,hpt⟩:=hx.JS;cases hpt with
  | pt _ _ _ vs hX hb Jc hr=>
   refine fin b off (Array.ofFn (n:=n) fun j=>vs j.val) _ ex h3 hb (by simp) (fun j hj=>?_) ?_ hK
   ·rw[s7 hj];exact Jc j (by omega)
   ·refine C5 (by simp) (by simpa[PV.cells]using h1) h3 (fun j y hj hy=>?_);rw[s7 hj];exact hr j y (by simpa[PV.cells]using hy)
 ·rename_i O o' m;obtain⟨rfl,rfl,hK⟩:=hv;obtain⟨b,u,e1,e2,e3,e4,e5⟩:=hx;refine⟨_,b,e2,fun w' uc=>?_,ae fr d (.ax O o' m),hp,by rw[hd];exact h.ae (p:=.ax O o' m) (v:=u) e5 ao,hK⟩;have:=Co (P:=C.P) (t:=t) (b:=b) (off:=0) (vs:= #[u]) hn kj (fun _=>rfl) rfl w' (fun j hj=>by
   obtain rfl:j=0:=by omega
   rw[xU uc];simpa using e4)
  unfold execOp;simp only[ho,e1,Kal,Instr.loadAt,Instr.sureAddr,KaW,Kaj,this];rfl
 ·rename_i γ i o';split at hv
  ·rename_i bj e ty xs ah;obtain⟨rfl,h1,h2,h3,hK⟩:=hv;obtain⟨hB,b,hb,g1,g2,g3⟩:=hx.JO;have bo:=h.dm bj;rw[ah]at bo;obtain⟨_,y5,b',au,cur,cap,q1,q2,q3,q4,q5,q6,q7,q8,q9,zN,vV⟩:=bo;rw[g1]at q1;cases q1;rw[g2]at q2;cases q2;rw[q4]at g3;have mR:b<w.heap.size:=(Kan.1 q6).1;have gm:=Kad h1;have cF:=zN i _ gm;have dQ:i<cap:=by omega
   have kS:∀j,j<n->i*e+o'+j<cur.size:=fun j hj=>by rw[q7];exact oc dQ h2 hj
   have me:∀j,j<n->w.cell? ⟨b,i*e+o'+j,none⟩=some ((Array.ofFn (n:=n) fun j=>cur.getD (i*e+o'+j.val) undef).getD j undef):=fun j hj=>by rw[s7 (f:=fun j=>cur.getD (i*e+o'+j) undef) hj];exact mr q6 (kS j hj)
   have gA:=L4 (C:=C) (ρ:=ρ) (hp:=hp) (w:=w) (ag:=ag) (n:=n) (off:=o') (x:=xs[i]) (vs:=Array.ofFn (n:=n) fun j=>cur.getD (i*e+o'+j.val) undef) (by simp) (by rw[cF];exact h2) h3 (fun j y hj hy=>by rw[s7 (f:=fun j=>cur.getD (i*e+o'+j) undef) hj,KbW];exact vV i _ gm (o'+j) y hy);refine⟨_,b,mR,fun w' uc=>?_,ae fr d _,hp,by rw[hd];exact h.ae gA ao,hK⟩;have:=Co (P:=C.P) (b:=b) (off:=i*e+o') (vs:=Array.ofFn (n:=n) fun j=>cur.getD (i*e+o'+j.val) undef) hn kj h3 (by simp) w' (fun j hj=>by rw[xU uc];exact me j hj);unfold execOp;simp only[ho,g3,Kal,Instr.loadAt,Instr.sureAddr,KaW,Kaj,this]
  ·exact hv.elim
 ·exact hv.elim
theorem TX{tmps:Array Value}(h:Qt C ρ fr hp tmps w){O b:Nat}{hb:HB}{l:List Nat}(_hB:aQ O=false)(aj:hp O=some hb)(hl:O∈l)(bE:ρ O=some b):¬aI C ρ (Q6 hp l) b:=by
 have bc:=(h.own O hb aj).bV;rw[bE]at bc;rintro(hx|⟨γ,hg,h1,h2,h3⟩)
 ·exact Ctx.IF bc.1 (AA _hB) hx
 ·obtain⟨oL,g1,_,_,_,_,g6⟩:=Cp h1;have:=h.inj γ O b (by simp[g1]) (by simp[aj]) h3 bE;subst this;exact g6 h2 hl
theorem Hc{tmps:Array Value}(h:Qt C ρ fr hp tmps w){p:PV}{v:Value}{l:List Nat}(hr:dp C ρ hp w p v)(hl:∀O∈p.bS,O∈l)(hu:cx hp p≠ .undef):Qn w (aI C ρ (Q6 hp l)) (cx hp p) v:=by
 cases p with
 | mp O i o=>
  obtain⟨b,hb,g1,g2,rfl⟩:=hr;have zB:=hl O (by simp[PV.bS]);have aS:=h.own O hb g2;have bc:=aS.bV;rw[g1]at bc;obtain⟨_,ao,cur,cap,c1,c2,c3,c4,c5⟩:=bc;have hB:aQ O=false:=by
   cases hq:aQ O with
   |false=>rfl
   |true=>simp[cx,hq]at hu
  simp only[cx,g2,hB]at hu⊢;cases hx:hb.xs[i]? with
  |none=>simp[hx]at hu
  | some x=>
   simp only[KaY,if_false];have hi:i<hb.xs.length:=(Kaf.1 hx).1;have cF:=(aS.len i x hx).1;refine Qn.pt _ b _ (fun j=>cur.getD (i*hb.e+o+j) undef) (TX h hB g2 zB g1) ao (fun j hj=>?_) (fun j y hy=>?_)
   ·have aT:o+(j+1)<=hb.e:=by simp[cF]at hj;omega
    exact mr c1 (by rw[c2];exact oc (by omega) aT (Kcx j))
   ·rw[Ka4]at hy;rw[KbW];exact(c5 i x hx (o+j) y hy).freeze
 | ax O o n=>
  obtain⟨hb,g1,g2,g3⟩:=hr;have hB:aQ O=false:=by
   cases hq:aQ O with
   |false=>rfl
   |true=>simp[cx,hq]at hu
  simp only[cx,g1,hB];rcases g3 with⟨g3,rfl,rfl,rfl⟩|⟨b,cap,g3,rfl,g5,g6⟩
  ·simp only[Kcr];exact .gC _ _ _ (Ka6 _)
  ·have zB:=hl O (by simp[PV.bS]);have aS:=h.own O hb g1;have bc:=aS.bV;rw[g3]at bc;obtain⟨_,ao,cur,eJ,c1,c2,c3,c4,c5⟩:=bc;obtain⟨cur',ty',d1,d2⟩:=g5;rw[c1]at d1;cases d1;have jg:o+cap=eJ:=by rw[c2]at d2;exact(KbI aS.lE d2).symm
   subst jg;have hlen:((hb.xs.drop o).take n).length=n:=by simp;omega
   have eR:∀(i:Nat)(x:PV),((hb.xs.drop o).take n)[i]? =some x->i<n/\hb.xs[o+i]? =some x:=fun i x hx=>by
    have hi:i<n:=by have:=(Kaf.1 hx).1;omega
    rw[KaI hi,Ka4]at hx;exact⟨hi,hx⟩
   have:=Qn.sl (w:=w) (X:=aI C ρ (Q6 hp l)) hb.e ((hb.xs.drop o).take n) b (o*hb.e) cap (fun i j=>cur.getD ((o+i)*hb.e+j) undef) (TX h hB g1 zB g3) ao (by omega) (by omega)
    (fun i x hx=>(aS.len _ x (eR i x hx).2).1)
    (fun i hi j hj=>by rw[hlen]at hi;have:=oc (i:=o+i) (e:=hb.e) (o:=0) (j:=j) (n:=hb.e) (cap:=o+cap) (by omega) (by omega) hj;rw[KaP]at this;rw[show o*hb.e+i*hb.e+j=(o+i)*hb.e+j by rw[KaM]];exact mr c1 (by rw[c2];exact this))
    (fun i x hx j y hy=>(c5 _ x (eR i x hx).2 j y hy).freeze)
   rwa[hlen]at this
 |undef=>simp[cx]at hu
 |rb=>simp[cx]at hu
 |aL=>simp[cx]at hu
 |np=>simp[cx]at hu
 |aP=>simp[cx]at hu
 |fb=>simp[cx]at hu
 |dx=>simp[cx]at hu
 |aJ=>simp[cx]at hu
 |_=>exact Qn.freeze hr
theorem QK{p:PV}(h:p.iz=true):p≠ .undef:=by cases p<;>simp[PV.iz]at h⊢
theorem VE{p:PV}(h:p.aG=true):p≠ .undef:=by cases p<;>simp[PV.aG]at h⊢
theorem s9{tmps:Array Value}(h:Qt C ρ fr hp tmps w){p:PV}{v:Value}{l:List Nat}(hr:Qk C ρ hp w p v)(hl:∀O∈p.refs,O∈l)(hd:(Qr hp p).aG=true):Q8 w (aI C ρ (Q6 hp l)) (Qr hp p) v:=by
 cases p with
 | fn f first cap=>
  obtain⟨fv,cv,rfl,h1,h2,h3,h4⟩:=hr;simp only[Qr,PV.aG,Ka2,Kav,KaA,forall_exists_index,and_imp,forall_apply_eq_imp_iff₂]at hd;refine Qn.fn f _ _ fv cv (by simp[h1]) (by simp[h2]) (fun i x hx=>?_) (fun i x hx=>?_)
  ·simp only[Kao,Kaa]at hx;obtain⟨y,hy,rfl⟩:=hx;exact Hc h (h3 i y hy) (fun O aj=>hl O (KG hy O aj)) (QK (hd.1 y (Kai hy)))
  ·simp only[Kao,Kaa]at hx;obtain⟨y,hy,rfl⟩:=hx;exact Hc h (h4 i y hy) (fun O aj=>hl O (KN hy O aj)) (QK (hd.2 y (Kai hy)))
 |mp O i o=>exact Q8.sN (Hc (p:=.mp O i o) h hr hl (VE hd))
 |ax O o n=>exact Q8.sN (Hc (p:=.ax O o n) h hr hl (VE hd))
 |undef=>simp[Qr,cx,PV.aG]at hd
 |rb=>simp[Qr,cx,PV.aG]at hd
 |aL=>simp[Qr,cx,PV.aG]at hd
 |np=>simp[Qr,cx,PV.aG]at hd
 |aP=>simp[Qr,cx,PV.aG]at hd
 |fb=>simp[Qr,cx,PV.aG]at hd
 |dx=>simp[Qr,cx,PV.aG]at hd
 |aJ=>simp[Qr,cx,PV.aG]at hd
 |aK ps=>simp[Qr,cx,PV.aG]at hd
 |agg cs=>exact Q8.mono (p:=.agg cs) hr (fun _ _ _=>rfl) (fun _ _ hn hx=>hn (K2 hx)) (Kae _)
 |_=>exact Qn.freeze hr
end Go.FW
namespace Go.FW
open Go
variable {C : Ctx} {ρ : Nat -> Option Nat} {fr : Fr} {hp : HP} {w : World} {a : Act} {K : Qg}
theorem v9{x:Option Operand}{y:Option aM}{Xh n:Int}(h:Qt C ρ fr hp a.tmps w)(ho:pC x=some y)(hb:iR Xh (y.map (ev fr))=some n):
  (x=none/\y=none/\n=Xh)∨∃z k,x=some z/\a.eval z= .int k n/\y.isSome=true:=by
 cases x with
 |none=>simp[pC]at ho;subst ho;simp[iR]at hb;exact .inl ⟨rfl,rfl,hb.symm⟩
 | some z=>
  simp only[pC,Kaa]at ho;obtain⟨u,hu,rfl⟩:=ho;have hr:=cP h hu;simp only[KbT]at hb;cases hp':ev fr u with
  |int k m=>rw[hp']at hb hr;simp[iR]at hb;subst hb;exact .inr ⟨z,k,rfl,hr.lK,rfl⟩
  |_=>rw[hp']at hb;simp[iR]at hb
theorem xP{P:Program}{k:IntKind}{i:Int}{y:Nat}{code:BoundsCode}(h0:0<=i)(h1:i<=y)(w:World):(Instr.sliceBound (.int k i) y code).run P w= .ok i.toNat w:=by
 unfold Instr.sliceBound;have:0<=i/\i<=y:=⟨h0,h1⟩
 simp only[asIntOf,Kal,KaW,Kaj,if_pos this]
theorem G8{P:Program}{len cap:Nat}{lo hi mx:Option Operand}{L H M:Int}(eval:Operand->Value)
  (hL:(lo=none/\L=0)∨∃z k,lo=some z/\eval z= .int k L)
  (hH:(hi=none/\H=len)∨∃z k,hi=some z/\eval z= .int k H)
  (hM:(mx=none/\M=len)∨∃z k,mx=some z/\eval z= .int k M) (hm:mx.isSome=true->hi.isSome=true)
  (h0:0<=L) (h1:L<=H) (h2:H<=M) (h3:M<=len) (h4:len<=cap):
  ∃m,L.toNat<=m/\H.toNat<=m/\m<=cap/\(mx=none->m=cap)/\∀w,(Instr.sliceBounds true len cap (lo.map eval) (hi.map eval) (mx.map eval)).run P w= .ok (L.toNat,H.toNat,m) w:=by
 have c1:H<=(cap:Int):=by omega
 rcases hM with⟨rfl,hM⟩|⟨zm,km,rfl,hM⟩
 ·refine⟨cap,by omega,by omega,Kae _,fun _=>rfl,fun w=>?_⟩;rcases hH with⟨rfl,hH⟩|⟨zh,kh,rfl,hH⟩<;>rcases hL with⟨rfl,hL⟩|⟨zl,kl,rfl,hL⟩
  ·subst hH;subst hL;simp[Instr.sliceBounds,Kal]
  ·subst hH;have e:=xP (P:=P) (k:=kl) (code:=.sliceB) (y:=len) h0 h1;simp[Instr.sliceBounds,Kal,hL,e]
  ·subst hL;have e:=xP (P:=P) (k:=kh) (code:=.sliceAcap) (y:=cap) (by omega) c1;simp[Instr.sliceBounds,Kal,hH,e]
  ·have e:=xP (P:=P) (k:=kh) (code:=.sliceAcap) (y:=cap) (by omega) c1;have e2:=xP (P:=P) (k:=kl) (code:=.sliceB) (y:=H.toNat) h0 (by omega);simp[Instr.sliceBounds,Kal,hH,hL,e,e2]
 ·rcases hH with⟨rfl,hH⟩|⟨zh,kh,rfl,hH⟩
  ·simp at hm
  have e:=xP (P:=P) (k:=km) (code:=.slice3Acap) (y:=cap) (i:=M) (by omega) (by omega);have e1:=xP (P:=P) (k:=kh) (code:=.slice3B) (y:=M.toNat) (i:=H) (by omega) (by omega);refine⟨M.toNat,by omega,by omega,by omega,fun h=>by simp at h,fun w=>?_⟩;rcases hL with⟨rfl,hL⟩|⟨zl,kl,rfl,hL⟩
  ·subst hL;simp[Instr.sliceBounds,Kal,hH,hM,e,e1]
  ·have e2:=xP (P:=P) (k:=kl) (code:=.slice3C) (y:=H.toNat) (i:=L) h0 (by omega);simp[Instr.sliceBounds,Kal,hH,hM,hL,e,e1,e2]
theorem GP{P:Program}{t e:TypeId}{n len cap l h m:Nat}{ad:Option Addr}{lo hi mx:Option Value}(hu:P.underlying t=some (.slice e))(hn:eV P e=some n)(w:World)
  (hb:(Instr.sliceBounds true len cap lo hi mx).run P w= .ok (l,h,m) w):
  (Instr.sliceAt t (.slice ad len cap) lo hi mx).run P w= .ok (.slice (if m=l then ad else ad.map (·.add (l*n))) (h-l) (m-l)) w:=by
 unfold Instr.sliceAt Instr.slice;simp only[Kal,Q9 hu,Kaj,hb,mz hn,KaW]
theorem TJ{xs:List PV}{H L i:Nat}{x:PV}(hx:((xs.take H).drop L)[i]? =some x):xs[L+i]? =some x/\L+i<H:=by
 rw[Ka4]at hx;have hi:L+i<H:=by have:=(Kaf.1 hx).1;simp at this;omega
 rw[KaI hi]at hx;exact⟨hx,hi⟩
theorem Qn.part{X:Nat->Prop}{e:Nat}{xs:List PV}{ad:Option Addr}{cap L H m:Nat}(h:Qn w X (.sl e xs) (.slice ad xs.length cap))(h1:L<=H)(h2:H<=xs.length)(h3:H<=m)(h4:m<=cap):
  Qn w X (.sl e ((xs.take H).drop L)) (.slice (if m=L then ad else ad.map (·.add (L*e))) (H-L) (m-L)):=by
 by_cases he:H=L
 ·subst he;have:(xs.take H).drop H=[]:=Kco (by simp;omega);rw[this,Kbw];refine .gC _ _ _ ?_;cases h with
  |gC _ _ _ hc=>omega
  |sl _ _ b off _ vs hX hb hl hc=>omega
 ·have hlen:((xs.take H).drop L).length=H-L:=by simp;omega
  cases h with
  |gC=>simp at h2;omega
  | sl _ _ b off _ vs hX hb hl hc he' hv hr=>
   have hm:¬m=L:=by omega
   rw[if_neg hm];simp only[KbT,KbQ];have:=Qn.sl (w:=w) (X:=X) e ((xs.take H).drop L) b (off+L*e) (m-L) (fun i j=>vs (L+i) j) hX hb (by omega) (by omega)
    (fun i x hx=>he' _ x (TJ hx).1)
    (fun i hi j hj=>by have:=hv (L+i) (by omega) j hj;rw[show off+L*e+i*e+j=off+(L+i)*e+j by rw[KaM];omega];exact this)
    (fun i x hx j y hy=>hr _ x (TJ hx).1 j y hy)
   rwa[hlen]at this
theorem agp{o:Oper}{t e:TypeId}{n:Nat}{x:Operand}{px:PV}{lo hi mx:Option Operand}{JR Gc Gd:Option aM}{d:Nat}(ho:o.op= .slice t x lo hi mx)(hd:o.dst=some d)(ao:d<C.N)(h:Qt C ρ fr hp a.tmps w)
  (hu:C.P.underlying t=some (.slice e)) (hn:eV C.P e=some n) (hx:Qk C ρ hp w px (a.eval x)) (mQ:pC lo=some JR) (xx:pC hi=some Gc) (ze:pC mx=some Gd)
  (hv:jo n px (JR.map (ev fr)) (Gc.map (ev fr)) (Gd.map (ev fr)) d fr hp K):Qx C ρ o a w K:=by
 have mY:∀ {x:Option Operand} {y:Option aM},pC x=some y->(x.isSome=true↔y.isSome=true):=by
  intro x y FD;cases x with
  |none=>simp[pC]at FD;subst FD;simp
  |some z=>simp only[pC,Kaa]at FD;obtain⟨u,_,rfl⟩:=FD;simp
 have common:∀(hp':HP)(xs:List PV)(len cap:Nat)(ad:Option Addr)(L H M:Int),Qt C ρ fr hp' a.tmps w->len=xs.length->a.eval x= .slice ad len cap->len<=cap->
   Qn w (aI C ρ hp') (.sl n xs) (.slice ad xs.length cap)->iR 0 (JR.map (ev fr))=some L->iR len (Gc.map (ev fr))=some H->iR len (Gd.map (ev fr))=some M->
   0<=L->L<=H->H<=M->M<=len->((Gd.map (ev fr)).isSome=true->(Gc.map (ev fr)).isSome=true)->K (ae fr d (.sl n ((xs.take H.toNat).drop L.toNat))) hp'->Qx C ρ o a w K:=by
  intro hp' xs len cap ad L H M hs hl ex dQ hr bL bH bM h0 h1 h2 h3 hm hK;have e1:=v9 h mQ bL;have e2:=v9 h xx bH;have e3:=v9 h ze bM;obtain⟨m,q1,q2,q3,_,q4⟩:∃m,L.toNat<=m/\H.toNat<=m/\m<=cap/\(mx=none->m=cap)/\∀w',(Instr.sliceBounds true len cap (lo.map a.eval) (hi.map a.eval) (mx.map a.eval)).run C.P w'= .ok (L.toNat,H.toNat,m) w':=by
   refine G8 (P:=C.P) a.eval ?_ ?_ ?_ (fun hq=>(mY xx).2 (by simpa using hm (by simpa using(mY ze).1 hq))) h0 h1 h2 h3 dQ
   ·rcases e1 with⟨q1,_,q3⟩|⟨z,k,q1,q2,_⟩
    ·exact .inl ⟨q1,q3⟩
    ·exact .inr ⟨z,k,q1,q2⟩
   ·rcases e2 with⟨q1,_,q3⟩|⟨z,k,q1,q2,_⟩
    ·exact .inl ⟨q1,q3⟩
    ·exact .inr ⟨z,k,q1,q2⟩
   ·rcases e3 with⟨q1,_,q3⟩|⟨z,k,q1,q2,_⟩
    ·exact .inl ⟨q1,q3⟩
    ·exact .inr ⟨z,k,q1,q2⟩
  have hp:=hr.part (L:=L.toNat) (H:=H.toNat) (m:=m) (by omega) (by omega) q2 q3;refine⟨_,fun w'=>?_,ae fr d _,hp',by rw[hd];exact hs.ae (Qk.mZ (Q8.sN hp)) ao,hK⟩;unfold execOp;simp only[ho,ex,Kal,GP hu hn w' (q4 w'),Kaj];rfl
 unfold jo at hv;split at hv
 ·
  split at hv
  ·rename_i L H M bL bH bM;obtain⟨rfl,rfl,rfl,hm,hK⟩:=hv;have ex:=hx.zL;refine Qx.mk hd ao h (p:=.ab) (v:=.slice none 0 0) (fun w'=>?_) Qn.ab hK;have e1:=v9 h mQ bL;have e2:=v9 h xx bH;have e3:=v9 h ze bM;obtain⟨m,q1,q2,q3,_,q4⟩:∃m,(0:Int).toNat<=m/\(0:Int).toNat<=m/\m<=0/\(mx=none->m=0)/\∀w',(Instr.sliceBounds true 0 0 (lo.map a.eval) (hi.map a.eval) (mx.map a.eval)).run C.P w'= .ok ((0:Int).toNat,(0:Int).toNat,m) w':=by
    refine G8 (P:=C.P) a.eval ?_ ?_ ?_ (fun hq=>(mY xx).2 (by simpa using hm (by simpa using(mY ze).1 hq))) (Int.le_refl _) (Int.le_refl _) (Int.le_refl _) (by simp) (Kae _)
    ·rcases e1 with⟨q1,_,q3⟩|⟨z,k,q1,q2,_⟩
     ·exact .inl ⟨q1,q3⟩
     ·exact .inr ⟨z,k,q1,q2⟩
    ·rcases e2 with⟨q1,_,q3⟩|⟨z,k,q1,q2,_⟩
     ·exact .inl ⟨q1,by simp⟩
     ·exact .inr ⟨z,k,q1,q2⟩
    ·rcases e3 with⟨q1,_,q3⟩|⟨z,k,q1,q2,_⟩
     ·exact .inl ⟨q1,by simp⟩
     ·exact .inr ⟨z,k,q1,q2⟩
   obtain rfl:m=0:=by omega
   unfold execOp;simp only[ho,ex,Kal,GP hu hn w' (q4 w'),Kaj];rfl
  ·exact hv.elim
 ·rename_i e' xs;split at hv
  ·rename_i L H M bL bH bM;obtain⟨rfl,h0,h1,h2,h3,hm,hK⟩:=hv;obtain⟨ad,cap,ex,mM,jJ⟩:=hx.aa7;have aX:Qn w (aI C ρ hp) (.sl e' xs) (a.eval x):=hx;rw[ex]at aX;exact common hp xs _ cap ad L H M h rfl ex mM aX bL bH bM h0 h1 h2 h3 hm hK
  ·exact hv.elim
 ·rename_i O o' m;cases Gd with
  |some zm=>revert hv;split<;>simp_all
  |none=>
  split at hv
  ·rename_i L H bL bH bM;obtain⟨he,h0,h1,h2,h3,hK⟩:=hv;have m0:mx=none:=by cases mx<;>simp[pC]at ze⊢
   subst m0;have e1:=v9 h mQ bL;have e2:=v9 h xx bH;obtain⟨hb,g1,g2,g3⟩:=hx;rw[g1]at he;simp only[KbT,KaD]at he;have hL:(lo=none/\L=0)∨∃z k,lo=some z/\a.eval z= .int k L:=by
    rcases e1 with⟨q1,_,q3⟩|⟨z,k,q1,q2,_⟩
    ·exact .inl ⟨q1,q3⟩
    ·exact .inr ⟨z,k,q1,q2⟩
   have hH:(hi=none/\H=(m:Int))∨∃z k,hi=some z/\a.eval z= .int k H:=by
    rcases e2 with⟨q1,_,q3⟩|⟨z,k,q1,q2,_⟩
    ·exact .inl ⟨q1,q3⟩
    ·exact .inr ⟨z,k,q1,q2⟩
   rcases g3 with⟨g3,ex,rfl,rfl⟩|⟨b,cap,g3,ex,g5,g6⟩
   ·obtain⟨m',q1,q2,q3,_,q4⟩:=G8 (P:=C.P) (len:=0) (cap:=0) (mx:=none) (M:=0) a.eval hL hH (.inl ⟨rfl,rfl⟩) (by simp) h0 h1 h2 (by simp) (Kae _);have M0:H.toNat=0:=by omega
    have yQ:L.toNat=0:=by omega
    have zb:m'=0:=by omega
    refine Qx.mk hd ao h (v:=.slice none 0 0) (fun w'=>?_) ?_ hK
    ·unfold execOp;simp only[ho,ex,Kal,GP hu hn w' (q4 w'),Kaj];simp[M0,zb,yQ]
    ·exact⟨hb,g1,by omega,.inl ⟨g3,rfl,by omega,by omega⟩⟩
   ·have dQ:m<=cap:=by have bc:=(h.own O hb g1).bV;rw[g3]at bc;obtain⟨_,_,cur,eJ,c1,c2,c3,c4,c5⟩:=bc;obtain⟨cur',ty',d1,d2⟩:=g5;rw[c1]at d1;cases d1;rw[c2]at d2;have:=KbI (h.own O hb g1).lE d2;omega
    obtain⟨m',q1,q2,q3,q5,q4⟩:=G8 (P:=C.P) (len:=m) (cap:=cap) (mx:=none) (M:=(m:Int)) a.eval hL hH (.inl ⟨rfl,rfl⟩) (by simp) h0 h1 h2 (Int.le_refl _) dQ;obtain rfl:=q5 rfl;refine Qx.mk hd ao h (v:=.slice (some ⟨b,(o'+L.toNat)*hb.e,none⟩) (H.toNat-L.toNat) (m'-L.toNat)) (fun w'=>?_) ?_ hK
    ·unfold execOp;simp only[ho,ex,Kal,GP hu hn w' (q4 w'),Kaj];congr 1;by_cases hz:L=0
     ·subst hz;simp[Addr.add_zero']
     ·rw[if_neg (by omega)];simp[KbQ,he,KaM]
    ·exact⟨hb,g1,by omega,.inr ⟨b,m'-L.toNat,g3,rfl,by rw[show o'+L.toNat+(m'-L.toNat)=o'+m' by omega];exact g5,by omega⟩⟩
  ·exact hv.elim
 ·exact hv.elim
end Go.FW
namespace Go.FW
open Go
variable {C : Ctx} {ρ : Nat -> Option Nat} {fr : Fr} {hp : HP} {w : World} {a : Act} {K : Qg}
def rG(Q:PV->Value->Prop)(ps:List PV)(vs:Array Value):Prop:=vs.size=ps.length/\∀(i:Nat)(x:PV),ps[i]? =some x->Q x (vs.getD i undef)
abbrev Rows(w:World)(X:Nat->Prop)(ps:List PV)(vs:Array Value):Prop:=rG (Qn w X) ps vs
theorem Pj(off:Nat):∀(l:List Value)(s:Nat)(cs:Array Value),
  ((l.zipIdx s).foldl (fun cs (p:Value×Nat)=>cs.setIfInBounds (off+p.2) p.1) cs).size=cs.size/\
  ∀k,k<cs.size->((l.zipIdx s).foldl (fun cs (p:Value×Nat)=>cs.setIfInBounds (off+p.2) p.1) cs).getD k undef=if off+s<=k/\k<off+s+l.length then l.getD (k-off-s) undef else cs.getD k undef
 | [],s,cs=>by refine⟨rfl,fun k hk=>?_⟩;simp only[List.zipIdx_nil,List.foldl_nil,KaR,KaP];rw[if_neg (by omega)]
 | c::l,s,cs=>by
  obtain⟨h1,h2⟩:=Pj off l (s+1) (cs.setIfInBounds (off+s) c);simp only[List.zipIdx_cons,List.foldl_cons];refine⟨by rw[h1];simp,fun k hk=>?_⟩;rw[h2 k (by simpa using hk)];by_cases hks:k=off+s
  ·subst hks;rw[if_neg (by omega),if_pos (by simp)];simp[Array.getD,hk]
  ·by_cases hr:off+(s+1)<=k/\k<off+(s+1)+l.length
   ·rw[if_pos hr,if_pos (by simp;omega)];have:k-off-s=(k-off-(s+1))+1:=by omega
    rw[this];simp
   ·rw[if_neg hr,if_neg (by simp;omega)];simp only[KaL];rw[Kb6 (by omega)]
theorem Q0w(cs:Array Value)(v:Array Value)(off:Nat):
  v.zipIdx.foldl (fun cs (x:Value×Nat)=>match x with|(c,j)=>cs.setIfInBounds (off+j) c) cs=(v.toList.zipIdx).foldl (fun cs (p:Value×Nat)=>cs.setIfInBounds (off+p.2) p.1) cs:=by
 rw[<-Array.foldl_toList,Array.toList_zipIdx]
theorem rG.atn{Q:PV->Value->Prop}{ps qs:List PV}{vs us:Array Value}{off:Nat}(h:rG Q ps vs)(hq:rG Q qs us)(hle:off+qs.length<=ps.length):
  rG Q (ps.take off++qs++ps.drop (off+qs.length)) (us.zipIdx.foldl (fun cs (x:Value×Nat)=>match x with|(c,j)=>cs.setIfInBounds (off+j) c) vs):=by
 obtain⟨h1,h2⟩:=h;obtain⟨q1,q2⟩:=hq;rw[Q0w];obtain⟨f1,f2⟩:=Pj off us.toList 0 vs;refine⟨by rw[f1,h1];simp;omega,fun i x hx=>?_⟩;have hi:i<ps.length:=by have:=(Kaf.1 hx).1;simp at this;omega
 rw[f2 i (by omega)];simp only[KaP,Kcm,Kcp];rw[Ka8,Ka3]at hx;by_cases c1:i<off
 ·rw[if_neg (by omega)];rw[if_pos (by simp;omega),KaI c1]at hx;exact h2 i x hx
 ·rw[if_neg (by simp;omega)]at hx;have ht:(ps.take off).length=off:=by simp;omega
  rw[ht,Ka3]at hx;by_cases c2:i-off<qs.length
  ·rw[if_pos c2]at hx;rw[if_pos (by omega)];have:=q2 _ _ hx
   rwa[show us.toList.getD (i-off) undef=us.getD (i-off) undef by simp[KaL]]
  ·rw[if_neg c2,Ka4]at hx;rw[if_neg (by omega)];rw[show off+qs.length+(i-off-qs.length)=i by omega]at hx;exact h2 i x hx
theorem G9{Q:PV->Value->Prop}(place:Nat->Option (Nat×Nat)):∀(parts:List (Nat×Value))(qs:List (Nat×List PV))(ps:List PV)(vs:Array Value),rG Q ps vs->parts.length=qs.length->
  (∀(i:Nat)(p:Nat×Value)(q:Nat×List PV),parts[i]? =some p->qs[i]? =some q->place p.1=some (q.1,q.2.length)/\rG Q q.2 p.2.cells/\q.1+q.2.length<=ps.length)->
  ∃eL,Instr.fill place vs parts=some eL/\rG Q (iD ps qs) eL
 | [],[],ps,vs,h,_,_=>⟨vs,rfl,h⟩
 | [],q::qs,_,_,_,hl,_=>by simp at hl
 |p::parts,[],_,_,_,hl,_=>by simp at hl
 | (i,v)::parts,(off,xs)::qs,ps,vs,h,hl,hp=>by
  obtain⟨h1,h2,h3⟩:=hp 0 (i,v) (off,xs) rfl rfl;have fh:v.cells.size=xs.length:=h2.1;have hn:¬((v.cells.size≠xs.length||decide (off+v.cells.size>vs.size))=true):=by have:=h.1;simp only[KbE,decide_eq_true_eq,not_or];exact⟨by simp[fh],by rw[fh,this];simp only at h3;omega⟩
  have hlen:(ps.take off++xs++ps.drop (off+xs.length)).length=ps.length:=by simp;simp only at h3;omega
  obtain⟨eL,g1,g2⟩:=G9 place parts qs _ _ (h.atn h2 h3) (by simpa using hl) (fun j p q hpj hqj=>by obtain⟨k1,k2,k3⟩:=hp (j+1) p q (by simpa using hpj) (by simpa using hqj);exact⟨k1,k2,by rw[hlen];exact k3⟩);refine⟨eL,?_,g2⟩;unfold Instr.fill;simp only[h1];rw[if_neg hn];exact g1
theorem Q8.rows{X:Nat->Prop}{p:PV}{v:Value}(h:Q8 w X p v):Rows w X p.cells v.cells:=h.cells
theorem uG{P:Program}{t:TypeId}{n by_:Nat}{z:PV}(h:ln P t=some (n,by_,z)):∃(i:TypeInfo)(zv:Value),P.info? t=some i/\i.zero=some zv/\i.size=n/\i.bytes=by_/\uF zv=some z:=by simp only[ln,Kab,Kaa,Prod.mk.injEq]at h;obtain⟨i,h1,zv,h2,p,h3,h4,h5,h6⟩:=h;subst h6;exact⟨i,zv,h1,h2,h4,h5,h3⟩
theorem xQ{P:Program}{t:TypeId}{i:TypeInfo}{zv:Value}(h1:P.info? t=some i)(h2:i.zero=some zv)(w:World):(zeroValue t).run P w= .ok zv w:=by simp[zeroValue,typeInfo,h1,h2]
theorem VF{parts:List (Nat×Operand)}{ps:List (Nat×Nat×aM)}{f:Nat×Operand->Option (Nat×Nat×aM)}(h:parts.mapM f=some ps){eval:Operand->Value}{i:Nat}{p:Nat×Value}{q:Nat×Nat×aM}
  (h1:(parts.map fun x=>(x.1,eval x.2))[i]? =some p) (h2:ps[i]? =some q):∃x,parts[i]? =some x/\f x=some q/\p=(x.1,eval x.2):=by
 obtain⟨x,hx,hf⟩:=(nh h).2 i q h2;refine⟨x,hx,hf,?_⟩;simp only[Kao,hx,KbT,KaD]at h1;exact h1.symm
theorem Q9t{o:Oper}{t:TypeId}{parts:Array (Nat×Operand)}{z:PV}{n by_:Nat}{ps:List (Nat×Nat×aM)}{d:Nat}(ho:o.op= .build t parts)(hd:o.dst=some d)(ao:d<C.N)(h:Qt C ρ fr hp a.tmps w)
  (hz:ln C.P t=some (n,by_,z)) (fZ:Dr C.P t parts.toList=some ps)
  (hv:DH z.cells (ps.map fun p=>(p.1,p.2.1,ev fr p.2.2)) d fr hp K):Qx C ρ o a w K:=by
 obtain⟨bd,hK⟩:=hv;obtain⟨ti,zv,i1,i2,i3,i4,i5⟩:=uG hz;have Ok:Rows w (aI C ρ (Q6 hp ((ps.map fun p=>(p.1,p.2.1,ev fr p.2.2)).flatMap fun p=>p.2.2.refs))) z.cells zv.cells:=(uA i5).rows;have tP:(parts.map fun(x:Nat×Operand)=>(x.1,a.eval x.2)).toList=parts.toList.map fun x=>(x.1,a.eval x.2):=by simp
 have key:∀(f:Nat×Operand->Option (Nat×Nat×aM))(place:Nat->Option (Nat×Nat)),parts.toList.mapM f=some ps->(∀x q,f x=some q->place x.1=some (q.1,q.2.1)/\cj x.2=some q.2.2)->
   ∃eL,Instr.fill place zv.cells (parts.map fun(x:Nat×Operand)=>(x.1,a.eval x.2)).toList=some eL/\
    Rows w (aI C ρ (Q6 hp ((ps.map fun p=>(p.1,p.2.1,ev fr p.2.2)).flatMap fun p=>p.2.2.refs))) (iD z.cells ((ps.map fun p=>(p.1,p.2.1,ev fr p.2.2)).map fun p=>(p.1,(Qr hp p.2.2).cells))) eL:=by
  intro f place hm hf;rw[tP];refine G9 place _ _ _ _ Ok (by simp[(nh hm).1]) (fun i p q BO xD=>?_);simp only[KcW,Kao,Kaa]at xD;obtain⟨q0,ma,rfl⟩:=xD;obtain⟨x,hx,pZ,rfl⟩:=VF hm BO ma;obtain⟨f1,f2⟩:=hf x q0 pZ;obtain⟨o1,o2,o3⟩:=bd (q0.1,q0.2.1,ev fr q0.2.2) (KaA.2 ⟨q0,Kai ma,rfl⟩);simp only[Function.comp]at o1 o2 o3⊢;refine⟨by rw[o2];exact f1,?_,by rw[o2];exact o3⟩;exact(s9 h (cP h f2) (fun O aj=>Kaq.2 ⟨_,KaA.2 ⟨q0,Kai ma,rfl⟩,aj⟩) o1).rows
 have fin:∀eL,(∀w',(Instr.build t (parts.map fun(x:Nat×Operand)=>(x.1,a.eval x.2))).run C.P w'= .ok (.agg eL) w')->
   Rows w (aI C ρ (Q6 hp ((ps.map fun p=>(p.1,p.2.1,ev fr p.2.2)).flatMap fun p=>p.2.2.refs))) (iD z.cells ((ps.map fun p=>(p.1,p.2.1,ev fr p.2.2)).map fun p=>(p.1,(Qr hp p.2.2).cells))) eL->Qx C ρ o a w K:=by
  intro eL bQ hr;refine⟨.agg eL,fun w'=>?_,_,_,by rw[hd];exact(h.freeze _).ae (p:=.agg _) ⟨eL,rfl,hr.1,hr.2⟩ ao,hK⟩;unfold execOp;simp only[ho,Kal];have:=bQ w';rw[show(parts.map fun(x:Nat×Operand)=>(x.1,a.eval x.2))=(parts.map fun x=>match x with|(i,x)=>(i,a.eval x))from rfl]at this;rw[this];rfl
 unfold Dr at fZ;split at fZ
 ·rename_i fs hu;simp only[Kab]at fZ;obtain⟨pl,ej,hm⟩:=fZ;obtain⟨eL,g1,g2⟩:=key _ (fun i=>pl[i]?) hm (fun x q hq=>by simp only[Kab,Kaa]at hq;obtain⟨r,hr,y,hy,rfl⟩:=hq;exact⟨by simpa using hr,hy⟩);refine fin eL (fun w'=>?_) g2;unfold Instr.build;have cK:=run_places (P:=C.P) w' fs.toList pl ej;simp[Kal,xQ i1 i2,Q9 hu,Kbz,cK]at g1⊢;simp[g1]
 ·rename_i len e hu;simp only[Kab]at fZ;obtain⟨m,zb,hm⟩:=fZ;obtain⟨eL,g1,g2⟩:=key _ (fun i=>some (i*m,m)) hm (fun x q hq=>by simp only[Kaa]at hq;obtain⟨y,hy,rfl⟩:=hq;exact⟨rfl,hy⟩);refine fin eL (fun w'=>?_) g2;unfold Instr.build;simp only[Kal,xQ i1 i2,Q9 hu,mz zb,Kaj,g1,KaW]
 ·simp at fZ
theorem LG{xs:List Operand}{ys:List aM}(h:Qt C ρ fr hp a.tmps w)(hm:xs.mapM cj=some ys):(ys.map (ev fr)).length=xs.length/\∀(i:Nat)(x:PV),(ys.map (ev fr))[i]? =some x->Qk C ρ hp w x ((xs.map a.eval).toArray.getD i undef):=by
 obtain⟨h1,h2⟩:=nh hm;refine⟨by simp[h1],fun i x hx=>?_⟩;simp only[Kao,Kaa]at hx;obtain⟨y,hy,rfl⟩:=hx;obtain⟨z,hz,ho⟩:=h2 i y hy;have e:((xs.map a.eval).toArray.getD i undef)=a.eval z:=by simp[KaL,Kao,hz]
 rw[e];exact cP h ho
theorem Qk.toA{p:PV}{v:Value}(h:Qk C ρ hp w p v)(hc:p.mg=true):dp C ρ hp w p v:=by cases p<;>first|exact h|simp[PV.mg]at hc
theorem agq{o:Oper}{f:FuncId}{first cap:Array Operand}{pf pc:List aM}{d:Nat}(ho:o.op= .makeFunc (.func f) first cap)(hd:o.dst=some d)(ao:d<C.N)(h:Qt C ρ fr hp a.tmps w)
  (h1:first.toList.mapM cj=some pf) (h2:cap.toList.mapM cj=some pc)
  (hv:(pf.map (ev fr)++pc.map (ev fr)).all PV.mg=true/\K (ae fr d (.fn f (pf.map (ev fr)) (pc.map (ev fr)))) hp):Qx C ρ o a w K:=by
 obtain⟨hc,hK⟩:=hv;rw[Kav]at hc;obtain⟨f1,f2⟩:=LG h h1;obtain⟨c1,c2⟩:=LG h h2;refine Qx.mk hd ao h (v:=.func (.func f) (first.map a.eval) (cap.map a.eval)) (fun w'=>?_) ?_ hK
 ·unfold execOp;simp only[ho,Kal,Instr.makeFunc,KaW,Kaj]
 ·refine⟨_,_,rfl,by simpa using f1.symm,by simpa using c1.symm,fun i x hx=>?_,fun i x hx=>?_⟩
  ·have:=f2 i x hx;rw[show(first.toList.map a.eval).toArray=first.map a.eval from Array.ext' (by simp)]at this;exact this.toA (hc x (Kcd _ (Kai hx)))
  ·have:=c2 i x hx;rw[show(cap.toList.map a.eval).toArray=cap.map a.eval from Array.ext' (by simp)]at this;exact this.toA (hc x (Kby _ (Kai hx)))
theorem Q60{o:Oper}{x:Operand}{px:PV}(ho:o.op= .nilCheck x)(ao:∀d,o.dst=some d->d<C.N)(h:Qt C ρ fr hp a.tmps w)
  (hx:Qk C ρ hp w px (a.eval x)) (hv:DE px o.dst fr hp K):Qx C ρ o a w K:=by
 have key:(∃b o',a.eval x= .pointer (some ⟨b,o',none⟩))∨(∃f fv cv,a.eval x= .func (.func f) fv cv)->(∀d,o.dst=some d->K (ae fr d px) hp)->(o.dst=none->K fr hp)->Qx C ρ o a w K:=by
  intro hsh k1 k2;have bQ:∀w',(execOp a.eval o).run C.P w'= .ok (.value (a.eval x)) w':=by intro w';unfold execOp;rcases hsh with⟨b,o',e⟩|⟨f,fv,cv,e⟩<;>simp only[ho,e]<;>rfl
  cases hd:o.dst with
  |some d=>exact⟨_,bQ,_,_,by rw[hd];exact h.ae hx (ao d hd),k1 d hd⟩
  |none=>exact⟨_,bQ,fr,hp,by rw[hd];exact h,k2 hd⟩
 cases px with
 |mp O i o'=>obtain⟨b,hb,_,_,e⟩:=hx.BY;refine key (.inl ⟨_,_,e⟩) (fun d hd=>?_) (fun hd=>?_)<;>(rw[hd]at hv;exact hv)
 |pt cs=>obtain⟨b,off,e,_⟩:=hx.JS;refine key (.inl ⟨_,_,e⟩) (fun d hd=>?_) (fun hd=>?_)<;>(rw[hd]at hv;exact hv)
 |fn f first cap=>obtain⟨fv,cv,e,_⟩:=hx;refine key (.inr ⟨_,_,_,e⟩) (fun d hd=>?_) (fun hd=>?_)<;>(rw[hd]at hv;exact hv)
 |_=>exact hv.elim
end Go.FW
namespace Go.FW
open Go
variable {C : Ctx} {ρ : Nat -> Option Nat} {fr : Fr} {hp : HP} {w : World} {a : Act} {K : Qg}
def cY(C:Ctx)(two:Bool)(w:World)(K:Qg)(a':Act)(w':World):Prop:=
 a'.defers=[]/\(∃aC hp',eE C aC hp' a'.tmps w'/\K aC hp')/\(two=true->Ext Q5 w w')
theorem js{P:Program}{o:Oper}{v:Value}{w w':World}{a:Act}{K':Act->World->Prop}{Q:Exit->Act->World->Prop}(hr:(execOp a.eval o).run P w= .ok (.value v) w')(hK:K' (a.put o.dst v) w'):o.wp P a w K' Q:=by unfold Oper.wp;rw[hr];exact hK
theorem xV{a:Act}{d:Option Nat}{v:Value}:(a.put d v).defers=a.defers:=by cases d<;>rfl
theorem GY(w:World)(o:Obj)(k:Nat)(h:k<w.heap.size):(w.alloc o).heap[k]? =w.heap[k]? :=by show(w.heap.push o)[k]? =_;rw[Array.getElem?_push,if_neg (by omega)]
theorem n6(w:World)(o:Obj):(w.alloc o).heap[w.heap.size]? =some o:=by show(w.heap.push o)[w.heap.size]? =_;simp
theorem GZ(w:World)(o:Obj):(w.alloc o).heap.size=w.heap.size+1:=by show(w.heap.push o).size=_;simp
theorem Ext.alloc(w:World)(o:Obj)(Y:Nat->Prop):Ext Y w (w.alloc o):=⟨rfl,rfl,rfl,by rw[GZ];omega,fun b hb _=>GY w o b hb⟩
theorem Ext.drew(w:World)(Y:Nat->Prop):Ext Y w w.drew:=⟨rfl,rfl,rfl,Kae _,fun _ _ _=>rfl⟩
theorem AU{d:Nat}(h:d<C.N):bW d=false:=by have:=C.hN;simp[bW];omega
theorem Qt.zK{tmps:Array Value}{aC:Fr}(h:Qt C ρ fr hp tmps w)(d:Nat)(hB:aQ d=false)(sm:AT C ρ hp w d fr aC)(au:HB)(cur:Array Value)(cap:Nat)(w':World)(hw:w'=w.alloc (.cells cur au.ty)∨w'=w.drew.alloc (.cells cur au.ty))
  (hs:cur.size=cap*au.e) (hle:au.xs.length<=cap) (hm:cap<=maxLen) (he:0<au.e) (hl:∀(i:Nat)(x:PV),au.xs[i]? =some x->x.cells.length=au.e/\x.aG=true)
  (hc:∀(i:Nat)(x:PV),au.xs[i]? =some x->∀(j:Nat)(y:PV),x.cells[j]? =some y->Qn w (aI C ρ hp) y (cur.getD (i*au.e+j) undef)):
  Qt C (rb ρ d (some w.heap.size)) aC (Qj hp d au) tmps w'/\Ext Q5 w w':=by
 have fX:∀Y,Ext Y w w':=fun Y=>by
  rcases hw with rfl|rfl
  ·exact Ext.alloc w _ Y
  ·exact(Ext.drew w Y).trans (Ext.alloc w.drew _ Y)
 have fh:w'.heap.size=w.heap.size+1:=by rcases hw with rfl|rfl<;>rw[GZ]<;>rfl
 have avy:w'.heap[w.heap.size]? =some (.cells cur au.ty (0,0)):=by
  rcases hw with rfl|rfl
  ·exact n6 w _
  ·exact n6 w.drew _
 refine⟨h.B3 d (some w.heap.size) au hB sm (fX _) (fun c iv=>?_) he hl (by simp) (fun c iv=>?_),fX _⟩
 ·cases iv;exact⟨.inl h.ext.size,by omega,.inl (Kae _)⟩
 ·cases iv;exact⟨cur,cap,avy,hs,hle,hm,hc⟩
theorem Qt.JN{tmps:Array Value}(h:Qt C ρ fr hp tmps w)(d:Nat)(hB:bW d=false)(au:HB)(cur:Array Value)(cap:Nat)(w':World)(hw:w'=w.alloc (.cells cur au.ty)∨w'=w.drew.alloc (.cells cur au.ty))
  (hs:cur.size=cap*au.e) (hle:au.xs.length<=cap) (hm:cap<=maxLen) (he:0<au.e) (hl:∀(i:Nat)(x:PV),au.xs[i]? =some x->x.cells.length=au.e/\x.aG=true)
  (hc:∀(i:Nat)(x:PV),au.xs[i]? =some x->∀(j:Nat)(y:PV),x.cells[j]? =some y->Qn w (aI C ρ hp) y (cur.getD (i*au.e+j) undef)):
  Qt C (rb ρ d (some w.heap.size)) (bZ d fr) (Qj hp d au) tmps w'/\Ext Q5 w w':=
 h.zK d (yh hB) (Hb hB) au cur cap w' hw hs hle hm he hl hc
theorem ni:maxLen=9223372036854775807:=rfl
theorem cY.mo{two:Bool}{o:Oper}{d:Nat}{v:Value}{p:PV}{w':World}{aC:Fr}{hp':HP}{ρ':Nat->Option Nat}(hd:o.dst=some d)(ao:d<C.N)(aZ:a.defers=[])
  (h:Qt C ρ' aC hp' a.tmps w') (hx:two=true->Ext Q5 w w') (hv:Qk C ρ' hp' w' p v) (hK:K (ae aC d p) hp'):cY C two w K (a.put o.dst v) w':=by
 refine⟨by rw[xV];exact aZ,⟨_,hp',⟨ρ',?_⟩,hK⟩,hx⟩;rw[hd];exact h.ae hv ao
theorem Q8.aa3{X:Nat->Prop}{p:PV}{v:Value}{n:Nat}(h:Q8 w X p v)(hn:p.cells.length=n):v.cells.size=1*n/\∀(i:Nat)(x:PV),[p][i]? =some x->∀(j:Nat)(y:PV),x.cells[j]? =some y->Qn w X y (v.cells.getD (i*n+j) undef):=by
 obtain⟨h1,h2⟩:=h.cells;refine⟨by omega,fun i x hx j y hy=>?_⟩
 match i,hx with
 |0,hx=>simp at hx;subst hx;simpa using h2 j y hy
 |i+1,hx=>simp at hx
theorem Tc{d n ty:Nat}{x:PV}{w':World}:Qk C (rb ρ d (some w.heap.size)) (Qj hp d ⟨n,ty,[x],false⟩) w' (.mp d 0 0) (.pointer (some ⟨w.heap.size,0,none⟩)):=by refine⟨w.heap.size,⟨n,ty,[x],false⟩,ij _ _ _,by simp[Qj],by simp⟩
theorem Q9u{o:Oper}{t:TypeId}{n:Nat}{x:Operand}{px:PV}{d:Nat}{Q:Exit->Act->World->Prop}(ho:o.op= .box t x)(hd:o.dst=some d)(ao:d<C.N)(aZ:a.defers=[])(h:Qt C ρ fr hp a.tmps w)
  (hx:Qk C ρ hp w px (a.eval x)) (hN:∀cs,px= .aP cs->wI n t cs d fr hp K->o.wp C.P a w (cY C true w K) Q) (hv:fQ n t px d fr hp K):o.wp C.P a w (cY C true w K) Q:=by
 unfold fQ at hv;split at hv
 ·exact hN _ rfl hv
 split at hv
 ·rename_i O o' m hm;have zo:px= .ax O o' m:=by
   cases px with
   |ax β2 o2 m2=>
    simp only at hm;split at hm
    ·cases hm;rfl
    ·cases hm
   |_=>cases hm
  subst zo;have hs:=h.grow (w':=w.alloc (.cells (a.eval x).cells t)) (Ext.alloc w _ _);have aX:fm ρ hp (w.alloc (.cells (a.eval x).cells t)) O o' m (a.eval x):=fm.move hx ⟨rfl,fun hb aj=>⟨hb,aj,rfl,Kae _,fun b cap _ hc=>mw (GY w _ b (mB hc)) hc⟩⟩;have mM:(a.eval x).cells= #[a.eval x]:=by obtain⟨ad,cap,e⟩:=Qk.OA hx;rw[e];rfl
  refine js (v:=.pointer (some ⟨w.heap.size,0,none⟩)) (w':=w.alloc (.cells (a.eval x).cells t)) ?_ (cY.mo (p:=.rb O o' m) hd ao aZ hs (fun _=>Ext.alloc w _ _) ⟨w.heap.size,a.eval x,rfl,by rw[GZ];omega,?_,?_,aX⟩ hv)
  ·unfold execOp;simp only[ho,Instr.box,newVar,newRow];simp
  ·rintro(hq|⟨γ,hg,g1,_,g3⟩)
   ·have:=C.Er _ hq;have:=h.ext.size;omega
   ·have:=(h.own γ hg g1).bV;rw[g3]at this;have:=this.2.1;omega
  ·have:=n6 w (.cells (a.eval x).cells t);rw[mr this (by rw[mM];simp),mM];rfl
 obtain⟨h1,h2,h3,hK⟩:=hv;have hr:=s9 h hx (fun O aj=>aj) h1;obtain⟨r1,r2⟩:=hr.aa3 h2;obtain⟨hs,he⟩:=(h.freeze px.refs).JN d (AU ao) ⟨n,t,[Qr hp px],false⟩ (a.eval x).cells 1 _ (.inl rfl) r1 (by simp) (by rw[ni];omega) h3
  (fun i y hy=>by
   match i,hy with
   |0,hy=>simp at hy;subst hy;exact⟨h2,h1⟩
   |i+1,hy=>simp at hy) r2
 refine js (v:=.pointer (some ⟨w.heap.size,0,none⟩)) (w':=w.alloc (.cells (a.eval x).cells t)) ?_ (cY.mo hd ao aZ hs (fun _=>he) Tc hK);unfold execOp;simp only[ho,Instr.box,newVar,newRow];simp
theorem Q3z{o:Oper}{t:TypeId}{n:Nat}{ti:TypeInfo}{zv:Value}{z:PV}{d:Nat}{Q:Exit->Act->World->Prop}(ho:o.op= .alloc t)(hd:o.dst=some d)(ao:d<C.N)(aZ:a.defers=[])(h:Qt C ρ fr hp a.tmps w)
  (i1:C.P.info? t=some ti) (i2:ti.zero=some zv) (hz:uF zv=some z) (hv:fQ n t z d fr hp K):o.wp C.P a w (cY C true w K) Q:=by
 unfold fQ at hv;split at hv
 ·exact absurd (GO hz).1 (by simp[PV.aG])
 split at hv
 ·rename_i O o' m hm;have hd:=(GO hz).1;cases z with
  |ax=>simp[PV.aG]at hd
  |_=>cases hm
 obtain⟨h1,h2,h3,hK⟩:=hv;have hr:=s9 (C:=C) (ρ:=ρ) (hp:=hp) h (Qk.mZ (uA (w:=w) hz)) (fun O aj=>aj) h1;obtain⟨r1,r2⟩:=hr.aa3 h2;obtain⟨hs,he⟩:=(h.freeze z.refs).JN d (AU ao) ⟨n,t,[Qr hp z],false⟩ zv.cells 1 _ (.inl rfl) r1 (by simp) (by rw[ni];omega) h3
  (fun i y hy=>by
   match i,hy with
   |0,hy=>simp at hy;subst hy;exact⟨h2,h1⟩
   |i+1,hy=>simp at hy) r2
 refine js (v:=.pointer (some ⟨w.heap.size,0,none⟩)) (w':=w.alloc (.cells zv.cells t)) ?_ (cY.mo hd ao aZ hs (fun _=>he) Tc hK);unfold execOp;simp only[ho,Instr.alloc,Kal,xQ i1 i2,Kaj,newVar,newRow];simp
theorem Pk{i e j:Nat}(hj:j<e):(i*e+j)%e=j:=by rw[Kb2,Nat.add_mul_mod_self_right,KaO hj]
theorem agr{i e j:Nat}(hj:j<e):(i*e+j)/e=i:=by rw[Kb2,Nat.add_mul_div_right _ _ (by omega),Kcy hj,Ka1]
theorem Qw6{z:Array Value}{n k:Nat}(hk:k<n)(hz:0<z.size):(madeCells z n).getD k undef=z.getD (k%z.size) undef:=by have h1:k%z.size<z.size:=KbC _ hz;simp[madeCells,Array.getD,hk,h1]
theorem Td{d:Nat}{hb:HB}{n cap:Nat}{w':World}{cur:Array Value}(hle:n<=hb.xs.length)(aum:w'.heap[w.heap.size]? =some (.cells cur hb.ty (0,0)))(hs:cur.size=cap*hb.e)(hm:cap<=maxLen):
  Qk C (rb ρ d (some w.heap.size)) (Qj hp d hb) w' (.ms d n) (.slice (some ⟨w.heap.size,0,none⟩) n cap):=
 ⟨hb,by simp[Qj],by omega,.inr ⟨w.heap.size,cap,ij _ _ _,by simp,⟨cur,hb.ty,aum,by rw[Ka1];exact hs⟩,by omega⟩⟩
theorem ags{o:Oper}{t e:TypeId}{n by_:Nat}{z:PV}{l c:Operand}{pl pc:PV}{d:Nat}{Q:Exit->Act->World->Prop}(ho:o.op= .makeSlice t l c)(hd:o.dst=some d)(ao:d<C.N)(aZ:a.defers=[])(h:Qt C ρ fr hp a.tmps w)
  (hu:C.P.underlying t=some (.slice e)) (hz:ln C.P e=some (n,by_,z)) (hl:Qk C ρ hp w pl (a.eval l)) (hc:Qk C ρ hp w pc (a.eval c)) (hv:o6 n by_ e z pl pc d fr hp K):o.wp C.P a w (cY C true w K) Q:=by
 unfold o6 at hv;split at hv
 ·rename_i kl L kc Cc;obtain⟨h0,h1,h2,h3,h4,h5,hK⟩:=hv;obtain⟨ti,zv,i1,i2,i3,i4,i5⟩:=uG hz;have el:=hl.lK;have ec:=hc.lK;have qU:=(uA (w:=w) (X:=aI C ρ hp) i5).cells;have vR:zv.cells.size=n:=by rw[qU.1];exact h1
  have bQ:=run_make (P:=C.P) w t e ti zv hu i1 i2 kl kc L Cc h2 h3 (by rw[i4];exact h4) h5;rw[i3]at bQ;obtain⟨hs,he⟩:=h.JN d (AU ao) ⟨n,e,List.replicate L.toNat z,false⟩ (madeCells zv.cells (Cc.toNat*n)) Cc.toNat _ (.inl rfl) (size_madeCells _ _) (by simp;omega) (by rw[ni];omega) h0
   (fun i x hx=>by have aX:=Kai hx;obtain rfl:=(List.mem_replicate.1 aX).2;exact⟨h1,(GO i5).1⟩)
   (fun i x hx j y hy=>by
    have hi:i<L.toNat:=by have:=(Kaf.1 hx).1;simpa using this
    obtain rfl:=(List.mem_replicate.1 (Kai hx)).2;have hj:j<n:=by have:=(Kaf.1 hy).1;omega
    have za:i*n+0+j<Cc.toNat*n:=oc (by omega) (by omega:0+n<=n) hj;rw[Qw6 (by omega) (by omega),vR,Pk hj];exact qU.2 j y hy)
  refine js (v:=.slice (some ⟨w.heap.size,0,none⟩) L.toNat Cc.toNat) ?_ (cY.mo hd ao aZ hs (fun _=>he) (Td (by simp) (n6 w _) (size_madeCells _ _) (by rw[ni];omega)) hK);unfold execOp;simp only[ho,el,ec,Kal,bQ,Kaj];rfl
 ·exact hv.elim
end Go.FW
