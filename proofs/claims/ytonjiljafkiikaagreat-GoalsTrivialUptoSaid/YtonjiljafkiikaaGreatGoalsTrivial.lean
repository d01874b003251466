/- facts that hold by their arguments have polynomials that are all 0 (arguments of bulk at most 1048576). -/
import Derived.Test.YtonjiljafkiikaaGreatGoalsTrivialPart13
import Derived.Laws.RangeString
import Derived.Laws.RangeAny
import Derived.Lib.OthersKept
import Derived.LoopTactic
set_option maxHeartbeats 1000000
set_option linter.unusedSimpArgs false
set_option linter.unusedVariables false
set_option linter.unnecessarySimpa false
set_option maxRecDepth 100000
namespace Go.Proofs.YtonjiljafkiikaaGreat
open Go Go.FW
def nH:List cB:=[⟨1,⟨#[65]⟩,[],false,[],[]⟩,⟨1,⟨#[66]⟩,[],false,[],[]⟩,⟨1,⟨#[67]⟩,[],false,[],[]⟩]
def oM:List Cd:=[([],[]),(bV 0,[]),(bV 1,bV 2)]
theorem Cq:Raw 1048576 false [] []:=⟨fun x h=>(by cases h),fun x h=>(by cases h),KbE _,KbE _,by decide⟩
theorem Ty:∀s∈nH,oH s:=fun s h=>by simp only[nH,KaH,Kbc,or_false]at h;rcases h with rfl|rfl|rfl<;>exact⟨by decide,by decide,Cq⟩
abbrev Zy(s:ByteArray):cB:=⟨1,s,[],false,[],[]⟩
theorem rM{i:Nat}{s:ByteArray}:ou i (Zy s):=⟨show 0<=eR 1 by decide,show(0:Int)=eR 1 by decide,fun a h=>(by cases h),show fX false [] []=true by decide⟩
theorem FR:rP nH []:=⟨fun i h=>by
 match i,h with
 |0,_=>exact rM
 |1,_=>exact rM
 |2,_=>exact rM
 |i+3,h=>have:i+3<3:=h;omega,fun g h=>(by cases h),by decide⟩
theorem CA(c:UInt8)(h:m4 c.toNat=true)(hk:ll.all (fun k=>decide (k≠⟨#[c]⟩))=true):Nm ⟨#[c]⟩:=⟨Nat.zero_lt_one,by show 1<=20;decide,fun i h'=>by
 obtain rfl:i=0:=by have:i<1:=h';omega
 exact h,fun k hm e=>by
 have:=KaB.1 hk k hm;rw[decide_eq_true_eq]at this;exact this e.symm⟩
theorem PK:Cn nH []:=⟨FR,fun i h=>by
 match i,h with
 |0,_=>exact⟨rM,.inr ⟨CA 65 (by decide) (by decide+kernel),fun j _ h=>by omega⟩⟩
 | 1,_=>exact⟨rM,.inr ⟨CA 66 (by decide) (by decide+kernel),fun j hj h=>by
   match j,hj,h with
   |0,_,_=>show(⟨#[65]⟩:ByteArray)≠⟨#[66]⟩;decide+kernel⟩⟩
 | 2,_=>exact⟨rM,.inr ⟨CA 67 (by decide) (by decide+kernel),fun j hj h=>by
   match j,hj,h with
   |0,_,_=>show(⟨#[65]⟩:ByteArray)≠⟨#[67]⟩;decide+kernel
   |1,_,_=>show(⟨#[66]⟩:ByteArray)≠⟨#[67]⟩;decide+kernel⟩⟩
 |i+3,h=>have:i+3<3:=h;omega,by decide⟩
theorem TA:xF nH []:=⟨FR,by decide,by decide,⟨by decide+kernel,fun g h=>(by cases h)⟩,fun s h=>by simp only[nH,KaH,Kbc,or_false]at h;rcases h with rfl|rfl|rfl<;>exact⟨by decide,by decide⟩,fun g h=>(by cases h)⟩
theorem VG:(bo nH nH.length).1=oM:=by decide+kernel
theorem VH:∀c∈oM,CB c:=fun c h=>by
 have v:∀m:Nat,PQ 256 (2^17) 100 (bV m):=fun m=>(PQ.var (v:=m)).mono (by omega) (by omega) (by omega);simp only[oM,KaH,Kbc,or_false]at h;rcases h with rfl|rfl|rfl
 ·exact⟨.nil,.nil⟩
 ·exact⟨v 0,.nil⟩
 ·exact⟨v 1,v 2⟩
theorem zc{k:Int}{l:List Int}(hl:l.length<100)(h6:k≠6)(h7:k≠7)(h9:k≠9):Cz oM ⟨k,l,false,[],[]⟩:=
 ⟨⟨by show l.length<_;omega,Cq⟩,by decide,VH,fun _ h=>(h.elim (fun h=>absurd h h6) fun h=>absurd h h7),fun _ h=>absurd h h9⟩
theorem W7:iH oM ⟨1,[0,1,2],false,[],[]⟩=([bU (bV 0) (bV 2)],0):=by decide+kernel
theorem W8:iH oM ⟨8,[2,2],false,[],[]⟩=([[],[]],0):=by decide+kernel
theorem W9:iH oM ⟨8,[2,3],false,[],[]⟩=([],2):=by decide+kernel
theorem TC{k:Int}{l:List Int}:PV.le (.agg [.int .i64 k,PV.mono l,.bool false,.aa,.aa]) (PV.jg ⟨k,l,false,[],[]⟩):=⟨rfl,rfl,rfl,trivial,trivial,trivial⟩
theorem oc{f:FuncId}{k:Int}{l:List Int}{q:PV}{R:PV->Prop}(h:Qd Tryz.prog f [PV.jg ⟨k,l,false,[],[]⟩,q] R):Qd Tryz.prog f [.agg [.int .i64 k,PV.mono l,.bool false,.aa,.aa],q] R:=h.le ⟨TC,cf _,trivial⟩
def cT(s:ByteArray):PV:=.agg [.int .i64 1,.str s,.aa,.bool false,.aa,.aa]
theorem zd{s:ByteArray}:qc (cT s).cells (PV.mu ⟨1,s,[],false,[],[]⟩).cells:=.cons (.rfl _) (.cons (.rfl _) (.cons (.nil _) (.cons (.rfl _) (.cons (.nil _) (.cons (.nil _) .nil)))))
theorem Zw{f:FuncId}{R:PV->Prop}(h:Qd Tryz.prog f [PV.fp nH []] R):Qd Tryz.prog f [.agg [.sl 6 [cT ⟨#[65]⟩,cT ⟨#[66]⟩,cT ⟨#[67]⟩],.aa]] R:=
 Qd.n1 (ls:=[]) (bs:=[]) h (.cons (.sl _ (.cons zd (.cons zd (.cons zd .nil)))) (.cons (.nil _) .nil))
def c9:aw:=⟨84,[.t 0],Zr (Zo (.mv 0 (.c (.bool false))) .nil)<|Zr (Zo (.cc 10 [Zz 0,.str ⟨#[]⟩,.aa,.bool false,.aa,.aa] [(0,1,.c (Zz 1)),(1,1,.c (.str ⟨#[0x41]⟩))])<|
 Zo (.cc 11 [Zz 0,.str ⟨#[]⟩,.aa,.bool false,.aa,.aa] [(0,1,.c (Zz 1)),(1,1,.c (.str ⟨#[0x42]⟩))])<|
 Zo (.cc 12 [Zz 0,.str ⟨#[]⟩,.aa,.bool false,.aa,.aa] [(0,1,.c (Zz 1)),(1,1,.c (.str ⟨#[0x43]⟩))])<|
 Zo (.bs 13 6 76 [.t 10,.t 11,.t 12])<|
 .wk<|Zo (.cc 14 [.aa,.aa] [(0,1,.t 13)])<|
 Zo (.alloc 1 2 25 (.agg [.aa,.aa]))<|
 Zs 2 1 14 .nil)<|Zr (Zh 16 2 1<|
 Zq 17 false 10 [.t 16]<|
 Zm 15 17<|
 Zo (.ext 18 (.t 15) 0)<|
 Zo (.ext 19 (.t 15) 1)<|
 Zo (.alloc 2 2 43 (.agg [.aa,.aa]))<|
 Zs 2 2 18<|
 Zm 3 19 .nil)<|Zr (Zo (.bs 21 1 3 [.c (Zz 0),.c (Zz 1),.c (Zz 2)])<|
 .wk<|Zo (.cc 22 [Zz 0,.aa,.bool false,.aa,.aa] [(0,1,.c (Zz 1)),(1,1,.t 21)])<|
 Zh 23 2 2<|
 Zq 24 false 11 [.t 22,.t 23]<|
 Zm 20 24<|
 Zo (.ext 25 (.t 20) 0)<|
 Zo (.ext 26 (.t 20) 1)<|
 Zm 4 25<|
 Zm 5 26 .nil)<|Zr (Zo (.bs 28 1 3 [.c (Zz 2),.c (Zz 2)])<|
 .wk<|Zo (.cc 29 [Zz 0,.aa,.bool false,.aa,.aa] [(0,1,.c (Zz 8)),(1,1,.t 28)])<|
 Zh 30 2 2<|
 Zq 31 false 11 [.t 29,.t 30]<|
 Zm 27 31<|
 Zo (.ext 32 (.t 27) 0)<|
 Zo (.ext 33 (.t 27) 1)<|
 Zm 6 32<|
 Zm 7 33 .nil)<|Zr (Zo (.bs 35 1 3 [.c (Zz 2),.c (Zz 3)])<|
 .wk<|Zo (.cc 36 [Zz 0,.aa,.bool false,.aa,.aa] [(0,1,.c (Zz 8)),(1,1,.t 35)])<|
 Zh 37 2 2<|
 Zq 38 false 11 [.t 36,.t 37]<|
 Zm 34 38<|
 Zo (.ext 39 (.t 34) 0)<|
 Zo (.ext 40 (.t 34) 1)<|
 Zm 8 39<|
 Zm 9 40 .nil)<|Zr (Zm 41 5<|
 Zk 42 .eql 41 0<|
 Zm 43 42<|
 Zg 43 true (.mv 44 (.t 4))<|
 Zg 43 true (.len 45 (.t 44))<|
 Zg 43 true (.bin 46 .eql false (.t 45) (.c (Zz 1)))<|
 Zo (.pick 47 (.t 43) (.t 46) (.c (.bool false)))<|
 Zm 48 47<|
 Zg 48 true (.mv 49 (.t 4))<|
 Zg 48 true (.idx 50 1 (.t 49) (.c (Zz 0)))<|
 Zg 48 true (.ld 51 1 false (.t 50))<|
 Zg 48 true (.call (some 52) true (.c (.fn 27 [] [])) [.c (Zz 0)])<|
 Zg 48 true (.call (some 53) true (.c (.fn 27 [] [])) [.c (Zz 2)])<|
 Zg 48 true (.call (some 54) true (.c (.fn 26 [] [])) [.t 52,.t 53])<|
 Zg 48 true (.call (some 55) true (.c (.fn 13 [] [])) [.t 51,.t 54])<|
 Zo (.pick 56 (.t 48) (.t 55) (.c (.bool false)))<|
 Zm 57 56<|
 Zg 57 true (.mv 58 (.t 7))<|
 Zg 57 true (.bin 59 .eql false (.t 58) (.c (Zz 0)))<|
 Zo (.pick 60 (.t 57) (.t 59) (.c (.bool false)))<|
 Zm 61 60<|
 Zg 61 true (.mv 62 (.t 6))<|
 Zg 61 true (.len 63 (.t 62))<|
 Zg 61 true (.bin 64 .eql false (.t 63) (.c (Zz 2)))<|
 Zo (.pick 65 (.t 61) (.t 64) (.c (.bool false)))<|
 Zm 66 65<|
 Zg 66 true (.mv 67 (.t 6))<|
 Zg 66 true (.idx 68 1 (.t 67) (.c (Zz 0)))<|
 Zg 66 true (.ld 69 1 false (.t 68))<|
 Zg 66 true (.len 70 (.t 69))<|
 Zg 66 true (.bin 71 .eql false (.t 70) (.c (Zz 0)))<|
 Zo (.pick 72 (.t 66) (.t 71) (.c (.bool false)))<|
 Zm 73 72<|
 Zg 73 true (.mv 74 (.t 6))<|
 Zg 73 true (.idx 75 1 (.t 74) (.c (Zz 1)))<|
 Zg 73 true (.ld 76 1 false (.t 75))<|
 Zg 73 true (.len 77 (.t 76))<|
 Zg 73 true (.bin 78 .eql false (.t 77) (.c (Zz 0)))<|
 Zo (.pick 79 (.t 73) (.t 78) (.c (.bool false)))<|
 Zm 80 79<|
 Zg 80 true (.mv 81 (.t 9))<|
 Zg 80 true (.bin 82 .neq false (.t 81) (.c (Zz 0)))<|
 Zo (.pick 83 (.t 80) (.t 82) (.c (.bool false)))<|
 Zm 0 83 .nil) .ret⟩
theorem Xa:Qe Tryz.prog Tryz.f9=some c9.strip:=by kernel_rfl
theorem pH(hN:pG):Qd Tryz.prog 9 [] (· = .bool true):=by
 have hO:=Zw (LC hN TA (by decide) (by decide) Ty (fun g h=>(by cases h)));have h1:=fun vs=>oc (og (vs:=vs) (zc (k:=1) (l:=[0,1,2]) (by decide) (by decide) (by decide) (by decide)));have h2:=fun vs=>oc (og (vs:=vs) (zc (k:=8) (l:=[2,2]) (by decide) (by decide) (by decide) (by decide)));have h3:=fun vs=>oc (og (vs:=vs) (zc (k:=8) (l:=[2,3]) (by decide) (by decide) (by decide) (by decide)));rw[W7]at h1;rw[W8]at h2;rw[W9]at h3;have v0:Qd Tryz.prog 27 [.int .i64 0] (· =PV.aC (bV 0)):=Bc (v:=0) (by omega);have v2:Qd Tryz.prog 27 [.int .i64 2] (· =PV.aC (bV 2)):=Bc (v:=2) (by omega);have hm:=FD (PQ.var (v:=0)) (PQ.var (v:=2)) (by omega) (by omega) (by omega);have pm:=(PQ.var (v:=0)).mul (PQ.var (v:=2));have he:=Xw pm.b pm.b (by omega) (by omega) (by have:=pm.l;omega) (by have:=pm.l;omega);rw[decide_eq_true rfl]at he;have e0:((0:Nat):Int)=0:=rfl;generalize bU (bV 0) (bV 2)=M at *
 generalize bV 0=V0 at *
 generalize bV 2=V2 at *
 have sc:∀s,(PV.str s).cells=[.str s]:=fun _=>rfl;refine BD Qk Tryz.func9 rfl Xa (by simp[c9]) fun C hP=>?_;simp only[c9,Zo,Zg,Zm,Zc,Zf,Zl,Zh,Zs,Zi,Zb,Zk,Zn,Zu,Zq,Zr,Zz];refine Sz1 sc ?_;rw[lF rfl (fun p hp=>by simp only[KaH,Kbc,or_false]at hp;rcases hp with rfl|rfl|rfl<;>rfl) (by omega)];refine Sz0 ?_;refine cq (lG 13 ie) ?_;refine cC ?_;refine gW hP hO rfl rfl rfl ?_;rintro _ ⟨cs,vs,e,rfl,q1,q2⟩;obtain rfl:e=0:=q2 PK;obtain⟨rfl,-⟩:=q1 rfl;rw[VG];generalize oM=C0 at *
 refine cC ?_;rw[lF rfl (fun p hp=>by simp only[KaH,Kbc,or_false]at hp;rcases hp with rfl|rfl|rfl<;>rfl) (by omega)];refine cC ?_;refine cq (lG 21 ie) ?_;refine cC ?_;refine Qa hP (h1 vs) rfl rfl rfl ?_;refine cC ?_;refine cq (lG 28 ie) ?_;refine cC ?_;refine Qa hP (h2 vs) rfl rfl rfl ?_;refine cC ?_;refine cq (lG 35 ie) ?_;refine cC ?_;refine Qa hP (h3 vs) rfl rfl rfl ?_;refine cC ?_
 repeat' first
  |refine iE ?_ ?_
  |refine Qa hP v0 rfl rfl rfl ?_
  |refine Qa hP v2 rfl rfl rfl ?_
  |refine Qa hP hm rfl rfl rfl ?_
  |refine Qa hP he rfl rfl rfl ?_
  |simp+decide (disch:=try exact E0) only[go_sem,eG,Kaw,KaF,Kay,KaI,Kan]
 all_goals
  refine oo (Wk.refl _ _) ?_;refine Sz0 ?_;exact Qc rfl rfl
set_option maxHeartbeats 1000000 in
theorem Hx(n:Nat)(w:World):Calls Tryz.prog 142 #[.int .u8 n] w fun e w'=>e= .returned (.bool (m4 n))/\Ext bO w w':=by
 refine((Mz (n:=n)).2 w bO #[.int .u8 n] (fun _ h=>h.elim) rfl (fun i x hx=>?_)).mono fun e w' h=>?_
 ·match i,hx with
  |0,hx=>simp at hx;subst hx;exact Qo.int _ _
  |i+1,hx=>simp at hx
 ·obtain⟨v,r,rfl,h1,h2,rfl⟩:=h;cases h2;exact⟨rfl,h1⟩
theorem Oh(n:Nat)(w:World):Calls Tryz.prog 143 #[.int .u8 n] w fun e w'=>e= .returned (.bool (xQ n))/\Ext bO w w':=by
 refine((Oc (n:=n)).2 w bO #[.int .u8 n] (fun _ h=>h.elim) rfl (fun i x hx=>?_)).mono fun e w' h=>?_
 ·match i,hx with
  |0,hx=>simp at hx;subst hx;exact Qo.int _ _
  |i+1,hx=>simp at hx
 ·obtain⟨v,r,rfl,h1,h2,rfl⟩:=h;cases h2;exact⟨rfl,h1⟩
theorem X7(w:World):Calls Tryz.prog 144 #[] w fun e w'=>∃b off cap,e= .returned (.slice (some ⟨b,off,none⟩) 29 cap)/\Ext bO w w'/\∀i,i<29->∃k∈ll,w'.cell? ⟨b,off+i,none⟩=some (.string k):=by
 refine(X6.2 w bO #[] (fun _ h=>h.elim) rfl (fun i x hx=>by simp at hx)).mono fun e w' h=>?_;obtain⟨v,r,rfl,h1,h2,rfl⟩:=h;have iP:Qo w' bO (.sl 1 (ll.map PV.str)) v:=h2;cases iP with
 |sl _ _ b off cap vs hX hb hl hc he hv hr=>
  refine⟨b,off,cap,rfl,h1,fun i hi=>?_⟩;have hlen:(ll.map PV.str).length=29:=rfl;have uQ:i<ll.length:=hi;have hg:(ll.map PV.str)[i]? =some (.str ll[i]):=by rw[Kap,Kaf uQ];rfl
  have h3:=hv i (by omega) 0 (by omega);have h4:=hr i _ hg 0 _ rfl;generalize vs i 0=u at h3 h4;cases h4;exact⟨ll[i],Kao _,by rw[<-h3];simp⟩
theorem Oi(s:ByteArray)(pos:Nat)(h:pos<s.size):1<=(Utf8.decode s pos).2:=by
 by_cases ha:(s[pos]'h).toNat<128
 ·rw[decode_ascii s pos h ha];exact Kae _
 ·exact(decode_high s pos h (by omega)).2
theorem PL{w wr:World}(h:Ext bO w wr)(s:ByteArray)(p:Nat):Ext bO w (wr.iter s p):=h.trans (Ext.alloc wr _ _)
theorem MD{w wr:World}(h:Ext bO w wr){b:Nat}(hb:w.heap.size<=b)(s:ByteArray)(p:Nat):Ext bO w (wr.iterAt b s p):=
 ⟨h.os,h.tape,h.output,by rw[Lib.iterAt_size];exact h.size,fun c hc hn=>by rw[Lib.iterAt_other _ _ _ _ _ (by omega)];exact h.block c hc hn⟩
theorem VI{s k:ByteArray}(h:s.toList=k.toList):s=k:=by rw[Kck,Kck]at h;cases s;cases k;exact congrArg _ (Array.toList_inj.1 h)
theorem F8{s:ByteArray}(h:Nm s):¬s.toList=[]:=fun e=>by have:=h.p;have h2:=congrArg List.length e;rw[Kck,Kb9]at h2;have:s.size=0:=h2;omega
theorem VJ{s:ByteArray}(h:Nm s)(h0:0<s.size):¬((s.toList.isEmpty=true∨(20:Int)<s.size)∨(!m4 (s[0]'h0).toNat)=true):=by
 rintro((e|e)|e)
 ·exact F8 h (List.isEmpty_iff.1 e)
 ·have:=h.l;omega
 ·rw[h.a 0 h0]at e;cases e
set_option maxHeartbeats 2000000 in
theorem X8 (s:ByteArray) (hs:s.size<2^40) (w:World):Calls Tryz.prog 106 #[.string s] w fun e w'=>∃b,e= .returned (.bool b)/\Ext bO w w'/\(Nm s->b=true):=by
 go_enter Tryz.func106,Tryz.ntmps106
 go_wp2_with (go_at_call 142;refine(Hx _ _).mono ?_;rintro e w2 ⟨rfl,hx⟩)
 all_goals try (go_ret;first|exact⟨_,rfl,Ext.refl _ _,fun hn=>absurd (by assumption) (F8 hn)⟩|exact⟨_,rfl,by assumption,fun hn=>absurd (by assumption) (VJ hn _)⟩|exact .inl ⟨rfl,Ext.refl _ _,fun hn=>absurd hn.l (by omega)⟩)
 rotate_left
 ·exfalso;have h1:¬s.toList=[]:=by assumption
  have h2:¬0<s.size:=by assumption
  refine h1 (Kas.1 ?_);rw[Kck];simp only[Kb9];show s.size=0;omega
 rename_i r1 r2 r3 r4 r5 r6;clear r1 r2 r4;generalize s.toList.isEmpty=b0;generalize decide (20<(s.size:Int))=b1;generalize m4 (s[0]'r3).toNat=b2
 go_loopw [3] (fun v wr=>∃pos,wr.heap[w2.heap.size]? =some (.stringIter s pos)/\Ext bO w wr) (fun _ wr=>s.size-wr.iterPos w2.heap.size)
 case atStart=>exact⟨0,World.iter_heap w2 s 0,PL hx s 0⟩
 case round=>
  have yE:=hx.size;obtain⟨pos,uR,hE⟩:=hrel;have hip:wr.iterPos w2.heap.size=pos:=by simp[World.iterPos,uR]
  have ZI:w2.heap.size<wr.heap.size:=(Kbq.1 uR).1;by_cases hp:pos<s.size
  ·have iY:∀ty,(Instr.next (.pointer (some ⟨w2.heap.size,0,none⟩)) true ty).run Tryz.prog wr=_:=fun ty=>Lib.run_next_any_at wr w2.heap.size s pos ty uR hp;have hwd:=Oi s pos hp;obtain⟨wd,abF⟩:∃wd,(Utf8.decode s pos).2=wd:=⟨_,rfl⟩
   rw[abF]at iY hwd;have uS:=Lib.iterAt_heap wr w2.heap.size s pos (pos+wd) uR;have ya:=MD hE yE s (pos+wd);obtain⟨W1,DP⟩:∃W1,W1=wr.iterAt w2.heap.size s (pos+wd):=⟨_,rfl⟩
   have xZ:w2.heap.size<W1.heap.size:=by rw[DP,Lib.iterAt_size];exact ZI
   rw[<-DP]at iY uS ya;clear DP
   go_wp2_with (first|(go_at_call 142;refine(Hx _ _).mono ?_;rintro e w3 ⟨rfl,ml⟩)|(go_at_call 143;refine(Oh _ _).mono ?_;rintro e w4 ⟨rfl,K6⟩))
   ·go_roundw
    case rel=>exact⟨pos+wd,(ml.block _ xZ id).trans uS,ya.trans ml⟩
    case measure=>
     have:w3.iterPos w2.heap.size=pos+wd:=by simp[World.iterPos,(ml.block _ xZ id).trans uS]
     omega
   ·go_ret
    refine⟨_,rfl,(ya.trans ml).trans K6,fun hn=>?_⟩;exact absurd (hn.a pos hp) (by assumption)
   ·have vl:=ml.trans K6
    go_roundw
    case rel=>exact⟨pos+wd,(vl.block _ xZ id).trans uS,ya.trans vl⟩
    case measure=>
     have:w4.iterPos w2.heap.size=pos+wd:=by simp[World.iterPos,(vl.block _ xZ id).trans uS]
     omega
  ·have iY:∀ty,(Instr.next (.pointer (some ⟨w2.heap.size,0,none⟩)) true ty).run Tryz.prog wr=_:=fun ty=>Lib.run_next_end_at wr w2.heap.size s pos ty uR hp
   go_wp2_with (go_at_call 144;refine(X7 _).mono ?_;rintro e w5 ⟨bk,ok,ck,rfl,vl,hk⟩)
   have cM:=hE.trans vl
   go_loopw [38] (fun v wr=>∃i:Nat,v= .int .i64 i/\i<=29/\wr=w5) (fun v _=>29-(Go.RowKit.intOf v).toNat)
   case atStart=>exact⟨0,rfl,by omega,rfl⟩
   case round=>
    obtain⟨i,rfl,hi,rfl⟩:=hrel;by_cases lW:i<29
    ·obtain⟨k,hkm,hck⟩:=hk i lW;have kq:(i:Int)<29:=by omega
     go_wp2
     ·go_ret
      refine⟨_,rfl,cM,fun hn=>?_⟩;exact absurd (VI (eq_of_beq (by assumption))) (hn.k k hkm)
     ·have hwr:IntKind.i64.wrap ((i:Int)+1)=((i+1:Nat):Int):=by rw[IntKind.wrap_i64];omega
      refine fk (v:=.int .i64 ((i+1:Nat):Int)) (w':=wr) ?_ ?_
      ·unfold execOp;simp[Act.eval,eqGuard,binOp,Op.intArith,hwr]
       try trace_state
      ·rename_i ka kb;refine kb _ _ ?_
       go_wp2
       refine fk (v:=.int .i64 ((i+1:Nat):Int)) (w':=wr) ?_ ?_
       ·unfold execOp;simp[Act.eval,Act.put]
        try trace_state
       ·rename_i kc kd;refine kd _ _ ?_
        go_wp2
        refine⟨?_,?_⟩
        ·repeat apply Exists.intro
         refine⟨⟨i+1,rfl,by omega,trivial⟩,rfl⟩
        ·show 29-(Go.RowKit.intOf (.int .i64 ((i+1:Nat):Int))).toNat<29-(Go.RowKit.intOf (.int .i64 (i:Int))).toNat;simp only[Go.RowKit.intOf,KbU];omega
    ·have kq:¬(i:Int)<29:=by omega
     go_wp2
     go_ret
     first|exact⟨.inr rfl,cM⟩|exact .inr ⟨rfl,cM⟩
theorem ME(s:ByteArray)(hs:s.size<2^40):Qd Tryz.prog 106 [PV.str s] (fun r=>∃b,r= .bool b/\(Nm s->b=true)):=by
 refine⟨by unfold kQ;kernel_rfl,fun w X aQ hX hl ha=>?_⟩;have h0:=ha 0 (.str s) rfl;obtain⟨v,rfl⟩:∃v,aQ= #[v]:=by
  obtain⟨l⟩:=aQ
  match l,hl with
  | [v],_=>exact⟨v,rfl⟩
 have h1:Qo w X (.str s) v:=h0;cases h1;refine(X8 s hs w).mono fun e w' h=>?_;obtain⟨b,rfl,h2,h3⟩:=h;exact⟨_,.bool b,rfl,h2,Qo.bool b,b,rfl,h3⟩
theorem PM:pG:=fun s hs=>ME s hs
theorem m9{p:List Tm}(h:bu p):b6 p p=[]:=nj (oe h h) bu.nil fun φ=>by rw[BT φ h.c h,jW];grind
theorem nb{p:List Tm}(h:bu p):bu (gH p):=wo h.s _
theorem wJ{p q:List Tm}(hp:bu p)(hq:bu q):b6 p q=gH (b6 q p):=
 nj (oe hp hq) (nb (oe hq hp)) fun φ=>by rw[BT φ hp.c hq,rq φ (oe hq hp).c,BT φ hq.c hp];grind
theorem wP{p q:List Tm}(hp:bu p)(hq:bu q):bU p (gH q)=gH (bU p q):=
 nj (nh hp.s (nb hq).s) (nb (nh hp.s hq.s)) fun φ=>by rw[tI,rq φ (nh hp.s hq.s).c,tI,ob (ψ:=fun m=>(-1)*b9 (fun n=>φ (cH m n)) q) fun t _=>by rw[rq _ hq.c];grind,BS];grind
theorem PN{p:List Tm}(hp:bu p):gH (gH p)=p:=nj (nb (nb hp)) hp fun φ=>by rw[rq φ (nb hp).c,rq φ hp.c];grind
theorem TD{p q:List Tm}(hp:bu p)(hq:bu q):bU (gH p) q=gH (bU p q):=by rw[BB (nb hp) hq,wP hq hp,BB hq hp]
theorem FT{p:List Tm}(hp:bu p):bU (gH p) (gH p)=bU p p:=by rw[wP (nb hp) hp,TD hp hp,PN (nh hp.s hp.s)]
variable {a b : Cd}
theorem aco(ha:CB a)(hb:CB b):kL a a a b=[]:=by unfold kL;rw[m9 ha.x.n,m9 ha.y.n,wq,wq];exact m9 bu.nil
theorem acq(ha:CB a)(hb:CB b):eI a a a b=[]:=by unfold eI;rw[m9 ha.x.n,m9 ha.y.n,wq,wq];decide+kernel
theorem acp(ha:CB a)(hb:CB b):kL a b b a=[]:=by have u:=oe hb.x.n ha.x.n;have v:=oe hb.y.n ha.y.n;unfold kL;rw[wJ ha.y.n hb.y.n,wJ ha.x.n hb.x.n,wP u v,wP v u,BB v u];exact m9 (nb (nh u.s v.s))
theorem acr(ha:CB a)(hb:CB b):b6 (eI a b a b) (eI b a b a)=[]:=by
 have u:=oe hb.x.n ha.x.n;have v:=oe hb.y.n ha.y.n;have e:eI b a b a=eI a b a b:=by unfold eI;rw[wJ ha.y.n hb.y.n,wJ ha.x.n hb.x.n,FT u,FT v]
 rw[e];exact m9 (w9 ha hb ha hb).n
def pT(x y:Int):List cI:=[⟨1,[x,x,y],false,[],[]⟩,⟨8,[x,x],false,[],[]⟩,⟨4,[x,y,y,x],false,[],[]⟩,⟨2,[x,y,y,x],false,[],[]⟩,⟨3,[x,x,x,y],false,[],[]⟩]
def F9(Q:List (List Tm)×Int):Prop:=Q.2=0/\(∀p∈Q.1,p=[])/\0<Q.1.length/\Q.1.length<=2
theorem Oj{cs:List Cd}{x y:Int}(hc:∀c∈cs,CB c)(hx:0<=x/\x<cs.length)(hy:0<=y/\y<cs.length):∀f∈pT x y,F9 (iH cs f):=by
 have hz:fX false [] []=true:=by decide
 have ge:∀z:Int,0<=z/\z<cs.length->CB (cs.getD z.toNat ([],[])):=fun z hz=>by rw[Kad,Kaf (show z.toNat<cs.length by omega)];exact hc _ (Kao _)
 have ha:=ge x hx;have hb:=ge y hy;obtain⟨A,hA⟩:∃A,cs.getD x.toNat ([],[])=A:=⟨_,rfl⟩
 obtain⟨B,hB⟩:∃B,cs.getD y.toNat ([],[])=B:=⟨_,rfl⟩
 rw[hA]at ha;rw[hB]at hb;have key:∀(k:Int)(l:List Int),cD k≠0->(l.length:Int)=cD k->k≠9->(∀z∈l,z=x∨z=y)->∀ps,eP k (fun i=>(ca cs l).getD i ([],[])) (rv false [] [])=ps->(∀p∈ps,p=[])->0<ps.length/\ps.length<=2->F9 (iH cs ⟨k,l,false,[],[]⟩):=by
  intro k l h0 hl h9 hm ps he hp hn;have hr:dF ⟨k,l,false,[],[]⟩ cs.length=0:=by rw[za h0 hl (fun j hj=>by have:=hm _ (Kao hj);rcases this with e|e<;>rw[e]<;>omega)];simp[h9,hz]
  unfold iH;rw[if_pos hr];simp only;rw[he,if_neg (by rw[Bool.not_eq_true,Kco];intro p hpm;rw[hp p hpm];decide)];exact⟨rfl,hp,hn.1,hn.2⟩
 intro f hf;simp only[pT,KaH,Kbc,or_false]at hf;rcases hf with rfl|rfl|rfl|rfl|rfl
 ·exact key 1 _ (by decide) (show(3:Int)=cD 1 by decide) (by decide) (by simp) [kL A A A B] (by simp only[eP,ca,Ka3,Kbf,hA,hB];rfl) (by simp[aco ha hb]) (by simp)
 ·exact key 8 _ (by decide) (show(2:Int)=cD 8 by decide) (by decide) (by simp) [b6 A.1 A.1,b6 A.2 A.2] (by simp only[eP,ca,Ka3,Kbf,hA,hB];rfl) (by simp[m9 ha.x.n,m9 ha.y.n]) (by simp)
 ·exact key 4 _ (by decide) (show(4:Int)=cD 4 by decide) (by decide) (by simp) [b6 (eI A B A B) (eI B A B A)] (by simp only[eP,ca,Ka3,Kbf,hA,hB];rfl) (by simp[acr ha hb]) (by simp)
 ·exact key 2 _ (by decide) (show(4:Int)=cD 2 by decide) (by decide) (by simp) [kL A B B A] (by simp only[eP,ca,Ka3,Kbf,hA,hB];rfl) (by simp[acp ha hb]) (by simp)
 ·exact key 3 _ (by decide) (show(4:Int)=cD 3 by decide) (by decide) (by simp) [eI A A A B] (by simp only[eP,ca,Ka3,Kbf,hA,hB];rfl) (by simp[acq ha hb]) (by simp)
end Go.Proofs.YtonjiljafkiikaaGreat
namespace Go.Proofs.YtonjiljafkiikaaGreat
open Go Go.FW
def c5:aw:=⟨107,[.t 6],Zr (Zo (.box 3 2 25 (.t 0))<|
 Zo (.mv 6 (.c (.bool false))) .nil)<| .seq (Zr (Zh 15 2 3<|
 Zq 16 false 6 [.t 15]<|
 Zu 17 16<|
 Zm 18 17<|
 Zg 18 false (.mv 19 (.t 1))<|
 Zg 18 false (.bin 20 .lss false (.t 19) (.c (Zz 0)))<|
 Zo (.pick 21 (.t 18) (.c (.bool true)) (.t 20))<|
 Zm 22 21<|
 Zg 22 false (.mv 23 (.t 1))<|
 Zg 22 false (.bw 24 0 (.t 3))<|
 Zg 22 false (.ld 25 1 false (.t 24))<|
 Zg 22 false (.len 26 (.t 25))<|
 Zg 22 false (.bin 27 .geq false (.t 23) (.t 26))<|
 Zo (.pick 28 (.t 22) (.c (.bool true)) (.t 27))<|
 Zm 29 28<|
 Zg 29 false (.mv 30 (.t 2))<|
 Zg 29 false (.bin 31 .lss false (.t 30) (.c (Zz 0)))<|
 Zo (.pick 32 (.t 29) (.c (.bool true)) (.t 31))<|
 Zm 33 32<|
 Zg 33 false (.mv 34 (.t 2))<|
 Zg 33 false (.bw 35 0 (.t 3))<|
 Zg 33 false (.ld 36 1 false (.t 35))<|
 Zg 33 false (.len 37 (.t 36))<|
 Zg 33 false (.bin 38 .geq false (.t 34) (.t 37))<|
 Zo (.pick 39 (.t 33) (.c (.bool true)) (.t 38)) .nil)<| .cond (.t 39) (Zr (Zq 40 false 9 []<|
 Zm 6 40 .nil) .ret) .skip)<|Zr (Zh 42 2 3<|
 Zq 43 false 10 [.t 42]<|
 Zm 41 43<|
 Zo (.ext 44 (.t 41) 0)<|
 Zo (.ext 45 (.t 41) 1)<|
 Zo (.alloc 7 2 43 (.agg [.aa,.aa]))<|
 Zs 2 7 44<|
 Zm 8 45 .nil)<| .seq (Zr (Zm 46 8<|
 Zk 47 .neq 46 0 .nil)<| .cond (.t 47) (Zr (Zq 48 false 9 []<|
 Zm 6 48 .nil) .ret) .skip)<| .seq (Zr (Zm 49 1<|
 Zm 50 1<|
 Zm 51 2<|
 Zo (.bs 52 1 3 [.t 49,.t 50,.t 51])<|
 .wk<|Zo (.cc 53 [Zz 0,.aa,.bool false,.aa,.aa] [(0,1,.c (Zz 1)),(1,1,.t 52)])<|
 Zm 54 1<|
 Zm 55 1<|
 Zo (.bs 56 1 3 [.t 54,.t 55])<|
 .wk<|Zo (.cc 57 [Zz 0,.aa,.bool false,.aa,.aa] [(0,1,.c (Zz 8)),(1,1,.t 56)])<|
 Zm 58 1<|
 Zm 59 2<|
 Zm 60 2<|
 Zm 61 1<|
 Zo (.bs 62 1 3 [.t 58,.t 59,.t 60,.t 61])<|
 .wk<|Zo (.cc 63 [Zz 0,.aa,.bool false,.aa,.aa] [(0,1,.c (Zz 4)),(1,1,.t 62)])<|
 Zm 64 1<|
 Zm 65 2<|
 Zm 66 2<|
 Zm 67 1<|
 Zo (.bs 68 1 3 [.t 64,.t 65,.t 66,.t 67])<|
 .wk<|Zo (.cc 69 [Zz 0,.aa,.bool false,.aa,.aa] [(0,1,.c (Zz 2)),(1,1,.t 68)])<|
 Zm 70 1<|
 Zm 71 1<|
 Zm 72 1<|
 Zm 73 2<|
 Zo (.bs 74 1 3 [.t 70,.t 71,.t 72,.t 73])<|
 .wk<|Zo (.cc 75 [Zz 0,.aa,.bool false,.aa,.aa] [(0,1,.c (Zz 3)),(1,1,.t 74)])<|
 Zo (.bs 76 5 34 [.t 53,.t 57,.t 63,.t 69,.t 75])<|
 .wk<|Zn 77 76<|
 Zc 78 0 .nil)<| .block 0<| .loop<|Zr (Zb 79 .lss 78 77 .nil)<| .seq (.cond (.t 79) .skip (.exit 0))<| .seq (.block 1<|Zr (Zi 80 5 76 78<|
 Zh 81 5 80<|
 Zo (.alloc 10 5 34 (.agg [Zz 0,.aa,.bool false,.aa,.aa]))<|
 Zs 5 10 81 .nil)<|Zr (Zh 83 5 10<|
 Zh 84 2 7<|
 Zq 85 false 11 [.t 83,.t 84]<|
 Zm 82 85<|
 Zo (.ext 86 (.t 82) 0)<|
 Zo (.ext 87 (.t 82) 1)<|
 Zm 11 86<|
 Zm 12 87 .nil)<| .seq (Zr (Zm 88 11<|
 Zn 89 88<|
 Zc 90 0 .nil)<| .block 2<| .loop<|Zr (Zb 91 .lss 90 89 .nil)<| .seq (.cond (.t 91) .skip (.exit 2))<| .seq (.block 3<|Zr (Zi 92 1 88 90<|
 Zl 93 1 92<|
 Zm 14 93 .nil)<|Zr (Zm 94 14<|
 Zn 95 94<|
 Zk 96 .gtr 95 0 .nil)<| .cond (.t 96) (Zr (Zo (.mv 6 (.c (.bool false))) .nil) .ret) .skip)<| .rg (Zk 97 .add 90 1<|
 Zm 90 97 .nil))<|Zr (Zm 98 12<|
 Zk 99 .neq 98 0<|
 Zm 100 99<|
 Zg 100 false (.mv 101 (.t 11))<|
 Zg 100 false (.len 102 (.t 101))<|
 Zg 100 false (.bin 103 .eql false (.t 102) (.c (Zz 0)))<|
 Zo (.pick 104 (.t 100) (.c (.bool true)) (.t 103)) .nil)<| .cond (.t 104) (Zr (Zo (.mv 6 (.c (.bool false))) .nil) .ret) .skip)<| .rg (Zk 105 .add 78 1<|
 Zm 78 105 .nil))<|Zr (Zq 106 false 9 []<|
 Zm 6 106 .nil) .ret⟩
theorem Xb:Qe Tryz.prog Tryz.f5=some c5.strip:=by kernel_rfl
abbrev PV.Lg(f:cI):PV:=.agg [.int .i64 f.k,PV.mono f.args,.bool false,.aa,.aa]
set_option maxHeartbeats 1000000 in
theorem Xf(hN:pG){S:List cB}{G:List cI}{x y:Int}(hS:S.length<2^40)(hG:G.length<2^40)(hb:∀s∈S,oH s)(hg:∀g∈G,oG g):Qd Tryz.prog 5 [PV.fp S G,.int .i64 x,.int .i64 y] (· = .bool true):=by
 refine BD Qk Tryz.func5 rfl Xb (by simp[c5]) fun C hP=>?_;simp only[c5,Zo,Zg,Zm,Zc,Zf,Zl,Zh,Zs,Zi,Zb,Zk,Zn,Zu,Zq,Zr,Zz];refine Sz0 ?_;refine gW hP (Tr hN hS hG hb hg) rfl rfl rfl ?_;rintro _ ⟨b,rfl,hbF⟩;cases b
 ·refine Sz0 ?_;refine Qa hP (pH hN) rfl rfl rfl ?_;refine Sz0 ?_;refine oo (Wk.refl _ _) ?_;refine Sz0 ?_;exact Qc rfl rfl
 have hF:=hbF rfl;have DO:=hF.l;refine Sz0 ?_;refine Q6 (fun h1=>?_) (fun h1=>?_)
 ·refine Sz0 ?_;refine Qa hP (pH hN) rfl rfl rfl ?_;refine Sz0 ?_;refine oo (Wk.refl _ _) ?_;refine Sz0 ?_;exact Qc rfl rfl
 refine Sz0 ?_;refine Q6 (fun h2=>?_) (fun h2=>?_)
 ·refine Sz0 ?_;refine Qa hP (pH hN) rfl rfl rfl ?_;refine Sz0 ?_;refine oo (Wk.refl _ _) ?_;refine Sz0 ?_;exact Qc rfl rfl
 refine Sz0 ?_;refine Q6 (fun h3=>?_) (fun h3=>?_)
 ·refine Sz0 ?_;refine Qa hP (pH hN) rfl rfl rfl ?_;refine Sz0 ?_;refine oo (Wk.refl _ _) ?_;refine Sz0 ?_;exact Qc rfl rfl
 refine Sz0 ?_;refine Qb (fun h4=>?_) (fun h4=>?_)
 ·refine Sz0 ?_;refine Qa hP (pH hN) rfl rfl rfl ?_;refine Sz0 ?_;refine oo (Wk.refl _ _) ?_;refine Sz0 ?_;exact Qc rfl rfl
 refine Sz0 ?_;refine gW hP (LC hN hF hS hG hb hg) rfl rfl rfl ?_;rintro _ ⟨cs,vs,e,rfl,q1,-⟩;by_cases he:¬e=0
 ·have d:decide (¬e=0)=true:=decide_eq_true he;refine Sz1 d ?_;refine Qa hP (pH hN) rfl rfl rfl ?_;refine Sz0 ?_;refine oo (Wk.refl _ _) ?_;refine Sz0 ?_;exact Qc rfl rfl
 obtain rfl:e=0:=by omega
 obtain⟨rfl,-⟩:=q1 rfl;have hl:=tT S S.length;have JZ:∀c∈(bo S S.length).1,CB c:=fun c hc=>by obtain⟨n,hn,rfl⟩:=KaZ hc;obtain⟨w,_,w8,_,hw⟩:=xy hF hb S.length (Kae _) n (by omega);rw[Kad,Kaf hn]at hw;exact zb hw w8
 have hT:=Oj (x:=x) (y:=y) JZ (by omega) (by omega);have hC:∀f∈pT x y,Qd Tryz.prog 11 [PV.Lg f,PV.frame (bo S S.length).1 vs] (· = .aJ [PV.qU (iH (bo S S.length).1 f).1,.int .i64 (iH (bo S S.length).1 f).2]):=fun f hf=>by
  simp only[pT,KaH,Kbc,or_false]at hf;have ok:∀(k:Int)(l:List Int),l.length<100->k≠6->k≠7->k≠9->Cz (bo S S.length).1 ⟨k,l,false,[],[]⟩:=fun k l mQ h6 h7 h9=>
   ⟨⟨show l.length<_ by omega,Cq⟩,by omega,JZ,fun _ h=>(h.elim (fun h=>absurd h h6) fun h=>absurd h h7),fun _ h=>absurd h h9⟩
  rcases hf with rfl|rfl|rfl|rfl|rfl
  ·exact oc (og (vs:=vs) (ok 1 _ (by simp) (by decide) (by decide) (by decide)))
  ·exact oc (og (vs:=vs) (ok 8 _ (by simp) (by decide) (by decide) (by decide)))
  ·exact oc (og (vs:=vs) (ok 4 _ (by simp) (by decide) (by decide) (by decide)))
  ·exact oc (og (vs:=vs) (ok 2 _ (by simp) (by decide) (by decide) (by decide)))
  ·exact oc (og (vs:=vs) (ok 3 _ (by simp) (by decide) (by decide) (by decide)))
 generalize iH (bo S S.length).1=GF at *
 generalize(bo S S.length).1=C0 at *
 refine Sz0 ?_;rw[lF rfl (fun p hp=>by simp only[KaH,Kbc,or_false]at hp;rcases hp with rfl|rfl|rfl<;>rfl) (by omega)];refine cC ?_;refine cq (lG 52 ie) ?_;refine cC ?_;refine cq (lG 56 ie) ?_;refine cC ?_;rw[lF rfl (fun p hp=>by simp only[KaH,Kbc,or_false]at hp;rcases hp with rfl|rfl|rfl|rfl<;>rfl) (by omega)];refine cC ?_;refine cq (lG 62 ie) ?_;refine cC ?_;rw[lF rfl (fun p hp=>by simp only[KaH,Kbc,or_false]at hp;rcases hp with rfl|rfl|rfl|rfl<;>rfl) (by omega)];refine cC ?_;refine cq (lG 68 ie) ?_;refine cC ?_;rw[lF rfl (fun p hp=>by simp only[KaH,Kbc,or_false]at hp;rcases hp with rfl|rfl|rfl|rfl<;>rfl) (by omega)];refine cC ?_;refine cq (lG 74 ie) ?_;refine cC ?_;rw[lF rfl (fun p hp=>by simp only[KaH,Kbc,or_false]at hp;rcases hp with rfl|rfl|rfl|rfl|rfl<;>rfl) (by omega)];refine cC ?_;refine cq (lG 76 ie) ?_;refine cC ?_;rw[show(PV.sl 5 [.agg [.int .i64 1,.sl 1 [.int .i64 x,.int .i64 x,.int .i64 y],.bool false,.aa,.aa],.agg [.int .i64 8,.sl 1 [.int .i64 x,.int .i64 x],.bool false,.aa,.aa],.agg [.int .i64 4,.sl 1 [.int .i64 x,.int .i64 y,.int .i64 y,.int .i64 x],.bool false,.aa,.aa],.agg [.int .i64 2,.sl 1 [.int .i64 x,.int .i64 y,.int .i64 y,.int .i64 x],.bool false,.aa,.aa],.agg [.int .i64 3,.sl 1 [.int .i64 x,.int .i64 x,.int .i64 x,.int .i64 y],.bool false,.aa,.aa]])= .sl 5 ((pT x y).map PV.Lg)from rfl];have hL5:(pT x y).length=5:=rfl;generalize pT x y=L at *
 refine Q5 (by repeat (first|exact Qx|exact Qq|exact Qr|exact Qt|exact Qu|apply Qp|apply Qw|apply Q3|apply Q8|apply Q9|apply Qn|apply Q7)) [(6,6),(10,12),(14,14),(78,105)] [10] (fun m J hp=>∃i,m=5-i/\i<=5/\J 78= .int .i64 (i:Nat)/\hp 7=some ⟨2,43,[PV.frame C0 vs],false⟩) 5 ?_ ?_
 ·refine⟨0,rfl,by omega,rfl,?_⟩;exact ie
 rintro _ J h ⟨i,rfl,hi,yM,b7⟩;refine Sz1 yM ?_;refine Qb (fun hc=>?_) (fun hc=>?_)
 ·have aA:i<L.length:=by omega
  have hm:=Kao aA;generalize hx:L[i]=g at *
  have ht:=hT g hm;have dt:=hC g hm;generalize GF g=Q at *
  obtain⟨ps,z⟩:=Q;obtain⟨rfl,dC,au,bc⟩:=ht;simp only at dC au bc dt;refine Sz3 yM hx b7 ?_;refine Qa hP dt rfl rfl rfl ?_;refine Sz2 yM b7 ?_;refine Q5 (by repeat (first|exact Qx|exact Qq|exact Qr|exact Qt|exact Qu|apply Qp|apply Qw|apply Q3|apply Q8|apply Q9|apply Qn|apply Q7)) [(6,6),(14,14),(90,97)] [] (fun m J hp=>∃j,m=ps.length-j/\j<=ps.length/\J 90= .int .i64 (j:Nat)/\hp 7=some ⟨2,43,[PV.frame C0 vs],false⟩) ps.length ?_ ?_
  ·refine⟨0,rfl,by omega,rfl,?_⟩;exact Tz1 b7
  rintro _ J2 h2 ⟨j,rfl,hj,Le,c7⟩;refine Sz1 Le ?_;refine Qb (fun fq=>?_) (fun fq=>?_)
  ·have cR:j<ps.length:=by omega
   have nL:ps[j]=[]:=dC _ (Kao cR);refine Sz2 Le nL ?_;refine Qm (ps.length-(j+1)) (by omega) ⟨j+1,rfl,by omega,?_⟩;exact Tz1 c7
  have d0:decide ((ps.length:Int)=0)=false:=decide_eq_false (by omega);refine Sz3 yM c7 d0 ?_;simp (disch:=decide) only[jS,tQ];refine Qm (5-(i+1)) (by omega) ⟨i+1,rfl,by omega,?_⟩;exact Tz1 c7
 ·refine Sz0 ?_;refine Qa hP (pH hN) rfl rfl rfl ?_;refine Sz0 ?_;refine oo (Wk.refl _ _) ?_;refine Sz0 ?_;exact Qc rfl rfl
theorem Xg{S:List cB}{G:List cI}{x y:Int}(h:Co S G)(_: -9223372036854775808<=x/\x<=9223372036854775807)(_: -9223372036854775808<=y/\y<=9223372036854775807):Qd Tryz.prog 5 [PV.fp S G,.int .i64 x,.int .i64 y] (· = .bool true):=
 Xf PM (by have:=h.1.1;omega) (by have:=h.2.1;omega) (fun s hs=>Wl (h.1.2 s hs)) (fun g hg=>Wj (h.2.2 g hg))
open Go Go.FW Go.ChangeShapes Go.WideShapes Go.ChangeAt Go.RowKit
theorem Xc(H:Type)(enc:TypeId×Value->H)(W:World)(base:Nat)(args:Array Value)(ds gs:List (DataW H))(before:List MemPlace)
  (dz:∀(j:Nat) t v,Tryz.f5.params[j]? =some t->args[j]? =some v->Value.okWide Tryz.prog W .any base t v)
  (hW:DataW.Whole enc Tryz.prog Tryz.f5.params.toList Rows.goalsTrivialSpec.vars false W args.toList ds gs before) (hk:Rows.uptoSmall H (ds++gs)=true):
  Calls Tryz.prog 5 args W fun e W'=>∃v,e= .returned v/\Rows.goalsTrivialSpec.post enc Tryz.prog Tryz.f5 false true false false W args v W':=by
 have uG:=hW;obtain⟨p,q,ZH,hV,rfl,iV,Es⟩:=hW;have hA:DataW.TrodAll enc Tryz.prog W 0 (fun _=>true) true Tryz.f5.params.toList args.toList ds p:=ZH;rw[Tryz.params5]at hA dz;obtain⟨v0,vs0,e0,ds0,p0,q0,cr,rfl,rfl,h0,r0⟩:=trodAll_cons hA;obtain⟨v1,vs1,e1,ds1,p1,q1,rfl,rfl,rfl,h1,r1⟩:=trodAll_cons r0;obtain⟨v2,vs2,e2,ds2,p2,q2,rfl,rfl,rfl,h2,r2⟩:=trodAll_cons r1;obtain⟨rfl,rfl,rfl⟩:=trodAll_nil r2;obtain rfl:args= #[v0,v1,v2]:=by cases args;simp_all
 obtain⟨rfl,rfl⟩:=trodVars_none hV;have hb:=Po hk;simp only[Kan,Rows.uptoBulkAll]at hb;obtain⟨S0,G0,g0,b0⟩:=MA (dz 0 _ v0 rfl rfl) h0 (by omega);obtain⟨a1,g1,b1⟩:=JA (dz 1 _ v1 rfl rfl) h1 (by omega);obtain⟨a2,g2,b2⟩:=JA (dz 2 _ v2 rfl rfl) h2 (by omega);exact NR uG rfl (by kernel_rfl) (by kernel_rfl) rfl (Xg b0 b1 b2) rfl
  (Pp (vs:=[v0,v1,v2]) (by
   intro i x hx v hv
   match i,hx,hv with
   |0,hx,hv=>simp at hx hv;subst hx hv;exact g0
   |1,hx,hv=>simp at hx hv;subst hx hv;exact g1
   |2,hx,hv=>simp at hx hv;subst hx hv;exact g2
   |i+3,hx,hv=>simp at hx) rfl)
theorem Xe(os:Os)(started:os.Started)(H:Type)(enc:TypeId×Value->H)(F:Stop.Interp):
  ReturnsInHanded {} Tryz.checked os 5 .any ((Rows.OpenSpec.upto Rows.goalsTrivialSpec).pre6 enc Tryz.prog Tryz.f5 Rows.goalsTrivialUptoRow.domain false) (((Rows.OpenSpec.upto Rows.goalsTrivialSpec).at F).post enc Tryz.prog Tryz.f5 false true false false):=by
 refine returnsInHanded_of_cond (C:=Tryz.checked) (s:=Rows.OpenSpec.upto Rows.goalsTrivialSpec) (k:=Rows.uptoSmall) rfl own started (by kernel_rfl) Tryz.func5
  (OpenSpec.witness (enc:=enc) (C:=Tryz.checked) (s:=Rows.OpenSpec.upto Rows.goalsTrivialSpec) (k:=Rows.uptoSmall) rfl false ⟨#[],#[.agg #[.slice none 0 0,.slice none 0 0],.int .i64 0,.int .i64 0],[]⟩ 8 (by kernel_rfl) (by kernel_rfl) (by kernel_rfl)
   (x:=([.agg [.nil,.nil],.lit (.int .i64 0),.lit (.int .i64 0)],[],[])) (by kernel_rfl) rfl (by kernel_rfl)) ?_
 intro W base args ds gs before dz hW _ hk _;exact Xc H enc W base args ds gs before dz hW hk
theorem goalsTrivial_proved:Rows.GoalsTrivialUptoSaid:=
 OpenClaim.holds_of_cond 5 Tryz.f5 rfl rfl rfl rfl rfl rfl rfl ⟨rfl,rfl,rfl,rfl,rfl⟩ rfl rfl rfl rfl rfl (by kernel_rfl) Tryz.func5 (by kernel_rfl)
  (of_decide_eq_true (by kernel_rfl)) (by unfold Func.isWrapper;first|(rw[if_pos (by decide+kernel)];kernel_rfl)|(rw[if_neg (by decide+kernel)];exact⟨rfl,rfl⟩))
  (fun os started H enc _ F=>Xe os started H enc F)
end Go.Proofs.YtonjiljafkiikaaGreat
