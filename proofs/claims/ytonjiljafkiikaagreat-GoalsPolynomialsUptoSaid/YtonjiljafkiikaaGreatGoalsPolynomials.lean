/- Polys returns the polynomials of any fact for a small figure, or the error (arguments of bulk at most 1048576). -/
import Derived.Test.YtonjiljafkiikaaGreatGoalsPolynomialsPart13
import Derived.Laws.RangeString
import Derived.Laws.RangeAny
import Derived.Lib.OthersKept
import Derived.LoopTactic
set_option maxHeartbeats 1000000
set_option linter.unusedSimpArgs false
set_option linter.unusedVariables false
set_option linter.unnecessarySimpa false
set_option maxRecDepth 100000
namespace Go.Proofs.YtonjiljafkiikaaGreat
open Go Go.FW
def od:List cC:=[⟨1,⟨#[65]⟩,[],false,[],[]⟩,⟨1,⟨#[66]⟩,[],false,[],[]⟩,⟨1,⟨#[67]⟩,[],false,[],[]⟩]
def pq:List Cd:=[([],[]),(bX 0,[]),(bX 1,bX 2)]
theorem GM:Raw 1048576 false [] []:=⟨fun x h=>(by cases h),fun x h=>(by cases h),KbG _,KbG _,by decide⟩
theorem Ve:∀s∈od,oa s:=fun s h=>by simp only[od,KaF,Kba,or_false]at h;rcases h with rfl|rfl|rfl<;>exact⟨by decide,by decide,GM⟩
abbrev frS(s:ByteArray):cC:=⟨1,s,[],false,[],[]⟩
theorem sF{i:Nat}{s:ByteArray}:oU i (frS s):=⟨show 0<=fg 1 by decide,show(0:Int)=fg 1 by decide,fun a h=>(by cases h),show gT false [] []=true by decide⟩
theorem Hp:sL od []:=⟨fun i h=>by
 match i,h with
 |0,_=>exact sF
 |1,_=>exact sF
 |2,_=>exact sF
 |i+3,h=>have:i+3<3:=h;omega,fun g h=>(by cases h),by decide⟩
theorem C1(c:UInt8)(h:nH c.toNat=true)(hk:lW.all (fun k=>decide (k≠⟨#[c]⟩))=true):Nm ⟨#[c]⟩:=⟨Nat.zero_lt_one,by show 1<=20;decide,fun i h'=>by
 obtain rfl:i=0:=by have:i<1:=h';omega
 exact h,fun k hm e=>by
 have:=Kaw.1 hk k hm;rw[decide_eq_true_eq]at this;exact this e.symm⟩
theorem SO:Cl od []:=⟨Hp,fun i h=>by
 match i,h with
 |0,_=>exact⟨sF,.inr ⟨C1 65 (by decide) (by decide+kernel),fun j _ h=>by omega⟩⟩
 | 1,_=>exact⟨sF,.inr ⟨C1 66 (by decide) (by decide+kernel),fun j hj h=>by
   match j,hj,h with
   |0,_,_=>show(⟨#[65]⟩:ByteArray)≠⟨#[66]⟩;decide+kernel⟩⟩
 | 2,_=>exact⟨sF,.inr ⟨C1 67 (by decide) (by decide+kernel),fun j hj h=>by
   match j,hj,h with
   |0,_,_=>show(⟨#[65]⟩:ByteArray)≠⟨#[67]⟩;decide+kernel
   |1,_,_=>show(⟨#[66]⟩:ByteArray)≠⟨#[67]⟩;decide+kernel⟩⟩
 |i+3,h=>have:i+3<3:=h;omega,by decide⟩
theorem Vf:sM od []:=⟨Hp,by decide,by decide,⟨by decide+kernel,fun g h=>(by cases h)⟩,fun s h=>by simp only[od,KaF,Kba,or_false]at h;rcases h with rfl|rfl|rfl<;>exact⟨by decide,by decide⟩,fun g h=>(by cases h)⟩
theorem Yw:(bE od od.length).1=pq:=by decide+kernel
theorem Yx:∀c∈pq,CB c:=fun c h=>by
 have v:∀m:Nat,PQ 256 (2^17) 100 (bX m):=fun m=>(PQ.var (v:=m)).mono (by omega) (by omega) (by omega);simp only[pq,KaF,Kba,or_false]at h;rcases h with rfl|rfl|rfl
 ·exact⟨.nil,.nil⟩
 ·exact⟨v 0,.nil⟩
 ·exact⟨v 1,v 2⟩
theorem z'{k:Int}{l:List Int}(hl:l.length<100)(h6:k≠6)(h7:k≠7)(h9:k≠9):u0 pq ⟨k,l,false,[],[]⟩:=
 ⟨⟨by show l.length<_;omega,GM⟩,by decide,Yx,fun _ h=>(h.elim (fun h=>absurd h h6) fun h=>absurd h h7),fun _ h=>absurd h h9⟩
theorem ZD:fw pq ⟨1,[0,1,2],false,[],[]⟩=([cz (bX 0) (bX 2)],0):=by decide+kernel
theorem ZE:fw pq ⟨8,[2,2],false,[],[]⟩=([[],[]],0):=by decide+kernel
theorem ZF:fw pq ⟨8,[2,3],false,[],[]⟩=([],2):=by decide+kernel
theorem Vg{k:Int}{l:List Int}:PV.le (.agg [.int .i64 k,PV.mono l,.bool false,.aa,.aa]) (PV.fG ⟨k,l,false,[],[]⟩):=⟨rfl,rfl,rfl,trivial,trivial,trivial⟩
theorem BJ{f:FuncId}{k:Int}{l:List Int}{q:PV}{R:PV->Prop}(h:Qd Tryz.prog f [PV.fG ⟨k,l,false,[],[]⟩,q] R):Qd Tryz.prog f [.agg [.int .i64 k,PV.mono l,.bool false,.aa,.aa],q] R:=h.le ⟨Vg,bT _,trivial⟩
def df(s:ByteArray):PV:=.agg [.int .i64 1,.str s,.aa,.bool false,.aa,.aa]
theorem Aa{s:ByteArray}:qB (df s).cells (PV.mS ⟨1,s,[],false,[],[]⟩).cells:=.cons (.rfl _) (.cons (.rfl _) (.cons (.nil _) (.cons (.rfl _) (.cons (.nil _) (.cons (.nil _) .nil)))))
theorem abn{f:FuncId}{R:PV->Prop}(h:Qd Tryz.prog f [PV.fh od []] R):Qd Tryz.prog f [.agg [.sl 6 [df ⟨#[65]⟩,df ⟨#[66]⟩,df ⟨#[67]⟩],.aa]] R:=
 Qd.oG (ls:=[]) (bs:=[]) h (.cons (.sl _ (.cons Aa (.cons Aa (.cons Aa .nil)))) (.cons (.nil _) .nil))
def c9:az:=⟨84,[.t 0],Zr (Zo (.mv 0 (.c (.bool false))) .nil)<|Zr (Zo (.cw 10 [Zz 0,.str ⟨#[]⟩,.aa,.bool false,.aa,.aa] [(0,1,.c (Zz 1)),(1,1,.c (.str ⟨#[0x41]⟩))])<|
 Zo (.cw 11 [Zz 0,.str ⟨#[]⟩,.aa,.bool false,.aa,.aa] [(0,1,.c (Zz 1)),(1,1,.c (.str ⟨#[0x42]⟩))])<|
 Zo (.cw 12 [Zz 0,.str ⟨#[]⟩,.aa,.bool false,.aa,.aa] [(0,1,.c (Zz 1)),(1,1,.c (.str ⟨#[0x43]⟩))])<|
 Zo (.bs 13 6 76 [.t 10,.t 11,.t 12])<|
 .wk<|Zo (.cw 14 [.aa,.aa] [(0,1,.t 13)])<|
 Zo (.alloc 1 2 25 (.agg [.aa,.aa]))<|
 Zs 2 1 14 .nil)<|Zr (Zh 16 2 1<|
 Zq 17 false 10 [.t 16]<|
 Zm 15 17<|
 Zo (.ext 18 (.t 15) 0)<|
 Zo (.ext 19 (.t 15) 1)<|
 Zo (.alloc 2 2 43 (.agg [.aa,.aa]))<|
 Zs 2 2 18<|
 Zm 3 19 .nil)<|Zr (Zo (.bs 21 1 3 [.c (Zz 0),.c (Zz 1),.c (Zz 2)])<|
 .wk<|Zo (.cw 22 [Zz 0,.aa,.bool false,.aa,.aa] [(0,1,.c (Zz 1)),(1,1,.t 21)])<|
 Zh 23 2 2<|
 Zq 24 false 11 [.t 22,.t 23]<|
 Zm 20 24<|
 Zo (.ext 25 (.t 20) 0)<|
 Zo (.ext 26 (.t 20) 1)<|
 Zm 4 25<|
 Zm 5 26 .nil)<|Zr (Zo (.bs 28 1 3 [.c (Zz 2),.c (Zz 2)])<|
 .wk<|Zo (.cw 29 [Zz 0,.aa,.bool false,.aa,.aa] [(0,1,.c (Zz 8)),(1,1,.t 28)])<|
 Zh 30 2 2<|
 Zq 31 false 11 [.t 29,.t 30]<|
 Zm 27 31<|
 Zo (.ext 32 (.t 27) 0)<|
 Zo (.ext 33 (.t 27) 1)<|
 Zm 6 32<|
 Zm 7 33 .nil)<|Zr (Zo (.bs 35 1 3 [.c (Zz 2),.c (Zz 3)])<|
 .wk<|Zo (.cw 36 [Zz 0,.aa,.bool false,.aa,.aa] [(0,1,.c (Zz 8)),(1,1,.t 35)])<|
 Zh 37 2 2<|
 Zq 38 false 11 [.t 36,.t 37]<|
 Zm 34 38<|
 Zo (.ext 39 (.t 34) 0)<|
 Zo (.ext 40 (.t 34) 1)<|
 Zm 8 39<|
 Zm 9 40 .nil)<|Zr (Zm 41 5<|
 Zk 42 .eql 41 0<|
 Zm 43 42<|
 Zg 43 true (.mv 44 (.t 4))<|
 Zg 43 true (.len 45 (.t 44))<|
 Zg 43 true (.bin 46 .eql false (.t 45) (.c (Zz 1)))<|
 Zo (.pick 47 (.t 43) (.t 46) (.c (.bool false)))<|
 Zm 48 47<|
 Zg 48 true (.mv 49 (.t 4))<|
 Zg 48 true (.idx 50 1 (.t 49) (.c (Zz 0)))<|
 Zg 48 true (.ld 51 1 false (.t 50))<|
 Zg 48 true (.call (some 52) true (.c (.fn 27 [] [])) [.c (Zz 0)])<|
 Zg 48 true (.call (some 53) true (.c (.fn 27 [] [])) [.c (Zz 2)])<|
 Zg 48 true (.call (some 54) true (.c (.fn 26 [] [])) [.t 52,.t 53])<|
 Zg 48 true (.call (some 55) true (.c (.fn 13 [] [])) [.t 51,.t 54])<|
 Zo (.pick 56 (.t 48) (.t 55) (.c (.bool false)))<|
 Zm 57 56<|
 Zg 57 true (.mv 58 (.t 7))<|
 Zg 57 true (.bin 59 .eql false (.t 58) (.c (Zz 0)))<|
 Zo (.pick 60 (.t 57) (.t 59) (.c (.bool false)))<|
 Zm 61 60<|
 Zg 61 true (.mv 62 (.t 6))<|
 Zg 61 true (.len 63 (.t 62))<|
 Zg 61 true (.bin 64 .eql false (.t 63) (.c (Zz 2)))<|
 Zo (.pick 65 (.t 61) (.t 64) (.c (.bool false)))<|
 Zm 66 65<|
 Zg 66 true (.mv 67 (.t 6))<|
 Zg 66 true (.idx 68 1 (.t 67) (.c (Zz 0)))<|
 Zg 66 true (.ld 69 1 false (.t 68))<|
 Zg 66 true (.len 70 (.t 69))<|
 Zg 66 true (.bin 71 .eql false (.t 70) (.c (Zz 0)))<|
 Zo (.pick 72 (.t 66) (.t 71) (.c (.bool false)))<|
 Zm 73 72<|
 Zg 73 true (.mv 74 (.t 6))<|
 Zg 73 true (.idx 75 1 (.t 74) (.c (Zz 1)))<|
 Zg 73 true (.ld 76 1 false (.t 75))<|
 Zg 73 true (.len 77 (.t 76))<|
 Zg 73 true (.bin 78 .eql false (.t 77) (.c (Zz 0)))<|
 Zo (.pick 79 (.t 73) (.t 78) (.c (.bool false)))<|
 Zm 80 79<|
 Zg 80 true (.mv 81 (.t 9))<|
 Zg 80 true (.bin 82 .neq false (.t 81) (.c (Zz 0)))<|
 Zo (.pick 83 (.t 80) (.t 82) (.c (.bool false)))<|
 Zm 0 83 .nil) .ret⟩
theorem YP:Qe Tryz.prog Tryz.f9=some c9.strip:=by kernel_rfl
theorem qk(hN:qj):Qd Tryz.prog 9 [] (· = .bool true):=by
 have hO:=abn (Gm hN Vf (by decide) (by decide) Ve (fun g h=>(by cases h)));have h1:=fun vs=>BJ (uS (vs:=vs) (z' (k:=1) (l:=[0,1,2]) (by decide) (by decide) (by decide) (by decide)));have h2:=fun vs=>BJ (uS (vs:=vs) (z' (k:=8) (l:=[2,2]) (by decide) (by decide) (by decide) (by decide)));have h3:=fun vs=>BJ (uS (vs:=vs) (z' (k:=8) (l:=[2,3]) (by decide) (by decide) (by decide) (by decide)));rw[ZD]at h1;rw[ZE]at h2;rw[ZF]at h3;have v0:Qd Tryz.prog 27 [.int .i64 0] (· =PV.ax (bX 0)):=Bp (v:=0) (by omega);have v2:Qd Tryz.prog 27 [.int .i64 2] (· =PV.ax (bX 2)):=Bp (v:=2) (by omega);have hm:=oR (PQ.var (v:=0)) (PQ.var (v:=2)) (by omega) (by omega) (by omega);have pm:=(PQ.var (v:=0)).mul (PQ.var (v:=2));have he:=AY pm.b pm.b (by omega) (by omega) (by have:=pm.l;omega) (by have:=pm.l;omega);rw[decide_eq_true rfl]at he;have e0:((0:Nat):Int)=0:=rfl;generalize cz (bX 0) (bX 2)=M at *
 generalize bX 0=V0 at *
 generalize bX 2=V2 at *
 have sc:∀s,(PV.str s).cells=[.str s]:=fun _=>rfl;refine Jl Qh Tryz.func9 rfl YP (by simp[c9]) fun C hP=>?_;simp only[c9,Zo,Zg,Zm,Zc,Zf,Zl,Zh,Zs,Zi,Zb,Zk,Zn,Zu,Zq,Zr,Zz];refine Sz1 sc ?_;rw[sm rfl (fun p hp=>by simp only[KaF,Kba,or_false]at hp;rcases hp with rfl|rfl|rfl<;>rfl) (by omega)];refine Sz0 ?_;refine cO (uG 13 ob) ?_;refine dL ?_;refine gz hP hO rfl rfl rfl ?_;rintro _ ⟨cs,vs,e,rfl,q1,q2⟩;obtain rfl:e=0:=q2 SO;obtain⟨rfl,-⟩:=q1 rfl;rw[Yw];generalize pq=C0 at *
 refine dL ?_;rw[sm rfl (fun p hp=>by simp only[KaF,Kba,or_false]at hp;rcases hp with rfl|rfl|rfl<;>rfl) (by omega)];refine dL ?_;refine cO (uG 21 ob) ?_;refine dL ?_;refine Qa hP (h1 vs) rfl rfl rfl ?_;refine dL ?_;refine cO (uG 28 ob) ?_;refine dL ?_;refine Qa hP (h2 vs) rfl rfl rfl ?_;refine dL ?_;refine cO (uG 35 ob) ?_;refine dL ?_;refine Qa hP (h3 vs) rfl rfl rfl ?_;refine dL ?_
 repeat' first
  |refine eV ?_ ?_
  |refine Qa hP v0 rfl rfl rfl ?_
  |refine Qa hP v2 rfl rfl rfl ?_
  |refine Qa hP hm rfl rfl rfl ?_
  |refine Qa hP he rfl rfl rfl ?_
  |simp+decide (disch:=try exact E0) only[go_sem,eU,Kay,KaI,KaA,KaK,Kao]
 all_goals
  refine yf (Wk.refl _ _) ?_;refine Sz0 ?_;exact Qc rfl rfl
theorem SP{n:Bool}{a d:List Nat}{k:Nat}(h:Raw k n a d)(ok:iz n a d=true)(ha:a.length<=2)(hd:d.length<=2):PV.rr n a d=PV.rat (rv n a d)/\rs (rv n a d)<=1000:=by exact⟨YN h.la h.ld ok,by have:=(show Raw 2 n a d from⟨h.la,h.ld,ha,hd,by omega⟩).rs;omega⟩
theorem JZ{S:List cC}{G:List cn}{f:cn}(hF:sM S G)(hb:∀s∈S,oa s)(hf:ns f)(h:cM f S.length=0->sM S [f]):u0 (bE S S.length).1 f:=by
 have hl:=uR S S.length;refine⟨hf,by have:=hF.l;omega,fun c hc=>?_,fun h0 vz c hc=>?_,fun h0 h9=>?_⟩
 ·obtain⟨n,hn,rfl⟩:=Ka0 hc;obtain⟨w,_,w8,_,hw⟩:=uZ hF hb S.length (Kag _) n (by omega);rw[Kae,Kaf hn]at hw;exact z9 hw w8
 ·rw[hl]at h0;obtain⟨_,_,hr,_⟩:=sA h0;obtain⟨a,ha,rfl⟩:=KaL.1 hc;have FV:=hr a ha;obtain⟨w,w1,_,hw3,hw⟩:=uZ hF hb S.length (Kag _) a.toNat (by omega);have ht:=(h h0).t.g f (KaB.2 rfl) vz a ha;rw[hw3]at ht;have lU:w=1∨w=2∨w=3:=by omega
  rcases lU with rfl|rfl|rfl
  ·exact hw.mono (by omega) (by omega) (by omega)
  ·exact hw.mono (by omega) (by omega) (by omega)
  ·exact hw.mono (by omega) (by omega) (by omega)
 ·rw[hl]at h0;obtain⟨_,_,_,hq⟩:=sA h0;rw[if_pos h9]at hq;have hs:=(h h0).g f (KaB.2 rfl);exact SP hf.r hq hs.1 hs.2
theorem QC{S:List cC}{G:List cn}{f:cn}:Qd Tryz.prog 8 [PV.fh S G,PV.fG f] (· =PV.fh S [f]):=by refine Qf Qh Tryz.func8 rfl Zx (by simp[c8]) fun C hP=>?_;simp only[c8,Zo,Zg,Zm,Zc,Zf,Zl,Zh,Zs,Zi,Zb,Zk,Zn,Zu,Zq,Zr,Zz];refine Sz0 ?_;rw[Yl (m:=1) (e:=5) (ty:=34) (xs:=[PV.fG f]) (fz:=false) rfl rfl rfl];refine⟨⟨rfl,by simp⟩,⟨rfl,by simp⟩,?_⟩;refine dL ?_;refine cI ?_;refine dL ?_;exact Qc rfl rfl
theorem QD{k:Int}{p:Nat->Cd}{r:Rat}(hk:k=1∨k=2∨k=3∨k=4∨k=5∨k=6∨k=7∨k=8∨k=9)(hc:∀i,CB (p i))(h3:k=6∨k=7->∀i,C3 (p i))(hr:k=9->rs r<=1000):∀q∈cN k p r,PQ (2^20) (2^31) 200 q:=by
 have one:∀ {x:List Tm} {q:List Tm},PQ (2^20) (2^31) 200 x->q∈[x]->PQ (2^20) (2^31) 200 q:=fun h hm=>by rw[KaB.1 hm];exact h
 have two:∀ {x y:List Tm} {q:List Tm},PQ (2^20) (2^31) 200 x->PQ (2^20) (2^31) 200 y->q∈[x,y]->PQ (2^20) (2^31) 200 q:=fun h h' hm=>by
  rcases KaF.1 hm with rfl|hm
  ·exact h
  ·rw[KaB.1 hm];exact h'
 have MW:(∀i,C3 (p i))->∀a b c d e f g h,PQ (2^20) (2^31) 200 (kH (p a) (p b) (p c) (p d) (p e) (p f) (p g) (p h)):=fun q a b c d e f g h=>
  ((sO (nb (q a) (q b) (q c) (q d)) (nk (q e) (q f) (q g) (q h))).sub (sO (nb (q e) (q f) (q g) (q h)) (nk (q a) (q b) (q c) (q d)))).mono (by omega) (by omega) (by omega)
 intro q hq;unfold cN at hq;rcases hk with rfl|rfl|rfl|rfl|rfl|rfl|rfl|rfl|rfl
 all_goals simp only[Int.reduceEq,reduceIte]at hq
 ·exact one ((Jm (hc 0) (hc 1) (hc 0) (hc 2)).mono (by omega) (by omega) (by omega)) hq
 ·exact one ((Jm (hc 0) (hc 1) (hc 2) (hc 3)).mono (by omega) (by omega) (by omega)) hq
 ·exact one ((kC (hc 0) (hc 1) (hc 2) (hc 3)).mono (by omega) (by omega) (by omega)) hq
 ·exact one (((kC (hc 0) (hc 1) (hc 0) (hc 1)).sub (kC (hc 2) (hc 3) (hc 2) (hc 3))).mono (by omega) (by omega) (by omega)) hq
 ·exact two ((((hc 1).x.add (hc 2).x).sub ((hc 0).x.add (hc 0).x)).mono (by omega) (by omega) (by omega)) ((((hc 1).y.add (hc 2).y).sub ((hc 0).y.add (hc 0).y)).mono (by omega) (by omega) (by omega)) hq
 ·exact one (MW (h3 (.inl rfl)) _ _ _ _ _ _ _ _) hq
 ·exact one (MW (h3 (.inr rfl)) _ _ _ _ _ _ _ _) hq
 ·exact two (((hc 0).x.sub (hc 1).x).mono (by omega) (by omega) (by omega)) (((hc 0).y.sub (hc 1).y).mono (by omega) (by omega) (by omega)) hq
 ·exact one (((kC (hc 0) (hc 1) (hc 0) (hc 1)).sub ((kC (hc 2) (hc 3) (hc 2) (hc 3)).scale (a:=r) (L:=2000) (by have:=hr rfl;omega))).mono (by omega) (by omega) (by omega)) hq
theorem Qzo(cs:List Cd)(f:cn):(fw cs f).1=[]∨(cM f cs.length=0/\(fw cs f).1=cN f.k (fun i=>(bK cs f.args).getD i ([],[])) (rv f.n f.a f.d)):=by
 unfold fw;split
 ·rename_i h0;split
  ·exact .inl rfl
  ·exact .inr ⟨h0,rfl⟩
 ·exact .inl rfl
theorem Oo{k:Int}{p:Nat->Cd}{r:Rat}:(cN k p r).length<=2:=by
 unfold cN;repeat' split
 all_goals simp
theorem KN{cs:List Cd}{f:cn}(h:u0 cs f):(∀q∈(fw cs f).1,PQ (2^20) (2^31) 200 q)/\(fw cs f).1.length<=2:=by
 rcases Qzo cs f with e|⟨h0,e⟩
 ·rw[e];exact⟨fun q h=>(by cases h),KbG _⟩
 rw[e];obtain⟨k0,_,k2,_⟩:=sA h0;have hk:f.k=1∨f.k=2∨f.k=3∨f.k=4∨f.k=5∨f.k=6∨f.k=7∨f.k=8∨f.k=9:=by
  rcases ub f.k with h|h
  ·exact h
  ·exfalso;apply k0;unfold b9;repeat' split
   all_goals omega
 have get:∀(Q:Cd->Prop),Q ([],[])->(∀c∈bK cs f.args,Q c)->∀i,Q ((bK cs f.args).getD i ([],[])):=fun Q q0 q i=>by
  rw[Kae];cases e:(bK cs f.args)[i]? with
  |none=>exact q0
  |some c=>exact q c (Kah e)
 exact⟨QD hk (get CB ⟨.nil,.nil⟩ fun c hc=>h.c c (B6 k2 c hc)) (fun vz=>get C3 ⟨.nil,.nil⟩ (h.t h0 vz)) (fun h9=>(h.r h0 h9).2),Oo⟩
set_option maxHeartbeats 1000000 in
theorem ZI(hN:qj){S:List cC}{G:List cn}{f:cn}(hS:S.length<2^40)(hG:G.length<2^40)(hb:∀s∈S,oa s)(hg:∀g∈G,ns g)(hf:ns f):Qd Tryz.prog 3 [PV.fh S G,PV.fG f] (· = .bool true):=by
 have LR:=hf.l;refine Qf Qh Tryz.func3 rfl Zy (by simp[c3]) fun C hP=>?_;simp only[c3,Zo,Zg,Zm,Zc,Zf,Zl,Zh,Zs,Zi,Zb,Zk,Zn,Zu,Zq,Zr,Zz];refine Sz0 ?_;refine gz hP (GF hN hS hG hb hg) rfl rfl rfl ?_;rintro _ ⟨b,rfl,hbF⟩;cases b
 ·refine Sz0 ?_;refine Qa hP (qk hN) rfl rfl rfl ?_;refine Sz0 ?_;exact Qc rfl rfl
 have hF:=hbF rfl;refine Sz0 ?_;refine dA (fun fO=>?_) (fun fO=>?_)
 ·refine Sz0 ?_;refine Qa hP (qk hN) rfl rfl rfl ?_;refine Sz0 ?_;exact Qc rfl rfl
 refine Sz0 ?_;refine Qa hP (BI (n:=S.length) hf) rfl rfl rfl ?_;by_cases h0:cM f S.length=0
 ·have d:decide (cM f S.length=0)=true:=decide_eq_true h0;refine Sz1 d ?_;refine Qa hP QC rfl rfl rfl ?_;refine Sz0 ?_;refine gz hP (GF hN (G:=[f]) hS (show 1<_ by omega) hb (fun g h=>by rw[KaB.1 h];exact hf)) rfl rfl rfl ?_;rintro _ ⟨b,rfl,hbW⟩;cases b
  ·refine Sz0 ?_;refine Qa hP (qk hN) rfl rfl rfl ?_;refine Sz0 ?_;exact Qc rfl rfl
  have mC:=JZ hF hb hf fun _=>hbW rfl;refine Sz0 ?_;refine gz hP (Gm hN hF hS hG hb hg) rfl rfl rfl ?_;rintro _ ⟨cs,vs,e,rfl,q1,-⟩;by_cases he:e=0
  ·subst he;obtain⟨rfl,-⟩:=q1 rfl;obtain⟨hq,hl⟩:=KN mC;have c1:=uS (vs:=vs) mC;have c2:=JY (vs:=vs) mC;generalize fw (bE S S.length).1 f=Q at *
   generalize(bE S S.length).1=C0 at *
   obtain⟨L,z⟩:=Q;simp only at hq hl c1 c2;refine Sz0 ?_;refine Qa hP c1 rfl rfl rfl ?_;refine Sz0 ?_;refine Qa hP c2 rfl rfl rfl ?_;have d1:decide (¬z=z)=false:=by simp
   have d2:decide (¬(L.length:Int)=(L.length:Int))=false:=by simp
   refine Sz2 d1 d2 ?_;refine Q3 (by repeat (first|exact Qx|exact Qq|exact Qr|exact Qt|exact Qu|apply Qp|apply Qw|apply Q2|apply Q7|apply Q8|apply Qn|apply Q6)) [(4,4),(11,11),(69,82)] [] (fun m J hp=>∃i,m=L.length-i/\i<=L.length/\J 69= .int .i64 (i:Nat)) L.length ?_ ?_
   ·refine⟨0,rfl,by omega,?_⟩;refine Sz0 ?_;rfl
   rintro _ J h ⟨i,rfl,hi,rC⟩;refine Sz1 rC ?_;refine Qb (fun hc=>?_) (fun hc=>?_)
   ·have aD:i<L.length:=by omega
    have bf:=hq _ (Kaq aD);generalize hx:L[i]=x at *
    have ce:=AY bf.b bf.b (by omega) (by omega) (by have:=bf.l;omega) (by have:=bf.l;omega);rw[decide_eq_true rfl]at ce;refine Sz2 rC hx ?_;refine Qa hP ce rfl rfl rfl ?_;refine Sz1 rC ?_;refine Qm (L.length-(i+1)) (by omega) ⟨i+1,rfl,by omega,?_⟩;exact Tz0
   refine Sz0 ?_;refine Qa hP (qk hN) rfl rfl rfl ?_;refine Sz0 ?_;exact Qc rfl rfl
  ·have d:decide (¬e=0)=true:=decide_eq_true he;refine Sz1 d ?_;refine Qa hP (qk hN) rfl rfl rfl ?_;refine Sz0 ?_;exact Qc rfl rfl
 ·have d:decide (cM f S.length=0)=false:=decide_eq_false h0;have mC:=JZ hF hb hf fun h=>absurd h h0;refine Sz1 d ?_;refine gz hP (Gm hN hF hS hG hb hg) rfl rfl rfl ?_;rintro _ ⟨cs,vs,e,rfl,q1,-⟩;by_cases he:e=0
  ·subst he;obtain⟨rfl,-⟩:=q1 rfl;obtain⟨hq,hl⟩:=KN mC;have c1:=uS (vs:=vs) mC;have c2:=JY (vs:=vs) mC;generalize fw (bE S S.length).1 f=Q at *
   generalize(bE S S.length).1=C0 at *
   obtain⟨L,z⟩:=Q;simp only at hq hl c1 c2;refine Sz0 ?_;refine Qa hP c1 rfl rfl rfl ?_;refine Sz0 ?_;refine Qa hP c2 rfl rfl rfl ?_;have d1:decide (¬z=z)=false:=by simp
   have d2:decide (¬(L.length:Int)=(L.length:Int))=false:=by simp
   refine Sz2 d1 d2 ?_;refine Q3 (by repeat (first|exact Qx|exact Qq|exact Qr|exact Qt|exact Qu|apply Qp|apply Qw|apply Q2|apply Q7|apply Q8|apply Qn|apply Q6)) [(4,4),(11,11),(69,82)] [] (fun m J hp=>∃i,m=L.length-i/\i<=L.length/\J 69= .int .i64 (i:Nat)) L.length ?_ ?_
   ·refine⟨0,rfl,by omega,?_⟩;refine Sz0 ?_;rfl
   rintro _ J h ⟨i,rfl,hi,rC⟩;refine Sz1 rC ?_;refine Qb (fun hc=>?_) (fun hc=>?_)
   ·have aD:i<L.length:=by omega
    have bf:=hq _ (Kaq aD);generalize hx:L[i]=x at *
    have ce:=AY bf.b bf.b (by omega) (by omega) (by have:=bf.l;omega) (by have:=bf.l;omega);rw[decide_eq_true rfl]at ce;refine Sz2 rC hx ?_;refine Qa hP ce rfl rfl rfl ?_;refine Sz1 rC ?_;refine Qm (L.length-(i+1)) (by omega) ⟨i+1,rfl,by omega,?_⟩;exact Tz0
   refine Sz0 ?_;refine Qa hP (qk hN) rfl rfl rfl ?_;refine Sz0 ?_;exact Qc rfl rfl
  ·have d:decide (¬e=0)=true:=decide_eq_true he;refine Sz1 d ?_;refine Qa hP (qk hN) rfl rfl rfl ?_;refine Sz0 ?_;exact Qc rfl rfl
theorem IT(n:Nat)(w:World):Calls Tryz.prog 142 #[.int .u8 n] w fun e w'=>e= .returned (.bool (nH n))/\Ext bW w w':=by
 refine((Ol (n:=n)).2 w bW #[.int .u8 n] (fun _ h=>h.elim) rfl (fun i x hx=>?_)).mono fun e w' h=>?_
 ·match i,hx with
  |0,hx=>simp at hx;subst hx;exact Qo.int _ _
  |i+1,hx=>simp at hx
 ·obtain⟨v,r,rfl,h1,h2,rfl⟩:=h;cases h2;exact⟨rfl,h1⟩
theorem QE(n:Nat)(w:World):Calls Tryz.prog 143 #[.int .u8 n] w fun e w'=>e= .returned (.bool (yP n))/\Ext bW w w':=by
 refine((P0 (n:=n)).2 w bW #[.int .u8 n] (fun _ h=>h.elim) rfl (fun i x hx=>?_)).mono fun e w' h=>?_
 ·match i,hx with
  |0,hx=>simp at hx;subst hx;exact Qo.int _ _
  |i+1,hx=>simp at hx
 ·obtain⟨v,r,rfl,h1,h2,rfl⟩:=h;cases h2;exact⟨rfl,h1⟩
theorem Qyk(w:World):Calls Tryz.prog 144 #[] w fun e w'=>∃b off cap,e= .returned (.slice (some ⟨b,off,none⟩) 29 cap)/\Ext bW w w'/\∀i,i<29->∃k∈lW,w'.cell? ⟨b,off+i,none⟩=some (.string k):=by
 refine(Qx4.2 w bW #[] (fun _ h=>h.elim) rfl (fun i x hx=>by simp at hx)).mono fun e w' h=>?_;obtain⟨v,r,rfl,h1,h2,rfl⟩:=h;have jl:Qo w' bW (.sl 1 (lW.map PV.str)) v:=h2;cases jl with
 |sl _ _ b off cap vs hX hb hl hc he hv hr=>
  refine⟨b,off,cap,rfl,h1,fun i hi=>?_⟩;have hlen:(lW.map PV.str).length=29:=rfl;have vQ:i<lW.length:=hi;have hg:(lW.map PV.str)[i]? =some (.str lW[i]):=by rw[Kap,Kaf vQ];rfl
  have h3:=hv i (by omega) 0 (by omega);have h4:=hr i _ hg 0 _ rfl;generalize vs i 0=u at h3 h4;cases h4;exact⟨lW[i],Kaq _,by rw[<-h3];simp⟩
theorem QF(s:ByteArray)(pos:Nat)(h:pos<s.size):1<=(Utf8.decode s pos).2:=by
 by_cases ha:(s[pos]'h).toNat<128
 ·rw[decode_ascii s pos h ha];exact Kag _
 ·exact(decode_high s pos h (by omega)).2
theorem SQ{w wr:World}(h:Ext bW w wr)(s:ByteArray)(p:Nat):Ext bW w (wr.iter s p):=h.trans (Ext.alloc wr _ _)
theorem Oq{w wr:World}(h:Ext bW w wr){b:Nat}(hb:w.heap.size<=b)(s:ByteArray)(p:Nat):Ext bW w (wr.iterAt b s p):=
 ⟨h.os,h.tape,h.output,by rw[Lib.iterAt_size];exact h.size,fun c hc hn=>by rw[Lib.iterAt_other _ _ _ _ _ (by omega)];exact h.block c hc hn⟩
theorem Yy{s k:ByteArray}(h:s.toList=k.toList):s=k:=by rw[Kcm,Kcm]at h;cases s;cases k;exact congrArg _ (Array.toList_inj.1 h)
theorem Hq{s:ByteArray}(h:Nm s):¬s.toList=[]:=fun e=>by have:=h.p;have h2:=congrArg List.length e;rw[Kcm,KbY]at h2;have:s.size=0:=h2;omega
theorem YA{s:ByteArray}(h:Nm s)(h0:0<s.size):¬((s.toList.isEmpty=true∨(20:Int)<s.size)∨(!nH (s[0]'h0).toNat)=true):=by
 rintro((e|e)|e)
 ·exact Hq h (List.isEmpty_iff.1 e)
 ·have:=h.l;omega
 ·rw[h.a 0 h0]at e;cases e
set_option maxHeartbeats 2000000 in
theorem Qyl (s:ByteArray) (hs:s.size<2^40) (w:World):Calls Tryz.prog 106 #[.string s] w fun e w'=>∃b,e= .returned (.bool b)/\Ext bW w w'/\(Nm s->b=true):=by
 go_enter Tryz.func106,Tryz.ntmps106
 go_wp2_with (go_at_call 142;refine(IT _ _).mono ?_;rintro e w2 ⟨rfl,hx⟩)
 all_goals try (go_ret;first|exact⟨_,rfl,Ext.refl _ _,fun hn=>absurd (by assumption) (Hq hn)⟩|exact⟨_,rfl,by assumption,fun hn=>absurd (by assumption) (YA hn _)⟩|exact .inl ⟨rfl,Ext.refl _ _,fun hn=>absurd hn.l (by omega)⟩)
 rotate_left
 ·exfalso;have h1:¬s.toList=[]:=by assumption
  have h2:¬0<s.size:=by assumption
  refine h1 (Kat.1 ?_);rw[Kcm];simp only[KbY];show s.size=0;omega
 rename_i r1 r2 r3 r4 r5 r6;clear r1 r2 r4;generalize s.toList.isEmpty=b0;generalize decide (20<(s.size:Int))=b1;generalize nH (s[0]'r3).toNat=b2
 go_loopw [3] (fun v wr=>∃pos,wr.heap[w2.heap.size]? =some (.stringIter s pos)/\Ext bW w wr) (fun _ wr=>s.size-wr.iterPos w2.heap.size)
 case atStart=>exact⟨0,World.iter_heap w2 s 0,SQ hx s 0⟩
 case round=>
  have zB:=hx.size;obtain⟨pos,vR,hE⟩:=hrel;have hip:wr.iterPos w2.heap.size=pos:=by simp[World.iterPos,vR]
  have abA:w2.heap.size<wr.heap.size:=(Kbc.1 vR).1;by_cases hp:pos<s.size
  ·have jv:∀ty,(Instr.next (.pointer (some ⟨w2.heap.size,0,none⟩)) true ty).run Tryz.prog wr=_:=fun ty=>Lib.run_next_any_at wr w2.heap.size s pos ty vR hp;have hwd:=QF s pos hp;obtain⟨wd,ads⟩:∃wd,(Utf8.decode s pos).2=wd:=⟨_,rfl⟩
   rw[ads]at jv hwd;have vS:=Lib.iterAt_heap wr w2.heap.size s pos (pos+wd) vR;have y4:=Oq hE zB s (pos+wd);obtain⟨W1,Fe⟩:∃W1,W1=wr.iterAt w2.heap.size s (pos+wd):=⟨_,rfl⟩
   have y3:w2.heap.size<W1.heap.size:=by rw[Fe,Lib.iterAt_size];exact abA
   rw[<-Fe]at jv vS y4;clear Fe
   go_wp2_with (first|(go_at_call 142;refine(IT _ _).mono ?_;rintro e w3 ⟨rfl,mO⟩)|(go_at_call 143;refine(QE _ _).mono ?_;rintro e w4 ⟨rfl,MA⟩))
   ·go_roundw
    case rel=>exact⟨pos+wd,(mO.block _ y3 id).trans vS,y4.trans mO⟩
    case measure=>
     have:w3.iterPos w2.heap.size=pos+wd:=by simp[World.iterPos,(mO.block _ y3 id).trans vS]
     omega
   ·go_ret
    refine⟨_,rfl,(y4.trans mO).trans MA,fun hn=>?_⟩;exact absurd (hn.a pos hp) (by assumption)
   ·have wu:=mO.trans MA
    go_roundw
    case rel=>exact⟨pos+wd,(wu.block _ y3 id).trans vS,y4.trans wu⟩
    case measure=>
     have:w4.iterPos w2.heap.size=pos+wd:=by simp[World.iterPos,(wu.block _ y3 id).trans vS]
     omega
  ·have jv:∀ty,(Instr.next (.pointer (some ⟨w2.heap.size,0,none⟩)) true ty).run Tryz.prog wr=_:=fun ty=>Lib.run_next_end_at wr w2.heap.size s pos ty vR hp
   go_wp2_with (go_at_call 144;refine(Qyk _).mono ?_;rintro e w5 ⟨bk,ok,ck,rfl,wu,hk⟩)
   have cU:=hE.trans wu
   go_loopw [38] (fun v wr=>∃i:Nat,v= .int .i64 i/\i<=29/\wr=w5) (fun v _=>29-(Go.RowKit.intOf v).toNat)
   case atStart=>exact⟨0,rfl,by omega,rfl⟩
   case round=>
    obtain⟨i,rfl,hi,rfl⟩:=hrel;by_cases mw:i<29
    ·obtain⟨k,hkm,hck⟩:=hk i mw;have kQ:(i:Int)<29:=by omega
     go_wp2
     ·go_ret
      refine⟨_,rfl,cU,fun hn=>?_⟩;exact absurd (Yy (eq_of_beq (by assumption))) (hn.k k hkm)
     ·have hwr:IntKind.i64.wrap ((i:Int)+1)=((i+1:Nat):Int):=by rw[IntKind.wrap_i64];omega
      refine fK (v:=.int .i64 ((i+1:Nat):Int)) (w':=wr) ?_ ?_
      ·unfold execOp;simp[Act.eval,eqGuard,binOp,Op.intArith,hwr]
       try trace_state
      ·rename_i ka kb;refine kb _ _ ?_
       go_wp2
       refine fK (v:=.int .i64 ((i+1:Nat):Int)) (w':=wr) ?_ ?_
       ·unfold execOp;simp[Act.eval,Act.put]
        try trace_state
       ·rename_i kc kd;refine kd _ _ ?_
        go_wp2
        refine⟨?_,?_⟩
        ·repeat apply Exists.intro
         refine⟨⟨i+1,rfl,by omega,trivial⟩,rfl⟩
        ·show 29-(Go.RowKit.intOf (.int .i64 ((i+1:Nat):Int))).toNat<29-(Go.RowKit.intOf (.int .i64 (i:Int))).toNat;simp only[Go.RowKit.intOf,KbW];omega
    ·have kQ:¬(i:Int)<29:=by omega
     go_wp2
     go_ret
     first|exact⟨.inr rfl,cU⟩|exact .inr ⟨rfl,cU⟩
theorem NW(s:ByteArray)(hs:s.size<2^40):Qd Tryz.prog 106 [PV.str s] (fun r=>∃b,r= .bool b/\(Nm s->b=true)):=by
 refine⟨by unfold lI;kernel_rfl,fun w X aU hX hl ha=>?_⟩;have h0:=ha 0 (.str s) rfl;obtain⟨v,rfl⟩:∃v,aU= #[v]:=by
  obtain⟨l⟩:=aU
  match l,hl with
  | [v],_=>exact⟨v,rfl⟩
 have h1:Qo w X (.str s) v:=h0;cases h1;refine(Qyl s hs w).mono fun e w' h=>?_;obtain⟨b,rfl,h2,h3⟩:=h;exact⟨_,.bool b,rfl,h2,Qo.bool b,b,rfl,h3⟩
theorem SR:qj:=fun s hs=>NW s hs
theorem ZJ{S:List cC}{G:List cn}{f:cn}(h:Cm S G)(hf:sN f):Qd Tryz.prog 3 [PV.fh S G,PV.fG f] (· = .bool true):=
 ZI SR (by have:=h.1.1;omega) (by have:=h.2.1;omega) (fun s hs=>Ys (h.1.2 s hs)) (fun g hg=>Hl (h.2.2 g hg)) (Hl hf)
open Go Go.FW Go.ChangeShapes Go.WideShapes Go.ChangeAt Go.RowKit
theorem ZG(H:Type)(enc:TypeId×Value->H)(W:World)(base:Nat)(args:Array Value)(ds gs:List (DataW H))(before:List MemPlace)
  (er:∀(j:Nat) t v,Tryz.f3.params[j]? =some t->args[j]? =some v->Value.okWide Tryz.prog W .any base t v)
  (hW:DataW.Whole enc Tryz.prog Tryz.f3.params.toList Rows.goalsPolynomialsSpec.vars false W args.toList ds gs before) (hk:Rows.uptoSmall H (ds++gs)=true):
  Calls Tryz.prog 3 args W fun e W'=>∃v,e= .returned v/\Rows.goalsPolynomialsSpec.post enc Tryz.prog Tryz.f3 false true false false W args v W':=by
 have vG:=hW;obtain⟨p,q,hA0,hV,rfl,js,FO⟩:=hW;have hA:DataW.TrodAll enc Tryz.prog W 0 (fun _=>true) true Tryz.f3.params.toList args.toList ds p:=hA0;rw[Tryz.params3]at hA er;obtain⟨v0,vs0,e0,ds0,p0,q0,cl,rfl,rfl,h0,r0⟩:=trodAll_cons hA;obtain⟨v1,vs1,e1,ds1,p1,q1,rfl,rfl,rfl,h1,r1⟩:=trodAll_cons r0;obtain⟨rfl,rfl,rfl⟩:=trodAll_nil r1;obtain rfl:args= #[v0,v1]:=by cases args;simp_all
 obtain⟨rfl,rfl⟩:=trodVars_none hV;have hb:=R5 hk;simp only[Kao,Rows.uptoBulkAll]at hb;obtain⟨S0,G0,g0,b0⟩:=Om (er 0 _ v0 rfl rfl) h0 (by omega);obtain⟨a1,g1,b1⟩:=Se (er 1 _ v1 rfl rfl) h1 (by omega);exact PF vG rfl (by kernel_rfl) (by kernel_rfl) rfl (ZJ b0 b1) rfl
  (R6 (vs:=[v0,v1]) (by
   intro i x hx v hv
   match i,hx,hv with
   |0,hx,hv=>simp at hx hv;subst hx hv;exact g0
   |1,hx,hv=>simp at hx hv;subst hx hv;exact g1
   |i+2,hx,hv=>simp at hx) rfl)
theorem ZH(os:Os)(started:os.Started)(H:Type)(enc:TypeId×Value->H)(F:Stop.Interp):
  ReturnsInHanded {} Tryz.checked os 3 .any ((Rows.OpenSpec.upto Rows.goalsPolynomialsSpec).pre6 enc Tryz.prog Tryz.f3 Rows.goalsPolynomialsUptoRow.domain false) (((Rows.OpenSpec.upto Rows.goalsPolynomialsSpec).at F).post enc Tryz.prog Tryz.f3 false true false false):=by
 refine returnsInHanded_of_cond (C:=Tryz.checked) (s:=Rows.OpenSpec.upto Rows.goalsPolynomialsSpec) (k:=Rows.uptoSmall) rfl own started (by kernel_rfl) Tryz.func3
  (OpenSpec.witness (enc:=enc) (C:=Tryz.checked) (s:=Rows.OpenSpec.upto Rows.goalsPolynomialsSpec) (k:=Rows.uptoSmall) rfl false ⟨#[],#[.agg #[.slice none 0 0,.slice none 0 0],.agg #[.int .i64 0,.slice none 0 0,.bool false,.slice none 0 0,.slice none 0 0]],[]⟩ 8 (by kernel_rfl) (by kernel_rfl) (by kernel_rfl)
   (x:=([.agg [.nil,.nil],.agg [.lit (.int .i64 0),.nil,.agg [.agg [.lit (.bool false),.nil],.nil]]],[],[])) (by kernel_rfl) rfl (by kernel_rfl)) ?_
 intro W base args ds gs before er hW _ hk _;exact ZG H enc W base args ds gs before er hW hk
theorem goalsPolynomials_proved:Rows.GoalsPolynomialsUptoSaid:=
 OpenClaim.holds_of_cond 3 Tryz.f3 rfl rfl rfl rfl rfl rfl rfl ⟨rfl,rfl,rfl,rfl,rfl⟩ rfl rfl rfl rfl rfl (by kernel_rfl) Tryz.func3 (by kernel_rfl)
  (of_decide_eq_true (by kernel_rfl)) (by unfold Func.isWrapper;first|(rw[if_pos (by decide+kernel)];kernel_rfl)|(rw[if_neg (by decide+kernel)];exact⟨rfl,rfl⟩))
  (fun os started H enc _ F=>ZH os started H enc F)
end Go.Proofs.YtonjiljafkiikaaGreat
