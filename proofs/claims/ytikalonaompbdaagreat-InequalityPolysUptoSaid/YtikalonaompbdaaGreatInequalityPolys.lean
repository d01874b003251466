/- Poly of inequalities is that of the specification, or the error, for any facts. No conditions. -/
import Derived.Test.YtikalonaompbdaaGreatInequalityPolysPart23
set_option maxHeartbeats 1000000
set_option linter.all false
set_option maxRecDepth 100000
namespace Go.Proofs.YtikalonaompbdaaGreat
open Go Go.FW
variable{G:List bB}{S:List bR}{c:Cd}{i:Nat}{p:List Tm}
def K0(hF:qj S G)(hb:∀s∈S,lX s):∀c∈(bf S S.length).1,C8 c:=λc hc=>by obtain⟨n,hn,rfl⟩:=KaH hc;have hl:=tU S S.length;obtain⟨w,_,w8,_,hw⟩:=Bb hF hb S.length (Kag _) n Oz;rw[Kac,Kae hn]at hw;exact CQ.mono hw w8 Oz w8
def C8.cb(h:C8 c):CB c:=CQ.mono h Oz Oz Oz
def KC{f:bB}{m:Nat}(hf:iA f)(hs:f.a.length<=2/\f.d.length<=2)(h:cP f (m:Nat)=0):Ak m f:=by
 unfold cP at h;split at h
 .cases h
 rename_i h1;split at h
 .cases h
 rename_i h2;split at h
 .cases h
 rename_i h3;split at h
 .cases h
 rename_i h4;have hk:f.k=4\/f.k=9:=Oz;refine⟨hk,?_,λh9=>?_⟩
 .have hr:∀a∈f.args,0<=a/\a<(m:Nat):=λa ha=>by have h5:=mt (λhh=>KaJ.2 ⟨a,ha,hh⟩) h3;simp only[decide_eq_true_eq]at h5;omega
  match hq:f.args,(show f.args.length=4 by omega),hr with
  | [a,b,c,d],_,hr=>have ha:=hr a (by simp);have hb:=hr b (by simp);have hc:=hr c (by simp);have hd:=hr d (by simp);exact⟨a.toNat,b.toNat,c.toNat,d.toNat,by rw[KcT ha.1,KcT hb.1,KcT hc.1,KcT hd.1],Oz,Oz,Oz,Oz⟩
 .have hq:fL f.n f.a f.d=true:=by
   cases hr:fL f.n f.a f.d with
   |true=>rfl
   |false=>exact absurd ⟨h9,hr⟩ h4
  have uL:=hf.r;refine⟨yU uL.la uL.ld hq,?_⟩;have:=(show Raw 2 f.n f.a f.d from⟨uL.la,uL.ld,hs.1,hs.2,Oz⟩).rs;omega
def K1{L:List bB}(hF:qj S G)(hb:∀s∈S,lX s)(bZ:∀g∈L,iA g)(hs:∀g∈L,g.a.length<=2/\g.d.length<=2)(h0:∀j (h:j<L.length),cP L[j] (S.length:Nat)=0)(hi:i<L.length):PQ 1024 33000 16 (ny (bf S S.length).1 L i):=by
 have iT:L.getD i ⟨0,[],false,[],[]⟩=L[i]:=by rw[Kac,Kae hi];rfl
 have hm:=Kad hi;show PQ 1024 33000 16 (ki _ (L.getD i _));rw[iT];exact adq (K0 hF hb) (by rw[tU];exact KC (bZ _ hm) (hs _ hm) (h0 i hi))
def K2{L:List bB}(hF:qj S G)(hb:∀s∈S,lX s)(bZ:∀g∈L,iA g)(hL:L.length<=4)(hs:∀g∈L,g.a.length<=2/\g.d.length<=2)(h0:∀j (h:j<L.length),cP L[j] (S.length:Nat)=0)(hi:i<=L.length)(hp:gS (ny (bf S S.length).1 L) i=some p):PQ 4096 132000 16 p:=by
 have h:=SA i p hp λj hj=>K1 hF hb bZ hs h0 (show j<L.length by omega)
 have:i=0\/i=1\/i=2\/i=3\/i=4:=Oz;rcases this with rfl|rfl|rfl|rfl|rfl<;>exact h.mono Oz Oz (Kag _)
def MS{L:List bB}(hF:qj S G)(hb:∀s∈S,lX s)(hg:∀g∈G,iA g)(bZ:∀g∈L,iA g)(hL:L.length<=4)(hs:∀g∈L,g.a.length<=2/\g.d.length<=2):
  AC 10 [PV.cn S G,.sl 5 (L.map PV.dJ)] (· =jz S (bf S S.length).1 L):=by
 have Ny:=hF.l;have hl:=tU S S.length;refine aoj (vs:=(bf S S.length).2.1) Oz Oz bZ (La hF hb hg) Oz (λc hc=>(K0 hF hb c hc).cb) (λf hf h=>by rw[hl];exact KC (bZ f hf) (hs f hf) h) (λi p hi h0 hp=>?_);have h1:=K2 hF hb bZ hL hs h0 (Kc0 hi) hp;have h2:=K1 hF hb bZ hs h0 hi;exact akF h1 (h2.mono Oz Oz (Kag _)) Oz Oz Oz
def ah1(hN:vg){L:List bB}(hF:qj S G)(hb:∀s∈S,lX s)(hg:∀g∈G,iA g)(bZ:∀g∈L,iA g)(hL:L.length<=4)(hs:∀g∈L,g.a.length<=2/\g.d.length<=2):
  AC 11 [PV.cn S G,.sl 5 (L.map PV.dJ)] (· =jz S (bf S S.length).1 L):=by
 have Ny:=hF.l;have hGl:=hF.gl;have hl:=tU S S.length;refine akK (vs:=(bf S S.length).2.1) Oz Oz bZ (ay0 hN hF Oz Oz hb hg) Oz (λc hc=>(K0 hF hb c hc).cb) (λf hf h=>by rw[hl];exact KC (bZ f hf) (hs f hf) h) (λi p hi h0 hp=>?_);have h1:=K2 hF hb bZ hL hs h0 (Kc0 hi) hp;have h2:=(K1 hF hb bZ hs h0 hi).mono (T':=4096) (K':=132000) (E':=16) Oz Oz (Kag _);have h3:=h1.add h2;exact⟨HW h1 h2 Oz Oz Oz,UX (E:=16) (λt ht=>(h3.b t ht).2) (by have:=h3.l;omega)⟩
def ah2{L:List bB}(hF:qj S G)(hb:∀s∈S,lX s)(bZ:∀g∈L,iA g)(hL:L.length<=4)(hs:∀g∈L,g.a.length<=2/\g.d.length<=2):
  ∃p e,jz S (bf S S.length).1 L= .aI [PV.aC p,.int .i64 e]/\PQ 4096 132000 16 p/\(e≠0->p=[])/\(e=0->gS (ny (bf S S.length).1 L) L.length=some p/\(∀s∈S,kZ s.k=true)/\∀j (h:j<L.length),cP L[j] (S.length:Nat)=0):=by
 unfold jz;split
 .exact⟨[],8,rfl,PQ.nil,λ_=>rfl,λh=>by cases h⟩
 rename_i h1;split
 .rename_i h2;exact⟨[],_,rfl,PQ.nil,λ_=>rfl,λh=>absurd h h2⟩
 rename_i h2;have hz:rO L (S.length:Nat)=0:=Oz;have h0:∀j (h:j<L.length),cP L[j] (S.length:Nat)=0:=λj hj=>by
  unfold rO at hz;split at hz
  .rename_i f hf;exact absurd hz (by simpa using List.find?_some hf)
  .rename_i hf;have:=List.find?_eq_none.1 hf L[j] (Kad hj);simpa using this
 cases hq:gS (ny (bf S S.length).1 L) L.length with
 |none=>exact⟨[],4,rfl,PQ.nil,λ_=>rfl,λh=>by cases h⟩
 |some p=>refine⟨p,0,rfl,K2 hF hb bZ hL hs h0 (Kag _) hq,λh=>absurd rfl h,λ_=>⟨rfl,λs hs=>?_,h0⟩⟩;have:=Kas.1 (by simpa using h1) s hs;exact this
variable{a:Nat}
abbrev Ed(s:ByteArray):bR:=⟨1,s,[],false,[],[]⟩
def b6:List bR:=[Ed ⟨#[65]⟩,Ed ⟨#[66]⟩,Ed ⟨#[67]⟩,⟨2,⟨#[77]⟩,[1,2],false,[1],[2]⟩]
def Cm:List Cd:=[([],[]),(bJ 0,[]),(bJ 1,bJ 2),([((1:Rat)/2,[0,1]),((1:Rat)/2,[1])],[((1:Rat)/2,[0,0,1])])]
def mq:List bB:=[⟨9,[0,1,0,3],false,[1],[1]⟩,⟨9,[0,2,0,0],false,[1],[1]⟩]
def mW:List bB:=[⟨4,[0,1,0,2],false,[],[]⟩]
def UJ:(bf b6 b6.length).1=Cm:=by decide+kernel
def aeY:gS (ny Cm mq) mq.length=some sT:=by decide+kernel
def aeZ:gS (ny Cm mW) mW.length=some kM:=by decide+kernel
def FX:Raw 1048576 false [] []:=⟨λx h=>(by cases h),λx h=>(by cases h),KbK _,KbK _,by decide⟩
def Bd(h:a<65536):Qk [a]:=λx hx=>by rw[Kax.1 hx];exact h
def Uc{b:Nat}(ha:a<65536)(hb:b<65536):Raw 1048576 false [a] [b]:=⟨Bd ha,Bd hb,Ka7 rfl,Ka7 rfl,by decide⟩
def Ds:∀s∈b6,lX s:=λs h=>by
 simp only[b6,KaA,KaR,or_false]at h;rcases h with rfl|rfl|rfl|rfl
 .exact⟨by decide,by decide,FX⟩
 .exact⟨by decide,by decide,FX⟩
 .exact⟨by decide,by decide,FX⟩
 .exact⟨by decide,by decide,Uc (by decide) (by decide)⟩
def Be{s:ByteArray}:sD i (Ed s):=⟨show 0<=eG 1 by decide,show(0:Int)=eG 1 by decide,λa h=>(by cases h),show lN false [] []=true by decide⟩
def Tk:sD 3 ⟨2,⟨#[77]⟩,[1,2],false,[1],[2]⟩:=⟨show 0<=eG 2 by decide,show(2:Int)=eG 2 by decide,λa h=>by simp only[KaA,KaR,or_false]at h;rcases h with rfl|rfl<;>decide,show fL false [1] [2]=true by decide+kernel⟩
def Ud:∀i (h:i<b6.length),sD i b6[i]:=λi h=>by
 match i,h with
 |0,_=>exact Be
 |1,_=>exact Be
 |2,_=>exact Be
 |3,_=>exact Tk
 |i+4,h=>have:i+4<4:=h;omega
def Tl:DN b6 []:=⟨Ud,λg h=>(by cases h),by decide⟩
def H8(c:UInt8)(h:jG c.toNat=true)(hk:iX.all (λk=>decide (k≠⟨#[c]⟩))=true):Nq ⟨#[c]⟩:=by
 have key:∀m (hm:m<(⟨#[c]⟩:ByteArray).size),jG ((⟨#[c]⟩:ByteArray)[m]'hm).toNat=true:=λm hm=>by
  obtain rfl:m=0:=by have:m<1:=hm;omega
  exact h
 exact⟨Nat.zero_lt_one,by show 1<=20;decide,λh'=>key 0 h',λn h'=>.inl (key _ h'),λk hm e=>by have:=Kas.1 hk k hm;rw[decide_eq_true_eq]at this;exact this e.symm⟩
def akx:HH b6 []:=⟨Tl,λi h=>by
 match i,h with
 |0,_=>exact⟨Be,.inr ⟨H8 65 (by decide) (by decide+kernel),λj _ h=>by omega⟩⟩
 | 1,_=>exact⟨Be,.inr ⟨H8 66 (by decide) (by decide+kernel),λj hj h=>by
   match j,hj,h with
   |0,_,_=>show(⟨#[65]⟩:ByteArray)≠⟨#[66]⟩;decide+kernel⟩⟩
 | 2,_=>exact⟨Be,.inr ⟨H8 67 (by decide) (by decide+kernel),λj hj h=>by
   match j,hj,h with
   |0,_,_=>show(⟨#[65]⟩:ByteArray)≠⟨#[67]⟩;decide+kernel
   |1,_,_=>show(⟨#[66]⟩:ByteArray)≠⟨#[67]⟩;decide+kernel⟩⟩
 | 3,_=>exact⟨Tk,.inr ⟨H8 77 (by decide) (by decide+kernel),λj hj h=>by
   match j,hj,h with
   |0,_,_=>show(⟨#[65]⟩:ByteArray)≠⟨#[77]⟩;decide+kernel
   |1,_,_=>show(⟨#[66]⟩:ByteArray)≠⟨#[77]⟩;decide+kernel
   |2,_,_=>show(⟨#[67]⟩:ByteArray)≠⟨#[77]⟩;decide+kernel⟩⟩
 |i+4,h=>have:i+4<4:=h;omega,by decide⟩
def AT:qj b6 []:=⟨Tl,by decide,by decide,⟨by decide+kernel,λg h=>(by cases h)⟩,λs h=>by simp only[b6,KaA,KaR,or_false]at h;rcases h with rfl|rfl|rfl|rfl<;>exact⟨by decide,by decide⟩,λg h=>(by cases h),akx⟩
def apR:∀g∈mq,iA g:=λg h=>by simp only[mq,KaA,KaR,or_false]at h;rcases h with rfl|rfl<;>exact⟨by decide,Uc (by decide) (by decide)⟩
def aeb:∀g∈mq,g.a.length<=2/\g.d.length<=2:=λg h=>by simp only[mq,KaA,KaR,or_false]at h;rcases h with rfl|rfl<;>exact⟨by decide,by decide⟩
def apS:∀g∈mW,iA g:=λg h=>by simp only[mW,KaA,KaR,or_false]at h;subst h;exact⟨by decide,FX⟩
def aec:∀g∈mW,g.a.length<=2/\g.d.length<=2:=λg h=>by simp only[mW,KaA,KaR,or_false]at h;subst h;exact⟨by decide,by decide⟩
def KS:(b6.all λs=>kZ s.k)=true:=by decide
def ae0:jz b6 (bf b6 b6.length).1 mq= .aI [PV.aC sT,.int .i64 0]:=by
 rw[UJ];have h0:∀f∈mq,cP f (b6.length:Nat)=0:=by decide+kernel
 have h1:rO mq (b6.length:Nat)=0:=Hq λj h=>h0 _ (Kad h)
 unfold jz;rw[if_neg (by rw[KS];decide),if_neg (by rw[h1];decide),show gS (λi=>ki Cm (mq.getD i ⟨0,[],false,[],[]⟩)) mq.length=some sT from aeY];rfl
def ae1:jz b6 (bf b6 b6.length).1 mW= .aI [PV.aC kM,.int .i64 0]:=by
 rw[UJ];have h0:∀f∈mW,cP f (b6.length:Nat)=0:=by decide+kernel
 have h1:rO mW (b6.length:Nat)=0:=Hq λj h=>h0 _ (Kad h)
 unfold jz;rw[if_neg (by rw[KS];decide),if_neg (by rw[h1];decide),show gS (λi=>ki Cm (mW.getD i ⟨0,[],false,[],[]⟩)) mW.length=some kM from aeZ];rfl
def Un:(bf b6 b6.length).2.1.length=3/\JE (bf b6 b6.length).2.1=3:=by decide+kernel
def UK(aL:List Rat)(i:Nat):Bool:=((dP b6 aL i).1.all λp=>decide (rs p.1<=262144)&&decide (rs p.2<=262144))&&((dP b6 aL i).2.1.all λq=>decide (rs q<=262144))&&decide ((dP b6 aL i).2.1.length<=1048576)
def aed:((List.range 5).all λi=>UK ll i)=true:=by decide+kernel
def adL:((List.range 4).all λi=>decide ((b6.getD i fY).k=1->min (dP b6 ll i).2.2 2<=(dP b6 ll i).2.1.length)&&decide ((b6.getD i fY).k=5->1<=(dP b6 ll i).2.1.length))=true:=by decide+kernel
def adM:AC 50 [PV.cn b6 [],PV.cg ll,.aa] (· = .aI [PV.Fh ll (dP b6 ll b6.length).1,.int .i64 0,.int .i64 0]):=by
 obtain⟨v1,v2⟩:=Un;have bx:∀s∈b6,kZ s.k=true:=Kas.1 KS;refine aeU (vs:=(bf b6 b6.length).2.1) (La AT Ds (λg h=>by cases h)) (by decide) Oz bx (by decide) (by rw[v2];rfl) Ud (λs h hk=>⟨(AT.s s h).1,(AT.s s h).2,(Ds s h).r⟩) (by decide+kernel) (λi hi=>?_) (λi hi=>?_)
 .have h:=Kas.1 aed i (KbY.2 (by have:b6.length=4:=rfl;omega));unfold UK at h;rw[Kav,Kav]at h;obtain⟨⟨h1,h2⟩,h3⟩:=h;refine⟨λp hp=>?_,λq hq=>?_,?_⟩
  .have:=Kas.1 h1 p hp;rw[Kav,decide_eq_true_eq,decide_eq_true_eq]at this;exact⟨by have:=this.1;omega,by have:=this.2;omega⟩
  .have:=of_decide_eq_true (Kas.1 h2 q hq);omega
  .have:=of_decide_eq_true h3;omega
 .have h:=Kas.1 adL i (KbY.2 (by have:b6.length=4:=rfl;omega));rw[Kav,decide_eq_true_eq,decide_eq_true_eq]at h;rw[show b6.getD i fY=b6[i]by rw[Kac,Kae hi];rfl]at h;exact h
open Go.Proofs.Tryz
variable{C:Ctx}{d e n o ty:Nat}{fr:Fr}{hp:HP}{sk:List It}{xs:List PV}{z:Bool}
def c13:ax:=⟨58,[.t 4,.cell 5 3 true,.t 6],Zr (my 2 25 0<|Yi 4<|Zo (.alloc 5 3 39 (.agg [.aa,.aa,.aa]))<|Yf 6 0)<|Zr (sV 12 2 2 1<|Bz 14 10 12 13 11<|Zm 7 15<|Zm 6 16 .nil)<| .seq (Zr (YQ 17 6)<| .cond (.t 18) (Zr (Zo (.cD 19 [.aa,.aa,.aa] [])<|Zm 20 6<|Yi 4<|Zs 3 5 19<|Yc 6 20) .ret) .skip)<|Zr (YJ 22 7 49<|Zm 21 23<|Yd 24 21<|Zo (.ext 26 (.t 21) 2)<|Zm 4 24<|Zm 8 25<|Yc 6 26)<| .seq (Zr (Zm 27 6<|BA 28 27 17)<| .cond (.t 28) (Zr (iB 30 2 2 29<|Zm 29 31<|Yd 32 29<|Yr 9 76<|Zs 2 9 32<|Yc 10 33)<| .seq (.block 0<| .loop<| .seq (Zr (Yv 34 8<|YT 36 1 9<|Yu 39 35 38)<| .cond (.t 39) .skip (.exit 0))<| .block 1<| .rg (Zm 40 8<|Zq 41 false 35 [.c (Zz 0)]<|Zo (.bs 42 3 49 [.t 41])<|Zo (.app 43 3 56 49 (.t 40) (.t 42))<|Yc 8 43))<|Zr (sV 45 2 2 8<|Zq 47 false 50 [.t 45,.t 46,.c .aa]<|Zm 44 47<|Yd 48 44<|Zo (.ext 50 (.t 44) 2)<|Zs 3 5 48 .nil)<|Zr (Zh 51 3 5<|Yi 4<|Zs 3 5 51<|Yf 6 17) .ret) .skip)<| .seq (Zr (YQ 52 6)<| .cond (.t 53) (Zr (Zo (.cD 54 [.aa,.aa,.aa] [])<|Zm 55 6<|Yi 4<|Zs 3 5 54<|Yc 6 55) .ret) .skip)<|Zr (Zm 56 4<|Zo (.cD 57 [.aa,.aa,.aa] [])<|Zm 4 56<|Zs 3 5 57<|Yf 6 0) .ret⟩
def Uo:Qc Tryz.prog f13=some c13:=by kernel_rfl
def c22:ax:=⟨21,[.t 6],Zr (dH 3 2 25 0<|Yf 6 0)<|Zr (sV 10 2 3 1<|Bz 12 10 10 11 9<|Zm 7 13<|Zm 8 14 .nil)<| .seq (Zr (YQ 15 8)<| .cond (.t 16) (Zr (kO 17 8 6) .ret) .skip)<|Zr (YZ 18 7 2 68<|Yc 6 20) .ret⟩
def Up:Qc Tryz.prog f22=some c22:=by kernel_rfl
def Xl:ax:=⟨19,[.cell 0 2 true,.t 1],Zr (Zo (.alloc 0 2 25 (.agg [.aa,.aa]))<|YI 1)<|Zr (Zo (.cD 3 [Zz 0,.str ⟨#[]⟩,.aa,.bool false,.aa,.aa] [(0,1,.c (Zz 1)),(1,1,.c (.str ⟨#[0x41]⟩))])<|Zo (.cD 4 [Zz 0,.str ⟨#[]⟩,.aa,.bool false,.aa,.aa] [(0,1,.c (Zz 1)),(1,1,.c (.str ⟨#[0x42]⟩))])<|Zo (.cD 5 [Zz 0,.str ⟨#[]⟩,.aa,.bool false,.aa,.aa] [(0,1,.c (Zz 1)),(1,1,.c (.str ⟨#[0x43]⟩))])<|Zo (.bs 6 1 3 [.c (Zz 1),.c (Zz 2)])<| .wk<|Zq 7 false 74 [.c (Zz 1),.c (Zz 2)]<|Zo (.cD 8 [Zz 0,.str ⟨#[]⟩,.aa,.bool false,.aa,.aa] [(0,1,.c (Zz 2)),(1,1,.c (.str ⟨#[0x4d]⟩)),(2,1,.t 6),(3,3,.t 7)])<|Zo (.bs 9 6 68 [.t 3,.t 4,.t 5,.t 8])<| .wk<|Zo (.cD 10 [.aa,.aa] [(0,1,.t 9)])<|Zo (.alloc 2 2 25 (.agg [.aa,.aa]))<|Zs 2 2 10 .nil)<|Zr (Zh 11 2 2<| .br (Yz 12 1 3<| .wk<| .br (mw 13 12<| .br (Yz 15 2 0<| .wk<|mw 16 15<| .br (YN 18<| .wk<|Zs 2 0 11<|Yc 1 18) (Zs 2 0 11<|YN 18<| .wk<|Yc 1 18)) (Zq 16 true 53 [.c (Zz 1)]<| .br (Yz 15 2 0<| .wk<|Yj 17 15 16<| .br (YN 18<| .wk<|Zs 2 0 11<|Yc 1 18) (Zs 2 0 11<|YN 18<| .wk<|Yc 1 18)) (Zs 2 0 11<|Yz 15 2 0<| .wk<|Yj 17 15 16<|YN 18<| .wk<|Yc 1 18))) (Yz 15 2 0<| .wk<|mw 13 12<|mw 16 15<| .br (YN 18<| .wk<|Zs 2 0 11<|Yc 1 18) (Zs 2 0 11<|YN 18<| .wk<|Yc 1 18))) (.br (Zq 13 true 53 [.c (Zz 1)]<| .br (Yz 12 1 3<| .wk<|Yj 14 12 13<| .br (Yz 15 2 0<| .wk<|mw 16 15<| .br (YN 18<| .wk<|Zs 2 0 11<|Yc 1 18) (Zs 2 0 11<|YN 18<| .wk<|Yc 1 18)) (Zq 16 true 53 [.c (Zz 1)]<| .br (Yz 15 2 0<| .wk<|Yj 17 15 16<| .br (YN 18<| .wk<|Zs 2 0 11<|Yc 1 18) (Zs 2 0 11<|YN 18<| .wk<|Yc 1 18)) (Zs 2 0 11<|Yz 15 2 0<| .wk<|Yj 17 15 16<|YN 18<| .wk<|Yc 1 18))) (.br (Yz 15 2 0<| .wk<| .br (Yz 12 1 3<| .wk<|Yj 14 12 13<|mw 16 15<| .br (YN 18<| .wk<|Zs 2 0 11<|Yc 1 18) (Zs 2 0 11<|YN 18<| .wk<|Yc 1 18)) (mw 16 15<| .br (Yz 12 1 3<| .wk<|Yj 14 12 13<| .br (YN 18<| .wk<|Zs 2 0 11<|Yc 1 18) (Zs 2 0 11<|YN 18<| .wk<|Yc 1 18)) (Zs 2 0 11<|Yz 12 1 3<| .wk<|Yj 14 12 13<|YN 18<| .wk<|Yc 1 18))) (Zq 16 true 53 [.c (Zz 1)]<| .br (Yz 12 1 3<| .wk<|Yj 14 12 13<| .br (Yz 15 2 0<| .wk<|Yj 17 15 16<| .br (YN 18<| .wk<|Zs 2 0 11<|Yc 1 18) (Zs 2 0 11<|YN 18<| .wk<|Yc 1 18)) (Zs 2 0 11<|Yz 15 2 0<| .wk<|Yj 17 15 16<|YN 18<| .wk<|Yc 1 18)) (.br (Yz 15 2 0<| .wk<|Yj 17 15 16<| .br (Yz 12 1 3<| .wk<|Yj 14 12 13<| .br (YN 18<| .wk<|Zs 2 0 11<|Yc 1 18) (Zs 2 0 11<|YN 18<| .wk<|Yc 1 18)) (Zs 2 0 11<|Yz 12 1 3<| .wk<|Yj 14 12 13<|YN 18<| .wk<|Yc 1 18)) (Zs 2 0 11<| .br (Yz 12 1 3<| .wk<|Yj 14 12 13<|Yz 15 2 0<| .wk<|Yj 17 15 16<|YN 18<| .wk<|Yc 1 18) (Yz 15 2 0<| .wk<|Yj 17 15 16<|Yz 12 1 3<| .wk<|Yj 14 12 13<|YN 18<| .wk<|Yc 1 18)))))) (Yz 15 2 0<| .wk<| .br (Yz 12 1 3<| .wk<|mw 13 12<|mw 16 15<| .br (YN 18<| .wk<|Zs 2 0 11<|Yc 1 18) (Zs 2 0 11<|YN 18<| .wk<|Yc 1 18)) (Zq 13 true 53 [.c (Zz 1)]<| .br (Yz 12 1 3<| .wk<|Yj 14 12 13<|mw 16 15<| .br (YN 18<| .wk<|Zs 2 0 11<|Yc 1 18) (Zs 2 0 11<|YN 18<| .wk<|Yc 1 18)) (mw 16 15<| .br (Yz 12 1 3<| .wk<|Yj 14 12 13<| .br (YN 18<| .wk<|Zs 2 0 11<|Yc 1 18) (Zs 2 0 11<|YN 18<| .wk<|Yc 1 18)) (Zs 2 0 11<|Yz 12 1 3<| .wk<|Yj 14 12 13<|YN 18<| .wk<|Yc 1 18)))))) .ret⟩
def adN:Qc Tryz.prog f28=some Xl.strip:=by kernel_rfl
def c9:ax:=⟨53,[.t 0],Zr (Yl 0)<|Zr (Zq 10 false 28 []<|Zm 9 10<|Yd 11 9<|Zo (.alloc 1 2 25 (.agg [.aa,.aa]))<|Zs 2 1 11<|Zm 2 12 .nil)<|Zr (sV 14 2 1 2<|Bz 16 13 14 15 13<|Zo (.ext 19 (.t 13) 2)<|Zo (.alloc 4 3 39 (.agg [.aa,.aa,.aa]))<|Zm 3 17<|Zs 3 4 18<|Yc 5 19)<|Zr (Zh 21 2 1<|Yz 22 1 2<| .wk<|Zo (.cD 23 [Zz 0,.aa,.bool false,.aa,.aa] [(0,1,.c (Zz 4)),(1,1,.t 22)])<|Zo (.bs 24 5 65 [.t 23])<| .wk<| .wk<|Bz 25 13 21 24 20<|Zo (.ext 28 (.t 20) 2)<|Zo (.alloc 7 3 39 (.agg [.aa,.aa,.aa]))<|Zm 6 26<|Zs 3 7 27<|Yc 8 28)<|Zr (Zm 29 5<|Zk 30 .eql 29 0<|YO 31 30 3<|Zg 31 true (.len 33 (.t 32))<|Zg 31 true (.bin 34 .eql false (.t 33) (.c (Zz 3)))<|Ym 35 31 34<|Zm 36 35<|Zg 36 true (.ld 37 2 true (.t 1))<|Zg 36 true (.mv 38 (.t 2))<|Zg 36 true (.mv 39 (.t 3))<|Zg 36 true (.call (some 40) false (.c (.fn 22 [] [])) [.t 37,.t 38,.t 39])<|Zg 36 true (.bin 41 .eql false (.t 40) (.c (Zz 0)))<|Ym 42 36 41<|YO 43 42 8<|Zg 43 true (.bin 45 .eql false (.t 44) (.c (Zz 17)))<|Ym 46 43 45<|Zm 47 46<|YK 47 2 7<|Zg 47 true (.len 50 (.t 49))<|Zg 47 true (.bin 51 .eql false (.t 50) (.c (Zz 4)))<|Ym 52 47 51<|Yc 0 52) .ret⟩
def ae2:Qc Tryz.prog f9=some c9.strip:=by kernel_rfl
def RW:AC 10 [PV.cn b6 [],.sl 5 (mq.map PV.dJ)] (· = .aI [PV.aC sT,.int .i64 0]):=by have h:=MS AT Ds (λg h=>by cases h) apR (by decide) aeb;rw[ae0]at h;exact h
def aky:AC 10 [PV.cn b6 [],.sl 5 (mW.map PV.dJ)] (· = .aI [PV.aC kM,.int .i64 0]):=by have h:=MS AT Ds (λg h=>by cases h) apS (by decide) aec;rw[ae1]at h;exact h
def ags:AC 13 [PV.cn b6 [],.sl 5 (mq.map PV.dJ)] (· = .aI [PV.gj (vF),.agg [.aa,.aa,.aa],.int .i64 0]):=by
 have h1:=RW;have h2:=R4.1;generalize b6=S at *
 generalize mq=L at *
 generalize vF=Q at *
 generalize sT=p at *
 refine aF Qd func13 Uo λC hP=>?_;refine ay hP h1 ?_;refine ay hP h2 ?_;refine Sz0 ?_;refine FD ?_;refine Sz0 ?_;exact ox rfl rfl rfl rfl (Qi _) (Qi _) (Qi _)
def aiv:AC 22 [PV.cn b6 [],.sl 5 (mq.map PV.dJ),PV.gj (vF)] (· = .int .i64 0):=by
 have h1:=RW;have h2:=R4.2;generalize b6=S at *
 generalize mq=L at *
 generalize vF=Q at *
 generalize sT=p at *
 refine aF Qd func22 Up λC hP=>?_;refine ay hP h1 ?_;refine ay hP h2 ?_;exact cf
def agt:AC 13 [PV.cn b6 [],.sl 5 (mW.map PV.dJ)] (· = .aI [PV.gj [],PV.Fh ll (dP b6 ll b6.length).1,.int .i64 17]):=by
 have h1:=aky;have h2:=akw;have h3:=La AT Ds (λg h=>by cases h);have h4:=adM;have hv:=Un.1;have hw:ll.length=3:=rfl;generalize(dP b6 ll b6.length).1=P at *
 generalize(bf b6 b6.length).1=cs at *
 generalize(bf b6 b6.length).2.1=vs at *
 generalize b6=S at *
 generalize mW=L at *
 generalize ll=W at *
 generalize kM=p at *
 refine aF Qd func13 Uo λC hP=>?_;refine ay hP h1 ?_;refine ay hP h2 ?_;refine ay hP h3 ?_;refine Sz0 ?_;refine Qh okB [(8,8),(34,43)] [42,43] (λm J hp=>m=0/\J 8=PV.cg W/\hp 2=some ⟨2,25,[PV.cn S []],false⟩/\hp 9=some ⟨2,76,[PV.frame cs vs],false⟩/\hp 5=some ⟨3,39,[.agg [.aa,.aa,.aa]],false⟩) 0 ?_ ?_
 .refine⟨rfl,?_⟩;refine Sz0 ?_
  try trivial
 rintro _ J h ⟨rfl,j8,hb2,hb9,gf⟩;refine Sz2 j8 hb9 ?_;refine Qm (λhc=>absurd hc Oz) (λhc=>?_);refine bE j8 hb2 hP h4 ?_;refine Sz1 gf ?_;refine FD ?_;refine Sz1 gf ?_;exact ox rfl rfl rfl rfl (p':=PV.gj []) trivial (Qi _) (Qi _)
def ar2{K:Qf}{z:List PV}{o2 n2 o3 n3 o4 n4:Nat}{p q r u:PV}(h:p.flat=true)(h2:q.flat=true)(h3:r.flat=true)(h4:u.flat=true):nJ z [(o,n,p),(o2,n2,q),(o3,n3,r),(o4,n4,u)] d fr hp K=
  ((p.cells.length=n/\o+n<=z.length)/\(q.cells.length=n2/\o2+n2<=z.length)/\(r.cells.length=n3/\o3+n3<=z.length)/\(u.cells.length=n4/\o4+n4<=z.length)/\K (ae fr d (.agg (jN z [(o,p.cells),(o2,q.cells),(o3,r.cells),(o4,u.cells)]))) hp):=by
 rw[CW (by simp[h,h2,h3,h4])];simp[and_assoc]
attribute [go_sem] ar2
def Dd{R:Qf}{r:RT}(s n:Nat)(h:fr s= .aD s 0 n)(hb:hp s=some ⟨e,ty,xs,z⟩)(hn:n=xs.length)(hy:bN s=false)(hv:vc C R (.o r::sk) (ae fr s (.sl e xs)) (FW.Qu hp [s])):vc C R (.o (.wk r)::sk) fr hp:=by
 have es:Qr hp (fr s)= .sl e xs:=by rw[h];show cA hp (.aD s 0 n)=_;simp[cA,yM hy,hb,hn]
 have h2:=vm (fr:=fr) (hp:=hp) s (by rw[es];rfl);rw[es,h]at h2;exact bV h2 hv
def JN(s:ByteArray):PV:=.agg [.int .i64 1,.str s,.aa,.bool false,.aa,.aa]
def Nj:PV:=.agg [.sl 6 [JN ⟨#[65]⟩,JN ⟨#[66]⟩,JN ⟨#[67]⟩,PV.gK ⟨2,⟨#[77]⟩,[1,2],false,[1],[2]⟩],.aa]
def KT{s:ByteArray}:xt (JN s).cells (PV.gK (Ed s)).cells:=.cons (.rfl _) (.cons (.rfl _) (.cons (.nil _) (.cons (.rfl _) (.cons (.nil _) (.cons (.nil _) .nil)))))
def QH:∀l:List PV,xt l l
 | []=>.nil
 |p::l=>.cons (.rfl p) (QH l)
def Mu{f:FuncId}{bs:List PV}{R:PV->Prop}(h:AC f (PV.cn b6 []::bs) R):AC f (Nj::bs) R:=
 Qa.qZ (ls:=[]) h (.cons (.sl _ (.cons KT (.cons KT (.cons KT (.cons (QH _) .nil))))) (.cons (.nil _) .nil))
def akz:PV.rat (((1:Int):Rat)/((2:Int):Rat))=PV.rr false [1] [2]:=by rw[yU (Bd (by decide)) (Bd (by decide)) (by decide+kernel),show((1:Int):Rat)/((2:Int):Rat)=rv false [1] [2]by decide+kernel]
def apT:PV.rat ((1:Int):Rat)=PV.rr false [1] [1]:=by rw[yU (Bd (by decide)) (Bd (by decide)) (by decide+kernel),show((1:Int):Rat)=rv false [1] [1]by decide+kernel]
def Q9o:AC 28 [] (· = .aI [Nj,.sl 5 (mq.map PV.dJ)]):=by
 have hf:=Q61 (x:=1) (y:=2) Oz Oz Oz;have ho:=Gt (x:=1) Oz Oz;rw[akz]at hf;rw[apT]at ho;have sc:∀s,(PV.str s).cells=[.str s]:=λ_=>rfl
 refine tM Qd func28 rfl adN Nz λC hP=>?_;simp only[Xl];refine cC ?_;refine Sz1 sc ?_;refine bV (vm 6 sU) ?_;refine jQ sc ?_;refine Qy hP hf ?_;refine jQ sc ?_;rw[yK rfl (λp hp=>by simp only[KaA,KaR,or_false]at hp;rcases hp with rfl|rfl|rfl|rfl<;>rfl) Oz];refine jQ sc ?_;refine bV (vm 9 sU) ?_;refine jQ sc ?_
 repeat' first
  |refine fU ?_ ?_
  |rw[yK rfl (λp hp=>by simp only[KaA,KaR,or_false]at hp;rcases hp with rfl|rfl|rfl|rfl<;>rfl) Oz]
  |refine Dd 12 4 rfl ba rfl (by decide) ?_
  |refine Dd 15 4 rfl ba rfl (by decide) ?_
  |refine Dd 18 2 rfl ba rfl (by decide) ?_
  |refine Qy hP ho ?_
  |simp+decide (disch:=try exact E1 sc) only[go_sem,sc,ch,Kak,Kao,Kal,Kaq,Kai]
 all_goals
  refine ss (nH ?_);refine jQ sc ?_;exact ek rfl rfl rfl (Qi _) (Qi _)
def apU:AC 9 [] (· = .bool true):=by
 have hm:=Q9o;have h1:=Mu ags;have h2:=Mu agt;have h3:=Mu aiv;have l3:=UI;have hp4:((dP b6 ll b6.length).1.length:Nat)=4:=(HJ b6 ll 4).1;have hfg:∃l,Nj= .agg [.sl 6 l,.aa]:=⟨_,rfl⟩
 obtain⟨F,hF⟩:=hfg;rw[hF]at hm h1 h2 h3;generalize(dP b6 ll b6.length).1=P at *
 generalize vF=Q at *
 generalize ll=W at *
 generalize mq=L at *
 refine tM Qd func9 rfl ae2 Nz λC hP=>?_;simp only[c9];refine cC ?_;refine ay hP hm ?_;refine ay hP h1 ?_;refine Sz0 ?_;rw[yK rfl (λp hp=>by simp only[KaA,KaR,or_false]at hp;rcases hp with rfl|rfl|rfl|rfl<;>rfl) Oz];refine Sz0 ?_;refine Dd 22 4 rfl ba rfl (by decide) ?_;refine de ?_;have xL:∀ {fr:Fr} {hp:HP},hp 24=some ⟨5,65,[.agg [.int .i64 4,PV.mono [0,1,0,2],.bool false,.aa,.aa]],false⟩->Wk fr hp fr (Qg hp 24 ⟨5,65,mW.map PV.dJ,false⟩):=λh=>by
  refine KP h rfl λi x x' hx bc=>?_
  match i,hx,bc with
  |0,hx,bc=>
   cases hx;cases bc;refine⟨rfl,rfl,λj y y' hy iV=>?_⟩
   match j,hy,iV with
   |0,hy,iV=>cases hy;cases iV;exact tP _
   |1,hy,iV=>cases hy;cases iV;exact tP _
   |2,hy,iV=>cases hy;cases iV;exact tP _
   |3,hy,iV=>cases hy;cases iV;trivial
   |4,hy,iV=>cases hy;cases iV;trivial
   |j+5,hy,_=>cases hy
  |i+1,hx,_=>cases hx
 refine bV (xL ba) ?_;have wc:mW.length=1:=rfl;generalize mW=Mk at *
 refine Dd 24 1 rfl ba (by simp[wc]) (by decide) ?_;refine de ?_;refine Qy hP h2 ?_;refine jQ l3 ?_;refine Qy hP h3 ?_;have axI:(P.length:Int)=4:=Oz;refine jQ axI ?_;refine ss (cx ?_);refine de ?_;exact Qb rfl rfl
def c3:ax:=⟨37,[.t 4],Zr (my 2 25 0<|Yl 4)<| .seq (Zr (sV 9 2 2 1<|Yp 11 8 9 10<|Zu 12 11 .nil)<| .cond (.t 12) (Zr (Zq 13 false 9 []<|Zm 4 13 .nil) .ret) .skip)<|Zr (sV 15 2 2 1<|Bz 17 10 15 16 14<|ic 5 18 19)<|Zr (sV 21 2 2 1<|Bz 23 11 21 22 20<|ic 7 24 25)<|Zr (YZ 26 5 7 12<|YO 29 28 6<|Zg 29 true (.mv 31 (.t 8))<|Zg 29 true (.bin 32 .eql false (.t 30) (.t 31))<|Ym 33 29 32<|Zm 34 33<|Zg 34 true (.call (some 35) false (.c (.fn 9 [] [])) [])<|Ym 36 34 35<|Yc 4 36) .ret⟩
def acu:Qc Tryz.prog Tryz.f3=some c3:=by kernel_rfl
def arE(hN:vg){L:List bB}(hS:S.length<2^40)(hG:G.length<2^40)(hL:L.length<2^40)(hb:∀s∈S,lX s)(hg:∀g∈G,iA g)(bZ:∀g∈L,iA g):
  AC 3 [PV.cn S G,.sl 5 (L.map PV.dJ)] (· = .bool true):=by
 have oK:=aid hN hS hG hL hb hg bZ;have jU:=apU;refine aF Qd func3 acu λC hP=>?_;refine Sz0 ?_;refine kG hP oK rfl rfl rfl ?_;rintro _ ⟨b,rfl,BX⟩;cases b
 .refine ay hP jU ?_;exact cf
 have hs:=BX rfl;have h1:=MS hs.f hb hg bZ hs.l hs.s;have h2:=ah1 hN hs.f hb hg bZ hs.l hs.s;obtain⟨p,e,he,hp,-⟩:=ah2 hs.f hb bZ hs.l hs.s;rw[he]at h1 h2;have h3:=Q3t hp.b hp.b Oz Oz (by have:=hp.l;omega) (by have:=hp.l;omega);rw[decide_eq_true rfl]at h3;refine ay hP h1 ?_;refine ay hP h2 ?_;refine ay hP h3 ?_;refine ay hP jU ?_;exact cf
open Go Go.FW Go.ChangeShapes Go.WideShapes Go.ChangeAt Go.RowKit
variable {H : Type} {enc : TypeId × Value -> H} {w : World} {base : Nat} {spare : Nat -> Bool} {held : Bool} {r : Reach} {b0 : Nat} {v : Value} {d : DataW H} {ps : List MemPlace}
def aiw(fW:Value.okWide Tryz.prog w r b0 23 v)(hd:DataW.Trod enc Tryz.prog w base spare held 23 v d ps)(hn:Rows.uptoBulk d<=1048576):∃l,bS w di (.sl 5 (l.map PV.dJ)) v/\DF l:=by
 obtain⟨p,⟨l,e,h⟩,h2⟩:=PN Tryz.underlying23 fW RS hd hn;obtain rfl:p= .sl 5 (l.map PV.dJ):=by simpa using e
 exact⟨l,h2,h⟩
def akA:vg:=λs hs=>aga s hs
def arG{S:List bR}{G L:List bB}(h:J7 S G)(hl:DF L):AC 3 [PV.cn S G,.sl 5 (L.map PV.dJ)] (· = .bool true):=
 arE akA (by have:=h.1.1;omega) (by have:=h.2.1;omega) (by have:=hl.1;omega) (λs hs=>acP (h.1.2 s hs)) (λg hg=>TN (h.2.2 g hg)) (λg hg=>TN (hl.2 g hg))
end Go.Proofs.YtikalonaompbdaaGreat
namespace Go.Proofs.YtikalonaompbdaaGreat
open Go.Proofs.Tryz
open Go Go.FW Go.ChangeShapes Go.WideShapes Go.ChangeAt Go.RowKit
def acJ(H:Type)(enc:TypeId×Value->H)(W:World)(base:Nat)(args:Array Value)(ds gs:List (DataW H))(before:List MemPlace)
  (fW:∀(j:Nat) t v,Tryz.f3.params[j]? =some t->args[j]? =some v->Value.okWide Tryz.prog W .any base t v)
  (hW:DataW.Whole enc Tryz.prog Tryz.f3.params.toList Rows.inequalityPolysSpec.vars false W args.toList ds gs before) (hk:Rows.uptoSmall H (ds++gs)=true):
  Calls Tryz.prog 3 args W λe W'=>∃v,e= .returned v/\Rows.inequalityPolysSpec.post enc Tryz.prog Tryz.f3 false true false false W args v W':=by
 have Er:=hW;obtain⟨p,q,hA0,hV,rfl,oG,BT⟩:=hW;have hA:DataW.TrodAll enc Tryz.prog W 0 (λ_=>true) true Tryz.f3.params.toList args.toList ds p:=hA0;rw[Tryz.params3]at hA fW;obtain⟨v0,vs0,e0,ds0,p0,q0,cF,rfl,rfl,h0,r0⟩:=trodAll_cons hA;obtain⟨v1,vs1,e1,ds1,p1,q1,rfl,rfl,rfl,h1,r1⟩:=trodAll_cons r0;obtain⟨rfl,rfl,rfl⟩:=trodAll_nil r1;obtain rfl:args= #[v0,v1]:=by cases args;simp_all
 obtain⟨rfl,rfl⟩:=trodVars_none hV;have hb:=ajU hk;simp only[Kai,Rows.uptoBulkAll]at hb;obtain⟨S0,G0,g0,b0⟩:=af8 (fW 0 _ v0 rfl rfl) h0 Oz;obtain⟨a1,g1,b1⟩:=aiw (fW 1 _ v1 rfl rfl) h1 Oz;exact ahF Er rfl (by kernel_rfl) (by kernel_rfl) rfl (arG b0 b1) rfl
  (ajV (vs:=[v0,v1]) (by
   intro i x hx v hv
   match i,hx,hv with
   |0,hx,hv=>simp at hx hv;subst hx hv;exact g0
   |1,hx,hv=>simp at hx hv;subst hx hv;exact g1
   |i+2,hx,hv=>simp at hx) rfl)
def arz(os:Os)(started:os.Started)(H:Type)(enc:TypeId×Value->H)(F:Stop.Interp):
  ReturnsInHanded {} Tryz.checked os 3 .any ((Rows.OpenSpec.upto Rows.inequalityPolysSpec).pre6 enc Tryz.prog Tryz.f3 Rows.inequalityPolysUptoRow.domain false) (((Rows.OpenSpec.upto Rows.inequalityPolysSpec).at F).post enc Tryz.prog Tryz.f3 false true false false):=by
 refine returnsInHanded_of_cond (C:=Tryz.checked) (s:=Rows.OpenSpec.upto Rows.inequalityPolysSpec) (k:=Rows.uptoSmall) rfl own started (by kernel_rfl) func3
  (OpenSpec.witness (enc:=enc) (C:=Tryz.checked) (s:=Rows.OpenSpec.upto Rows.inequalityPolysSpec) (k:=Rows.uptoSmall) rfl false ⟨#[],#[.agg #[.slice none 0 0,.slice none 0 0],.slice none 0 0],[]⟩ 8 (by kernel_rfl) (by kernel_rfl) (by kernel_rfl)
   (x:=([.agg [.nil,.nil],.nil],[],[])) (by kernel_rfl) rfl (by kernel_rfl)) ?_
 intro W base args ds gs before fW hW _ hk _;exact acJ H enc W base args ds gs before fW hW hk
set_option maxHeartbeats 16000000 in
def arA:joinedFacts Tryz.prog 3 Tryz.f3 (Rows.OpenSpec.upto Rows.inequalityPolysSpec).bare Rows.inequalityPolysUptoRow=true:=by
 have arR:∀ {a b:Bool},a=true->b=true->(a&&b)=true:=by rintro _ _ rfl rfl;rfl
 unfold joinedFacts
 repeat' with_reducible refine arR ?_ ?_
 all_goals decide+kernel
theorem inequalityPolys_proved:Rows.InequalityPolysUptoSaid:=
 OpenClaim.holds_of_cond 3 Tryz.f3 rfl rfl rfl rfl rfl rfl rfl ⟨rfl,rfl,rfl,rfl,rfl⟩ rfl rfl rfl rfl rfl (by kernel_rfl) func3 arA
  (of_decide_eq_true (by kernel_rfl)) (by unfold Func.isWrapper;first|(rw[if_pos (by decide+kernel)];kernel_rfl)|(rw[if_neg (by decide+kernel)];exact⟨rfl,rfl⟩))
  (λos started H enc _ F=>arz os started H enc F)
end Go.Proofs.YtikalonaompbdaaGreat
