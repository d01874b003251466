/- Check of inequalities is that of the specification, for any facts and squares. No conditions. -/
import Derived.Test.YtikalonaompbdaaGreatInequalityChecksPart23
set_option maxHeartbeats 1000000
set_option linter.all false
set_option maxRecDepth 100000
namespace Go.Proofs.YtikalonaompbdaaGreat
open Go Go.FW
variable{G:List bB}{S:List bR}{c:Cd}{i:Nat}{p:List Tm}
def K0(hF:qj S G)(hb:∀s∈S,lX s):∀c∈(bf S S.length).1,C8 c:=λc hc=>by obtain⟨n,hn,rfl⟩:=KaH hc;have hl:=tU S S.length;obtain⟨w,_,w8,_,hw⟩:=Bb hF hb S.length (Kag _) n Oz;rw[Kac,Kae hn]at hw;exact CQ.mono hw w8 Oz w8
def C8.cb(h:C8 c):CB c:=CQ.mono h Oz Oz Oz
def KC{f:bB}{m:Nat}(hf:iA f)(hs:f.a.length<=2/\f.d.length<=2)(h:cP f (m:Nat)=0):Ak m f:=by
 unfold cP at h;split at h
 .cases h
 rename_i h1;split at h
 .cases h
 rename_i h2;split at h
 .cases h
 rename_i h3;split at h
 .cases h
 rename_i h4;have hk:f.k=4\/f.k=9:=Oz;refine⟨hk,?_,λh9=>?_⟩
 .have hr:∀a∈f.args,0<=a/\a<(m:Nat):=λa ha=>by have h5:=mt (λhh=>KaJ.2 ⟨a,ha,hh⟩) h3;simp only[decide_eq_true_eq]at h5;omega
  match hq:f.args,(show f.args.length=4 by omega),hr with
  | [a,b,c,d],_,hr=>have ha:=hr a (by simp);have hb:=hr b (by simp);have hc:=hr c (by simp);have hd:=hr d (by simp);exact⟨a.toNat,b.toNat,c.toNat,d.toNat,by rw[KcT ha.1,KcT hb.1,KcT hc.1,KcT hd.1],Oz,Oz,Oz,Oz⟩
 .have hq:fL f.n f.a f.d=true:=by
   cases hr:fL f.n f.a f.d with
   |true=>rfl
   |false=>exact absurd ⟨h9,hr⟩ h4
  have uL:=hf.r;refine⟨yU uL.la uL.ld hq,?_⟩;have:=(show Raw 2 f.n f.a f.d from⟨uL.la,uL.ld,hs.1,hs.2,Oz⟩).rs;omega
def K1{L:List bB}(hF:qj S G)(hb:∀s∈S,lX s)(bZ:∀g∈L,iA g)(hs:∀g∈L,g.a.length<=2/\g.d.length<=2)(h0:∀j (h:j<L.length),cP L[j] (S.length:Nat)=0)(hi:i<L.length):PQ 1024 33000 16 (ny (bf S S.length).1 L i):=by
 have iT:L.getD i ⟨0,[],false,[],[]⟩=L[i]:=by rw[Kac,Kae hi];rfl
 have hm:=Kad hi;show PQ 1024 33000 16 (ki _ (L.getD i _));rw[iT];exact adq (K0 hF hb) (by rw[tU];exact KC (bZ _ hm) (hs _ hm) (h0 i hi))
def K2{L:List bB}(hF:qj S G)(hb:∀s∈S,lX s)(bZ:∀g∈L,iA g)(hL:L.length<=4)(hs:∀g∈L,g.a.length<=2/\g.d.length<=2)(h0:∀j (h:j<L.length),cP L[j] (S.length:Nat)=0)(hi:i<=L.length)(hp:gS (ny (bf S S.length).1 L) i=some p):PQ 4096 132000 16 p:=by
 have h:=SA i p hp λj hj=>K1 hF hb bZ hs h0 (show j<L.length by omega)
 have:i=0\/i=1\/i=2\/i=3\/i=4:=Oz;rcases this with rfl|rfl|rfl|rfl|rfl<;>exact h.mono Oz Oz (Kag _)
def MS{L:List bB}(hF:qj S G)(hb:∀s∈S,lX s)(hg:∀g∈G,iA g)(bZ:∀g∈L,iA g)(hL:L.length<=4)(hs:∀g∈L,g.a.length<=2/\g.d.length<=2):
  AC 10 [PV.cn S G,.sl 5 (L.map PV.dJ)] (· =jz S (bf S S.length).1 L):=by
 have Ny:=hF.l;have hl:=tU S S.length;refine aoj (vs:=(bf S S.length).2.1) Oz Oz bZ (La hF hb hg) Oz (λc hc=>(K0 hF hb c hc).cb) (λf hf h=>by rw[hl];exact KC (bZ f hf) (hs f hf) h) (λi p hi h0 hp=>?_);have h1:=K2 hF hb bZ hL hs h0 (Kc0 hi) hp;have h2:=K1 hF hb bZ hs h0 hi;exact akF h1 (h2.mono Oz Oz (Kag _)) Oz Oz Oz
def ah1(hN:vg){L:List bB}(hF:qj S G)(hb:∀s∈S,lX s)(hg:∀g∈G,iA g)(bZ:∀g∈L,iA g)(hL:L.length<=4)(hs:∀g∈L,g.a.length<=2/\g.d.length<=2):
  AC 11 [PV.cn S G,.sl 5 (L.map PV.dJ)] (· =jz S (bf S S.length).1 L):=by
 have Ny:=hF.l;have hGl:=hF.gl;have hl:=tU S S.length;refine akK (vs:=(bf S S.length).2.1) Oz Oz bZ (ay0 hN hF Oz Oz hb hg) Oz (λc hc=>(K0 hF hb c hc).cb) (λf hf h=>by rw[hl];exact KC (bZ f hf) (hs f hf) h) (λi p hi h0 hp=>?_);have h1:=K2 hF hb bZ hL hs h0 (Kc0 hi) hp;have h2:=(K1 hF hb bZ hs h0 hi).mono (T':=4096) (K':=132000) (E':=16) Oz Oz (Kag _);have h3:=h1.add h2;exact⟨HW h1 h2 Oz Oz Oz,UX (E:=16) (λt ht=>(h3.b t ht).2) (by have:=h3.l;omega)⟩
def ah2{L:List bB}(hF:qj S G)(hb:∀s∈S,lX s)(bZ:∀g∈L,iA g)(hL:L.length<=4)(hs:∀g∈L,g.a.length<=2/\g.d.length<=2):
  ∃p e,jz S (bf S S.length).1 L= .aI [PV.aC p,.int .i64 e]/\PQ 4096 132000 16 p/\(e≠0->p=[])/\(e=0->gS (ny (bf S S.length).1 L) L.length=some p/\(∀s∈S,kZ s.k=true)/\∀j (h:j<L.length),cP L[j] (S.length:Nat)=0):=by
 unfold jz;split
 .exact⟨[],8,rfl,PQ.nil,λ_=>rfl,λh=>by cases h⟩
 rename_i h1;split
 .rename_i h2;exact⟨[],_,rfl,PQ.nil,λ_=>rfl,λh=>absurd h h2⟩
 rename_i h2;have hz:rO L (S.length:Nat)=0:=Oz;have h0:∀j (h:j<L.length),cP L[j] (S.length:Nat)=0:=λj hj=>by
  unfold rO at hz;split at hz
  .rename_i f hf;exact absurd hz (by simpa using List.find?_some hf)
  .rename_i hf;have:=List.find?_eq_none.1 hf L[j] (Kad hj);simpa using this
 cases hq:gS (ny (bf S S.length).1 L) L.length with
 |none=>exact⟨[],4,rfl,PQ.nil,λ_=>rfl,λh=>by cases h⟩
 |some p=>refine⟨p,0,rfl,K2 hF hb bZ hL hs h0 (Kag _) hq,λh=>absurd rfl h,λ_=>⟨rfl,λs hs=>?_,h0⟩⟩;have:=Kas.1 (by simpa using h1) s hs;exact this
variable{a:Nat}
abbrev Ed(s:ByteArray):bR:=⟨1,s,[],false,[],[]⟩
def b6:List bR:=[Ed ⟨#[65]⟩,Ed ⟨#[66]⟩,Ed ⟨#[67]⟩,⟨2,⟨#[77]⟩,[1,2],false,[1],[2]⟩]
def Cm:List Cd:=[([],[]),(bJ 0,[]),(bJ 1,bJ 2),([((1:Rat)/2,[0,1]),((1:Rat)/2,[1])],[((1:Rat)/2,[0,0,1])])]
def mq:List bB:=[⟨9,[0,1,0,3],false,[1],[1]⟩,⟨9,[0,2,0,0],false,[1],[1]⟩]
def mW:List bB:=[⟨4,[0,1,0,2],false,[],[]⟩]
def UJ:(bf b6 b6.length).1=Cm:=by decide+kernel
def aeY:gS (ny Cm mq) mq.length=some sT:=by decide+kernel
def aeZ:gS (ny Cm mW) mW.length=some kM:=by decide+kernel
def FX:Raw 1048576 false [] []:=⟨λx h=>(by cases h),λx h=>(by cases h),KbK _,KbK _,by decide⟩
def Bd(h:a<65536):Qk [a]:=λx hx=>by rw[Kax.1 hx];exact h
def Uc{b:Nat}(ha:a<65536)(hb:b<65536):Raw 1048576 false [a] [b]:=⟨Bd ha,Bd hb,Ka7 rfl,Ka7 rfl,by decide⟩
def Ds:∀s∈b6,lX s:=λs h=>by
 simp only[b6,KaA,KaR,or_false]at h;rcases h with rfl|rfl|rfl|rfl
 .exact⟨by decide,by decide,FX⟩
 .exact⟨by decide,by decide,FX⟩
 .exact⟨by decide,by decide,FX⟩
 .exact⟨by decide,by decide,Uc (by decide) (by decide)⟩
def Be{s:ByteArray}:sD i (Ed s):=⟨show 0<=eG 1 by decide,show(0:Int)=eG 1 by decide,λa h=>(by cases h),show lN false [] []=true by decide⟩
def Tk:sD 3 ⟨2,⟨#[77]⟩,[1,2],false,[1],[2]⟩:=⟨show 0<=eG 2 by decide,show(2:Int)=eG 2 by decide,λa h=>by simp only[KaA,KaR,or_false]at h;rcases h with rfl|rfl<;>decide,show fL false [1] [2]=true by decide+kernel⟩
def Ud:∀i (h:i<b6.length),sD i b6[i]:=λi h=>by
 match i,h with
 |0,_=>exact Be
 |1,_=>exact Be
 |2,_=>exact Be
 |3,_=>exact Tk
 |i+4,h=>have:i+4<4:=h;omega
def Tl:DN b6 []:=⟨Ud,λg h=>(by cases h),by decide⟩
def H8(c:UInt8)(h:jG c.toNat=true)(hk:iX.all (λk=>decide (k≠⟨#[c]⟩))=true):Nq ⟨#[c]⟩:=by
 have key:∀m (hm:m<(⟨#[c]⟩:ByteArray).size),jG ((⟨#[c]⟩:ByteArray)[m]'hm).toNat=true:=λm hm=>by
  obtain rfl:m=0:=by have:m<1:=hm;omega
  exact h
 exact⟨Nat.zero_lt_one,by show 1<=20;decide,λh'=>key 0 h',λn h'=>.inl (key _ h'),λk hm e=>by have:=Kas.1 hk k hm;rw[decide_eq_true_eq]at this;exact this e.symm⟩
def akx:HH b6 []:=⟨Tl,λi h=>by
 match i,h with
 |0,_=>exact⟨Be,.inr ⟨H8 65 (by decide) (by decide+kernel),λj _ h=>by omega⟩⟩
 | 1,_=>exact⟨Be,.inr ⟨H8 66 (by decide) (by decide+kernel),λj hj h=>by
   match j,hj,h with
   |0,_,_=>show(⟨#[65]⟩:ByteArray)≠⟨#[66]⟩;decide+kernel⟩⟩
 | 2,_=>exact⟨Be,.inr ⟨H8 67 (by decide) (by decide+kernel),λj hj h=>by
   match j,hj,h with
   |0,_,_=>show(⟨#[65]⟩:ByteArray)≠⟨#[67]⟩;decide+kernel
   |1,_,_=>show(⟨#[66]⟩:ByteArray)≠⟨#[67]⟩;decide+kernel⟩⟩
 | 3,_=>exact⟨Tk,.inr ⟨H8 77 (by decide) (by decide+kernel),λj hj h=>by
   match j,hj,h with
   |0,_,_=>show(⟨#[65]⟩:ByteArray)≠⟨#[77]⟩;decide+kernel
   |1,_,_=>show(⟨#[66]⟩:ByteArray)≠⟨#[77]⟩;decide+kernel
   |2,_,_=>show(⟨#[67]⟩:ByteArray)≠⟨#[77]⟩;decide+kernel⟩⟩
 |i+4,h=>have:i+4<4:=h;omega,by decide⟩
def AT:qj b6 []:=⟨Tl,by decide,by decide,⟨by decide+kernel,λg h=>(by cases h)⟩,λs h=>by simp only[b6,KaA,KaR,or_false]at h;rcases h with rfl|rfl|rfl|rfl<;>exact⟨by decide,by decide⟩,λg h=>(by cases h),akx⟩
def apR:∀g∈mq,iA g:=λg h=>by simp only[mq,KaA,KaR,or_false]at h;rcases h with rfl|rfl<;>exact⟨by decide,Uc (by decide) (by decide)⟩
def aeb:∀g∈mq,g.a.length<=2/\g.d.length<=2:=λg h=>by simp only[mq,KaA,KaR,or_false]at h;rcases h with rfl|rfl<;>exact⟨by decide,by decide⟩
def apS:∀g∈mW,iA g:=λg h=>by simp only[mW,KaA,KaR,or_false]at h;subst h;exact⟨by decide,FX⟩
def aec:∀g∈mW,g.a.length<=2/\g.d.length<=2:=λg h=>by simp only[mW,KaA,KaR,or_false]at h;subst h;exact⟨by decide,by decide⟩
def KS:(b6.all λs=>kZ s.k)=true:=by decide
def ae0:jz b6 (bf b6 b6.length).1 mq= .aI [PV.aC sT,.int .i64 0]:=by
 rw[UJ];have h0:∀f∈mq,cP f (b6.length:Nat)=0:=by decide+kernel
 have h1:rO mq (b6.length:Nat)=0:=Hq λj h=>h0 _ (Kad h)
 unfold jz;rw[if_neg (by rw[KS];decide),if_neg (by rw[h1];decide),show gS (λi=>ki Cm (mq.getD i ⟨0,[],false,[],[]⟩)) mq.length=some sT from aeY];rfl
def ae1:jz b6 (bf b6 b6.length).1 mW= .aI [PV.aC kM,.int .i64 0]:=by
 rw[UJ];have h0:∀f∈mW,cP f (b6.length:Nat)=0:=by decide+kernel
 have h1:rO mW (b6.length:Nat)=0:=Hq λj h=>h0 _ (Kad h)
 unfold jz;rw[if_neg (by rw[KS];decide),if_neg (by rw[h1];decide),show gS (λi=>ki Cm (mW.getD i ⟨0,[],false,[],[]⟩)) mW.length=some kM from aeZ];rfl
def Un:(bf b6 b6.length).2.1.length=3/\JE (bf b6 b6.length).2.1=3:=by decide+kernel
def UK(aL:List Rat)(i:Nat):Bool:=((dP b6 aL i).1.all λp=>decide (rs p.1<=262144)&&decide (rs p.2<=262144))&&((dP b6 aL i).2.1.all λq=>decide (rs q<=262144))&&decide ((dP b6 aL i).2.1.length<=1048576)
def aed:((List.range 5).all λi=>UK ll i)=true:=by decide+kernel
def adL:((List.range 4).all λi=>decide ((b6.getD i fY).k=1->min (dP b6 ll i).2.2 2<=(dP b6 ll i).2.1.length)&&decide ((b6.getD i fY).k=5->1<=(dP b6 ll i).2.1.length))=true:=by decide+kernel
def adM:AC 50 [PV.cn b6 [],PV.cg ll,.aa] (· = .aI [PV.Fh ll (dP b6 ll b6.length).1,.int .i64 0,.int .i64 0]):=by
 obtain⟨v1,v2⟩:=Un;have bx:∀s∈b6,kZ s.k=true:=Kas.1 KS;refine aeU (vs:=(bf b6 b6.length).2.1) (La AT Ds (λg h=>by cases h)) (by decide) Oz bx (by decide) (by rw[v2];rfl) Ud (λs h hk=>⟨(AT.s s h).1,(AT.s s h).2,(Ds s h).r⟩) (by decide+kernel) (λi hi=>?_) (λi hi=>?_)
 .have h:=Kas.1 aed i (KbY.2 (by have:b6.length=4:=rfl;omega));unfold UK at h;rw[Kav,Kav]at h;obtain⟨⟨h1,h2⟩,h3⟩:=h;refine⟨λp hp=>?_,λq hq=>?_,?_⟩
  .have:=Kas.1 h1 p hp;rw[Kav,decide_eq_true_eq,decide_eq_true_eq]at this;exact⟨by have:=this.1;omega,by have:=this.2;omega⟩
  .have:=of_decide_eq_true (Kas.1 h2 q hq);omega
  .have:=of_decide_eq_true h3;omega
 .have h:=Kas.1 adL i (KbY.2 (by have:b6.length=4:=rfl;omega));rw[Kav,decide_eq_true_eq,decide_eq_true_eq]at h;rw[show b6.getD i fY=b6[i]by rw[Kac,Kae hi];rfl]at h;exact h
open Go.Proofs.Tryz
variable{C:Ctx}{d e n o ty:Nat}{fr:Fr}{hp:HP}{sk:List It}{xs:List PV}{z:Bool}
def c13:ax:=⟨58,[.t 4,.cell 5 3 true,.t 6],Zr (fe 2 25 0<|Yi 4<|Zo (.alloc 5 3 39 (.agg [.aa,.aa,.aa]))<|Ye 6 0)<|Zr (fC 12 2 2 1<|jR 14 10 12 13 11<|Zm 7 15<|Zm 6 16 .nil)<| .seq (Zr (YP 17 6)<| .cond (.t 18) (Zr (Zo (.cD 19 [.aa,.aa,.aa] [])<|Zm 20 6<|Yi 4<|Zs 3 5 19<|Yc 6 20) .ret) .skip)<|Zr (YJ 22 7 49<|Zm 21 23<|Yd 24 21<|Zo (.ext 26 (.t 21) 2)<|Zm 4 24<|Zm 8 25<|Yc 6 26)<| .seq (Zr (Zm 27 6<|ic 28 27 17)<| .cond (.t 28) (Zr (dT 30 2 2 29<|Zm 29 31<|Yd 32 29<|Ys 9 76<|Zs 2 9 32<|Yc 10 33)<| .seq (.block 0<| .loop<| .seq (Zr (Yv 34 8<|YT 36 1 9<|Yu 39 35 38)<| .cond (.t 39) .skip (.exit 0))<| .block 1<| .rg (Zm 40 8<|Zq 41 false 35 [.c (Zz 0)]<|Zo (.bs 42 3 49 [.t 41])<|Zo (.app 43 3 56 49 (.t 40) (.t 42))<|Yc 8 43))<|Zr (fC 45 2 2 8<|Zq 47 false 50 [.t 45,.t 46,.c .aa]<|Zm 44 47<|Yd 48 44<|Zo (.ext 50 (.t 44) 2)<|Zs 3 5 48 .nil)<|Zr (Zh 51 3 5<|Yi 4<|Zs 3 5 51<|Ye 6 17) .ret) .skip)<| .seq (Zr (YP 52 6)<| .cond (.t 53) (Zr (Zo (.cD 54 [.aa,.aa,.aa] [])<|Zm 55 6<|Yi 4<|Zs 3 5 54<|Yc 6 55) .ret) .skip)<|Zr (Zm 56 4<|Zo (.cD 57 [.aa,.aa,.aa] [])<|Zm 4 56<|Zs 3 5 57<|Ye 6 0) .ret⟩
def Uo:Qc Tryz.prog f13=some c13:=by kernel_rfl
def c22:ax:=⟨21,[.t 6],Zr (dH 3 2 25 0<|Ye 6 0)<|Zr (fC 10 2 3 1<|jR 12 10 10 11 9<|Zm 7 13<|Zm 8 14 .nil)<| .seq (Zr (YP 15 8)<| .cond (.t 16) (Zr (iC 17 8 6) .ret) .skip)<|Zr (dS 18 7 2 68<|Yc 6 20) .ret⟩
def Up:Qc Tryz.prog f22=some c22:=by kernel_rfl
def Xl:ax:=⟨19,[.cell 0 2 true,.t 1],Zr (Zo (.alloc 0 2 25 (.agg [.aa,.aa]))<|YI 1)<|Zr (Zo (.cD 3 [Zz 0,.str ⟨#[]⟩,.aa,.bool false,.aa,.aa] [(0,1,.c (Zz 1)),(1,1,.c (.str ⟨#[0x41]⟩))])<|Zo (.cD 4 [Zz 0,.str ⟨#[]⟩,.aa,.bool false,.aa,.aa] [(0,1,.c (Zz 1)),(1,1,.c (.str ⟨#[0x42]⟩))])<|Zo (.cD 5 [Zz 0,.str ⟨#[]⟩,.aa,.bool false,.aa,.aa] [(0,1,.c (Zz 1)),(1,1,.c (.str ⟨#[0x43]⟩))])<|Zo (.bs 6 1 3 [.c (Zz 1),.c (Zz 2)])<| .wk<|Zq 7 false 74 [.c (Zz 1),.c (Zz 2)]<|Zo (.cD 8 [Zz 0,.str ⟨#[]⟩,.aa,.bool false,.aa,.aa] [(0,1,.c (Zz 2)),(1,1,.c (.str ⟨#[0x4d]⟩)),(2,1,.t 6),(3,3,.t 7)])<|Zo (.bs 9 6 68 [.t 3,.t 4,.t 5,.t 8])<| .wk<|Zo (.cD 10 [.aa,.aa] [(0,1,.t 9)])<|Zo (.alloc 2 2 25 (.agg [.aa,.aa]))<|Zs 2 2 10 .nil)<|Zr (Zh 11 2 2<| .br (YA 12 1 3<| .wk<| .br (qu 13 12<| .br (YA 15 2 0<| .wk<|qu 16 15<| .br (YO 18<| .wk<|Zs 2 0 11<|Yc 1 18) (Zs 2 0 11<|YO 18<| .wk<|Yc 1 18)) (Zq 16 true 53 [.c (Zz 1)]<| .br (YA 15 2 0<| .wk<|Yk 17 15 16<| .br (YO 18<| .wk<|Zs 2 0 11<|Yc 1 18) (Zs 2 0 11<|YO 18<| .wk<|Yc 1 18)) (Zs 2 0 11<|YA 15 2 0<| .wk<|Yk 17 15 16<|YO 18<| .wk<|Yc 1 18))) (YA 15 2 0<| .wk<|qu 13 12<|qu 16 15<| .br (YO 18<| .wk<|Zs 2 0 11<|Yc 1 18) (Zs 2 0 11<|YO 18<| .wk<|Yc 1 18))) (.br (Zq 13 true 53 [.c (Zz 1)]<| .br (YA 12 1 3<| .wk<|Yk 14 12 13<| .br (YA 15 2 0<| .wk<|qu 16 15<| .br (YO 18<| .wk<|Zs 2 0 11<|Yc 1 18) (Zs 2 0 11<|YO 18<| .wk<|Yc 1 18)) (Zq 16 true 53 [.c (Zz 1)]<| .br (YA 15 2 0<| .wk<|Yk 17 15 16<| .br (YO 18<| .wk<|Zs 2 0 11<|Yc 1 18) (Zs 2 0 11<|YO 18<| .wk<|Yc 1 18)) (Zs 2 0 11<|YA 15 2 0<| .wk<|Yk 17 15 16<|YO 18<| .wk<|Yc 1 18))) (.br (YA 15 2 0<| .wk<| .br (YA 12 1 3<| .wk<|Yk 14 12 13<|qu 16 15<| .br (YO 18<| .wk<|Zs 2 0 11<|Yc 1 18) (Zs 2 0 11<|YO 18<| .wk<|Yc 1 18)) (qu 16 15<| .br (YA 12 1 3<| .wk<|Yk 14 12 13<| .br (YO 18<| .wk<|Zs 2 0 11<|Yc 1 18) (Zs 2 0 11<|YO 18<| .wk<|Yc 1 18)) (Zs 2 0 11<|YA 12 1 3<| .wk<|Yk 14 12 13<|YO 18<| .wk<|Yc 1 18))) (Zq 16 true 53 [.c (Zz 1)]<| .br (YA 12 1 3<| .wk<|Yk 14 12 13<| .br (YA 15 2 0<| .wk<|Yk 17 15 16<| .br (YO 18<| .wk<|Zs 2 0 11<|Yc 1 18) (Zs 2 0 11<|YO 18<| .wk<|Yc 1 18)) (Zs 2 0 11<|YA 15 2 0<| .wk<|Yk 17 15 16<|YO 18<| .wk<|Yc 1 18)) (.br (YA 15 2 0<| .wk<|Yk 17 15 16<| .br (YA 12 1 3<| .wk<|Yk 14 12 13<| .br (YO 18<| .wk<|Zs 2 0 11<|Yc 1 18) (Zs 2 0 11<|YO 18<| .wk<|Yc 1 18)) (Zs 2 0 11<|YA 12 1 3<| .wk<|Yk 14 12 13<|YO 18<| .wk<|Yc 1 18)) (Zs 2 0 11<| .br (YA 12 1 3<| .wk<|Yk 14 12 13<|YA 15 2 0<| .wk<|Yk 17 15 16<|YO 18<| .wk<|Yc 1 18) (YA 15 2 0<| .wk<|Yk 17 15 16<|YA 12 1 3<| .wk<|Yk 14 12 13<|YO 18<| .wk<|Yc 1 18)))))) (YA 15 2 0<| .wk<| .br (YA 12 1 3<| .wk<|qu 13 12<|qu 16 15<| .br (YO 18<| .wk<|Zs 2 0 11<|Yc 1 18) (Zs 2 0 11<|YO 18<| .wk<|Yc 1 18)) (Zq 13 true 53 [.c (Zz 1)]<| .br (YA 12 1 3<| .wk<|Yk 14 12 13<|qu 16 15<| .br (YO 18<| .wk<|Zs 2 0 11<|Yc 1 18) (Zs 2 0 11<|YO 18<| .wk<|Yc 1 18)) (qu 16 15<| .br (YA 12 1 3<| .wk<|Yk 14 12 13<| .br (YO 18<| .wk<|Zs 2 0 11<|Yc 1 18) (Zs 2 0 11<|YO 18<| .wk<|Yc 1 18)) (Zs 2 0 11<|YA 12 1 3<| .wk<|Yk 14 12 13<|YO 18<| .wk<|Yc 1 18)))))) .ret⟩
def adN:Qc Tryz.prog f28=some Xl.strip:=by kernel_rfl
def c9:ax:=⟨53,[.t 0],Zr (Yl 0)<|Zr (Zq 10 false 28 []<|Zm 9 10<|Yd 11 9<|Zo (.alloc 1 2 25 (.agg [.aa,.aa]))<|Zs 2 1 11<|Zm 2 12 .nil)<|Zr (fC 14 2 1 2<|jR 16 13 14 15 13<|Zo (.ext 19 (.t 13) 2)<|Zo (.alloc 4 3 39 (.agg [.aa,.aa,.aa]))<|Zm 3 17<|Zs 3 4 18<|Yc 5 19)<|Zr (Zh 21 2 1<|YA 22 1 2<| .wk<|Zo (.cD 23 [Zz 0,.aa,.bool false,.aa,.aa] [(0,1,.c (Zz 4)),(1,1,.t 22)])<|Zo (.bs 24 5 65 [.t 23])<| .wk<| .wk<|jR 25 13 21 24 20<|Zo (.ext 28 (.t 20) 2)<|Zo (.alloc 7 3 39 (.agg [.aa,.aa,.aa]))<|Zm 6 26<|Zs 3 7 27<|Yc 8 28)<|Zr (Zm 29 5<|Zk 30 .eql 29 0<|YV 31 30 3<|Zg 31 true (.len 33 (.t 32))<|Zg 31 true (.bin 34 .eql false (.t 33) (.c (Zz 3)))<|Ym 35 31 34<|Zm 36 35<|Zg 36 true (.ld 37 2 true (.t 1))<|Zg 36 true (.mv 38 (.t 2))<|Zg 36 true (.mv 39 (.t 3))<|Zg 36 true (.call (some 40) false (.c (.fn 22 [] [])) [.t 37,.t 38,.t 39])<|Zg 36 true (.bin 41 .eql false (.t 40) (.c (Zz 0)))<|Ym 42 36 41<|YV 43 42 8<|Zg 43 true (.bin 45 .eql false (.t 44) (.c (Zz 17)))<|Ym 46 43 45<|Zm 47 46<|YK 47 2 7<|Zg 47 true (.len 50 (.t 49))<|Zg 47 true (.bin 51 .eql false (.t 50) (.c (Zz 4)))<|Ym 52 47 51<|Yc 0 52) .ret⟩
def ae2:Qc Tryz.prog f9=some c9.strip:=by kernel_rfl
def RW:AC 10 [PV.cn b6 [],.sl 5 (mq.map PV.dJ)] (· = .aI [PV.aC sT,.int .i64 0]):=by have h:=MS AT Ds (λg h=>by cases h) apR (by decide) aeb;rw[ae0]at h;exact h
def aky:AC 10 [PV.cn b6 [],.sl 5 (mW.map PV.dJ)] (· = .aI [PV.aC kM,.int .i64 0]):=by have h:=MS AT Ds (λg h=>by cases h) apS (by decide) aec;rw[ae1]at h;exact h
def ags:AC 13 [PV.cn b6 [],.sl 5 (mq.map PV.dJ)] (· = .aI [PV.gj (vF),.agg [.aa,.aa,.aa],.int .i64 0]):=by
 have h1:=RW;have h2:=R4.1;generalize b6=S at *
 generalize mq=L at *
 generalize vF=Q at *
 generalize sT=p at *
 refine aF Qd func13 Uo λC hP=>?_;refine ay hP h1 ?_;refine ay hP h2 ?_;refine Sz0 ?_;refine FD ?_;refine Sz0 ?_;exact ox rfl rfl rfl rfl (Qi _) (Qi _) (Qi _)
def aiv:AC 22 [PV.cn b6 [],.sl 5 (mq.map PV.dJ),PV.gj (vF)] (· = .int .i64 0):=by
 have h1:=RW;have h2:=R4.2;generalize b6=S at *
 generalize mq=L at *
 generalize vF=Q at *
 generalize sT=p at *
 refine aF Qd func22 Up λC hP=>?_;refine ay hP h1 ?_;refine ay hP h2 ?_;exact cf
def agt:AC 13 [PV.cn b6 [],.sl 5 (mW.map PV.dJ)] (· = .aI [PV.gj [],PV.Fh ll (dP b6 ll b6.length).1,.int .i64 17]):=by
 have h1:=aky;have h2:=akw;have h3:=La AT Ds (λg h=>by cases h);have h4:=adM;have hv:=Un.1;have hw:ll.length=3:=rfl;generalize(dP b6 ll b6.length).1=P at *
 generalize(bf b6 b6.length).1=cs at *
 generalize(bf b6 b6.length).2.1=vs at *
 generalize b6=S at *
 generalize mW=L at *
 generalize ll=W at *
 generalize kM=p at *
 refine aF Qd func13 Uo λC hP=>?_;refine ay hP h1 ?_;refine ay hP h2 ?_;refine ay hP h3 ?_;refine Sz0 ?_;refine Qh okB [(8,8),(34,43)] [42,43] (λm J hp=>m=0/\J 8=PV.cg W/\hp 2=some ⟨2,25,[PV.cn S []],false⟩/\hp 9=some ⟨2,76,[PV.frame cs vs],false⟩/\hp 5=some ⟨3,39,[.agg [.aa,.aa,.aa]],false⟩) 0 ?_ ?_
 .refine⟨rfl,?_⟩;refine Sz0 ?_
  try trivial
 rintro _ J h ⟨rfl,j8,hb2,hb9,gf⟩;refine Sz2 j8 hb9 ?_;refine Qm (λhc=>absurd hc Oz) (λhc=>?_);refine bE j8 hb2 hP h4 ?_;refine Sz1 gf ?_;refine FD ?_;refine Sz1 gf ?_;exact ox rfl rfl rfl rfl (p':=PV.gj []) trivial (Qi _) (Qi _)
def ar2{K:Qf}{z:List PV}{o2 n2 o3 n3 o4 n4:Nat}{p q r u:PV}(h:p.flat=true)(h2:q.flat=true)(h3:r.flat=true)(h4:u.flat=true):nJ z [(o,n,p),(o2,n2,q),(o3,n3,r),(o4,n4,u)] d fr hp K=
  ((p.cells.length=n/\o+n<=z.length)/\(q.cells.length=n2/\o2+n2<=z.length)/\(r.cells.length=n3/\o3+n3<=z.length)/\(u.cells.length=n4/\o4+n4<=z.length)/\K (ae fr d (.agg (jN z [(o,p.cells),(o2,q.cells),(o3,r.cells),(o4,u.cells)]))) hp):=by
 rw[CW (by simp[h,h2,h3,h4])];simp[and_assoc]
attribute [go_sem] ar2
def Dd{R:Qf}{r:RT}(s n:Nat)(h:fr s= .aD s 0 n)(hb:hp s=some ⟨e,ty,xs,z⟩)(hn:n=xs.length)(hy:bN s=false)(hv:vc C R (.o r::sk) (ae fr s (.sl e xs)) (FW.Qu hp [s])):vc C R (.o (.wk r)::sk) fr hp:=by
 have es:Qr hp (fr s)= .sl e xs:=by rw[h];show cA hp (.aD s 0 n)=_;simp[cA,yM hy,hb,hn]
 have h2:=vm (fr:=fr) (hp:=hp) s (by rw[es];rfl);rw[es,h]at h2;exact bV h2 hv
def JN(s:ByteArray):PV:=.agg [.int .i64 1,.str s,.aa,.bool false,.aa,.aa]
def Nj:PV:=.agg [.sl 6 [JN ⟨#[65]⟩,JN ⟨#[66]⟩,JN ⟨#[67]⟩,PV.gK ⟨2,⟨#[77]⟩,[1,2],false,[1],[2]⟩],.aa]
def KT{s:ByteArray}:xt (JN s).cells (PV.gK (Ed s)).cells:=.cons (.rfl _) (.cons (.rfl _) (.cons (.nil _) (.cons (.rfl _) (.cons (.nil _) (.cons (.nil _) .nil)))))
def QH:∀l:List PV,xt l l
 | []=>.nil
 |p::l=>.cons (.rfl p) (QH l)
def Mu{f:FuncId}{bs:List PV}{R:PV->Prop}(h:AC f (PV.cn b6 []::bs) R):AC f (Nj::bs) R:=
 Qa.qZ (ls:=[]) h (.cons (.sl _ (.cons KT (.cons KT (.cons KT (.cons (QH _) .nil))))) (.cons (.nil _) .nil))
def akz:PV.rat (((1:Int):Rat)/((2:Int):Rat))=PV.rr false [1] [2]:=by rw[yU (Bd (by decide)) (Bd (by decide)) (by decide+kernel),show((1:Int):Rat)/((2:Int):Rat)=rv false [1] [2]by decide+kernel]
def apT:PV.rat ((1:Int):Rat)=PV.rr false [1] [1]:=by rw[yU (Bd (by decide)) (Bd (by decide)) (by decide+kernel),show((1:Int):Rat)=rv false [1] [1]by decide+kernel]
def Q9o:AC 28 [] (· = .aI [Nj,.sl 5 (mq.map PV.dJ)]):=by
 have hf:=Q61 (x:=1) (y:=2) Oz Oz Oz;have ho:=Gt (x:=1) Oz Oz;rw[akz]at hf;rw[apT]at ho;have sc:∀s,(PV.str s).cells=[.str s]:=λ_=>rfl
 refine tM Qd func28 rfl adN Nz λC hP=>?_;simp only[Xl];refine cC ?_;refine Sz1 sc ?_;refine bV (vm 6 sU) ?_;refine jQ sc ?_;refine Qy hP hf ?_;refine jQ sc ?_;rw[yK rfl (λp hp=>by simp only[KaA,KaR,or_false]at hp;rcases hp with rfl|rfl|rfl|rfl<;>rfl) Oz];refine jQ sc ?_;refine bV (vm 9 sU) ?_;refine jQ sc ?_
 repeat' first
  |refine fU ?_ ?_
  |rw[yK rfl (λp hp=>by simp only[KaA,KaR,or_false]at hp;rcases hp with rfl|rfl|rfl|rfl<;>rfl) Oz]
  |refine Dd 12 4 rfl ba rfl (by decide) ?_
  |refine Dd 15 4 rfl ba rfl (by decide) ?_
  |refine Dd 18 2 rfl ba rfl (by decide) ?_
  |refine Qy hP ho ?_
  |simp+decide (disch:=try exact E1 sc) only[go_sem,sc,ch,Kak,Kao,Kal,Kaq,Kai]
 all_goals
  refine ss (nH ?_);refine jQ sc ?_;exact ek rfl rfl rfl (Qi _) (Qi _)
def apU:AC 9 [] (· = .bool true):=by
 have hm:=Q9o;have h1:=Mu ags;have h2:=Mu agt;have h3:=Mu aiv;have l3:=UI;have hp4:((dP b6 ll b6.length).1.length:Nat)=4:=(HJ b6 ll 4).1;have hfg:∃l,Nj= .agg [.sl 6 l,.aa]:=⟨_,rfl⟩
 obtain⟨F,hF⟩:=hfg;rw[hF]at hm h1 h2 h3;generalize(dP b6 ll b6.length).1=P at *
 generalize vF=Q at *
 generalize ll=W at *
 generalize mq=L at *
 refine tM Qd func9 rfl ae2 Nz λC hP=>?_;simp only[c9];refine cC ?_;refine ay hP hm ?_;refine ay hP h1 ?_;refine Sz0 ?_;rw[yK rfl (λp hp=>by simp only[KaA,KaR,or_false]at hp;rcases hp with rfl|rfl|rfl|rfl<;>rfl) Oz];refine Sz0 ?_;refine Dd 22 4 rfl ba rfl (by decide) ?_;refine de ?_;have xL:∀ {fr:Fr} {hp:HP},hp 24=some ⟨5,65,[.agg [.int .i64 4,PV.mono [0,1,0,2],.bool false,.aa,.aa]],false⟩->Wk fr hp fr (Qg hp 24 ⟨5,65,mW.map PV.dJ,false⟩):=λh=>by
  refine KP h rfl λi x x' hx bc=>?_
  match i,hx,bc with
  |0,hx,bc=>
   cases hx;cases bc;refine⟨rfl,rfl,λj y y' hy iV=>?_⟩
   match j,hy,iV with
   |0,hy,iV=>cases hy;cases iV;exact tP _
   |1,hy,iV=>cases hy;cases iV;exact tP _
   |2,hy,iV=>cases hy;cases iV;exact tP _
   |3,hy,iV=>cases hy;cases iV;trivial
   |4,hy,iV=>cases hy;cases iV;trivial
   |j+5,hy,_=>cases hy
  |i+1,hx,_=>cases hx
 refine bV (xL ba) ?_;have wc:mW.length=1:=rfl;generalize mW=Mk at *
 refine Dd 24 1 rfl ba (by simp[wc]) (by decide) ?_;refine de ?_;refine Qy hP h2 ?_;refine jQ l3 ?_;refine Qy hP h3 ?_;have axI:(P.length:Int)=4:=Oz;refine jQ axI ?_;refine ss (cx ?_);refine de ?_;exact Qb rfl rfl
def c3:ax:=⟨37,[.t 4],Zr (fe 2 25 0<|Yl 4)<| .seq (Zr (fC 9 2 2 1<|Yp 11 8 9 10<|Zu 12 11 .nil)<| .cond (.t 12) (Zr (Zq 13 false 9 []<|Zm 4 13 .nil) .ret) .skip)<|Zr (fC 15 2 2 1<|jR 17 10 15 16 14<|fb 5 18 19)<|Zr (fC 21 2 2 1<|jR 23 11 21 22 20<|fb 7 24 25)<|Zr (dS 26 5 7 12<|YV 29 28 6<|Zg 29 true (.mv 31 (.t 8))<|Zg 29 true (.bin 32 .eql false (.t 30) (.t 31))<|Ym 33 29 32<|Zm 34 33<|Zg 34 true (.call (some 35) false (.c (.fn 9 [] [])) [])<|Ym 36 34 35<|Yc 4 36) .ret⟩
open Go Go.FW Go.ChangeShapes Go.WideShapes Go.ChangeAt Go.RowKit
variable {H : Type} {enc : TypeId × Value -> H} {w : World} {base : Nat} {spare : Nat -> Bool} {held : Bool} {r : Reach} {b0 : Nat} {v : Value} {d : DataW H} {ps : List MemPlace}
def aiw(fW:Value.okWide Tryz.prog w r b0 23 v)(hd:DataW.Trod enc Tryz.prog w base spare held 23 v d ps)(hn:Rows.uptoBulk d<=1048576):∃l,bS w di (.sl 5 (l.map PV.dJ)) v/\DF l:=by
 obtain⟨p,⟨l,e,h⟩,h2⟩:=PN Tryz.underlying23 fW RS hd hn;obtain rfl:p= .sl 5 (l.map PV.dJ):=by simpa using e
 exact⟨l,h2,h⟩
def akA:vg:=λs hs=>aga s hs
end Go.Proofs.YtikalonaompbdaaGreat
namespace Go.Proofs.YtikalonaompbdaaGreat
open Go Go.FW Go.ChangeShapes Go.WideShapes Go.ChangeAt Go.RowKit
variable {H : Type} {enc : TypeId × Value -> H}
variable {w : World} {base : Nat} {spare : Nat -> Bool} {held : Bool} {r : Reach} {b0 : Nat} {v : Value} {d : DataW H} {ps : List MemPlace}
end Go.Proofs.YtikalonaompbdaaGreat
namespace Go.Proofs.YtikalonaompbdaaGreat
open Go.Proofs.Tryz
open Go Go.FW
variable{G L:List bB}{S:List bR}{e:Int}{k:Nat}{l:List dB}{p:List Tm}
def c21:ax:=⟨64,[.t 2],Zr (Yl 2)<| .seq (Zr (Yv 5 0<|Zk 7 .gtr 6 5 .nil)<| .cond (.t 7) (Zr (Yl 2) .ret) .skip)<| .seq (Zr (Ye 3 0)<| .block 0<| .loop<| .seq (Zr (YZ 8 3 0)<| .cond (.t 11) .skip (.exit 0))<| .seq (.block 1<| .seq (Zr (jm 14 0 3 4<|YY 17 0 16 3<|Zq 19 false 24 [.t 18]<|Zu 20 19<|BA 21 20 3<|Zg 21 false (.len 27 (.t 26))<|Zg 21 false (.bin 28 .gtr false (.t 27) (.c (Zz 6)))<|eu 29 21 28)<| .cond (.t 29) (Zr (Yl 2) .ret) .skip)<|Zr (Ye 4 0)<| .block 2<| .loop<| .seq (Zr (cW 30 4 0 3<|Zi 33 4 31 32<|YT 34 3 33<|Yu 37 30 36)<| .cond (.t 37) .skip (.exit 2))<| .seq (.block 3<|Zr (jm 40 0 3 4<|eF 43 3 42 4<|Zi 46 4 44 45<|YT 47 3 46<|Zk 50 .gtr 49 70<|BA 51 50 3<|Zg 51 false (.mv 57 (.t 4))<|Zg 51 false (.idx 58 4 (.t 56) (.t 57))<|Zg 51 false (.dI 59 0 (.t 58))<|Zg 51 false (.ld 60 3 true (.t 59))<|Zg 51 false (.call (some 61) false (.c (.fn 24 [] [])) [.t 60])<|Zg 51 false (.un 62 .not (.t 61))<|eu 63 51 62)<| .cond (.t 63) (Zr (Yl 2) .ret) .skip)<| .rg (fO 38 4))<| .rg (Zm 12 3<|YG 13 12 3))<|Zr (my 2) .ret⟩
def adO:Qc Tryz.prog f21=some c21:=by kernel_rfl
def c23:ax:=⟨21,[.t 6],Zr (dH 3 2 25 0<|Ye 6 0)<|Zr (fC 10 2 3 1<|jR 12 11 10 11 9<|Zm 7 13<|Zm 8 14 .nil)<| .seq (Zr (YP 15 8)<| .cond (.t 16) (Zr (iC 17 8 6) .ret) .skip)<|Zr (dS 18 7 2 69<|Yc 6 20) .ret⟩
def adP:Qc Tryz.prog f23=some c23:=by kernel_rfl
def c5:ax:=⟨29,[.t 6],Zr (dH 3 2 25 0<|Yl 6)<| .seq (Zr (fC 7 2 3 1<|Yp 9 8 7 8<|Zu 10 9<|YB 11 10 2<|Zg 11 false (.call (some 13) false (.c (.fn 21 [] [])) [.t 12])<|Zg 11 false (.un 14 .not (.t 13))<|eu 15 11 14)<| .cond (.t 15) (Zr (Zq 16 false 9 []<|Zm 6 16 .nil) .ret) .skip)<|Zr (Zh 17 2 3<|Yh 18 1 2<|Zh 21 2 3<|Yh 22 1 2<|Zq 20 true 22 [.t 17,.t 18,.t 19]<|Zq 24 true 23 [.t 21,.t 22,.t 23]<|Zb 25 .eql 20 24<|Zm 26 25<|Zg 26 true (.call (some 27) true (.c (.fn 9 [] [])) [])<|Ym 28 26 27<|Yc 6 28) .ret⟩
def ae3:Qc Tryz.prog Tryz.f5=some c5:=by kernel_rfl
set_option maxHeartbeats 2000000 in
def Q9p(hb:∀s∈l,rM k s)(eU:1<=k)(hk:k<2^36)(hl:l.length<2^40):AC 21 [.sl 4 (l.map PV.gW)] (· = .bool (pw l)):=by
 refine aF Qd func21 adO λC hP=>?_;refine bD (λhn=>?_) (λhn=>?_)
 .refine Sz0 ?_;exact Qb (by simp[pw,show ¬l.length<=5 by omega]) rfl
 have uF:l.length<=5:=Oz;refine Sz0 ?_;refine Qh okB [(2,4),(8,63)] [] (λm J hp=>∃i,m=l.length-i/\i<=l.length/\(∀j (h:j<l.length),j<i->pq l[j]=true)/\J 3= .int .i64 (i:Nat)) l.length ?_ ?_
 .refine⟨0,rfl,Oz,Oz,?_⟩;refine Sz0 ?_;rfl
 rintro _ J h ⟨i,rfl,hi,h1,h3⟩;refine aZ h3 (λhg=>?_) (λhg=>?_)
 .have au:i<l.length:=Oz;have dX:=hb _ (Kad au);have eV:=Kad au;have xI:pq l[i]=false->pw l=false:=λh=>by
   have:l.all pq=false:=by rw[Kcb];exact⟨_,eV,by simp[h]⟩
   simp[pw,this]
  have bI:pq l[i]=true->∀j (h:j<l.length),j<i+1->pq l[j]=true:=λh j hj fP=>by
   by_cases e:j=i
   .subst e;exact h
   .exact h1 j hj Oz
  have bx:=dX.l;generalize hx:l[i]=x at *
  have xX:=G4 (n:=x.n) (a:=x.a) (d:=x.d) (by have:=dX.r.sa;omega) (by have:=dX.r.sd;omega);rw[show wE x.a x.d=yj x.a x.d from rfl]at xX;refine bE h3 hx hP xX ?_;cases hs:yj x.a x.d
  .refine Sz1 h3 ?_;exact Qb (by rw[xI (by simp[pq,hs])]) rfl
  refine cH h3 hx (λh4=>?_) (λh4=>?_)
  .refine Sz1 h3 ?_;exact Qb (by rw[xI (by simp[pq,show ¬x.p.length<=6 by omega])]) rfl
  refine Sz2 h3 hx ?_;refine Qh okB [(2,2),(4,4),(30,63)] [] (λm J hp=>∃j,m=x.p.length-j/\j<=x.p.length/\(∀n (h:n<x.p.length),n<j->tz x.p[n]=true)/\J 4= .int .i64 (j:Nat)) x.p.length ?_ ?_
  .refine⟨0,rfl,Oz,Oz,?_⟩;refine Sz1 h3 ?_;trivial
  rintro _ J2 h2 ⟨j,rfl,hj,g1,g4⟩;refine iq h3 g4 hx (λhgj=>?_) (λhgj=>?_)
  .have dz:j<x.p.length:=Oz;have NM:=dX.p _ (Kad dz);have hpm:=Kad dz;have X3:tz x.p[j]=false->pq x=false:=λh=>by
    have:x.p.all tz=false:=by rw[Kcb];exact⟨_,hpm,by simp[h]⟩
    simp[pq,DH,this]
   have qE:tz x.p[j]=true->∀n (h:n<x.p.length),n<j+1->tz x.p[n]=true:=λh n hn Oh=>by
    by_cases e:n=j
    .subst e;exact h
    .exact g1 n hn Oz
   have qN:=NM.l;have uL:=RB.raw NM eU;generalize hy:x.p[j]=y at *
   have hsy:=G4 (n:=y.n) (a:=y.a) (d:=y.d) (by have:=uL.sa;omega) (by have:=uL.sd;omega);rw[show wE y.a y.d=yj y.a y.d from rfl]at hsy;refine Sz4 h3 g4 hx hy ?_;refine Qo (λh5=>?_) (λh5=>?_)
   .refine Sz2 h3 g4 ?_;exact Qb (by rw[xI (X3 (by simp[tz,show ¬y.m.length<=70 by omega]))]) rfl
   refine gy h3 g4 hx hy hP hsy ?_;cases dA:yj y.a y.d
   .refine Sz2 h3 g4 ?_;exact Qb (by rw[xI (X3 (by simp[tz,dA]))]) rfl
   .refine Sz2 h3 g4 ?_;refine Qe (x.p.length-(j+1)) Oz ⟨j+1,rfl,Oz,qE (by rw[tz,dA,decide_eq_true Oz];rfl),?_⟩;refine Sz2 h3 g4 ?_
    try trivial
  .obtain rfl:j=x.p.length:=by omega
   have bY:x.p.all tz=true:=by rw[Kas];intro t ht;obtain⟨n,hn,rfl⟩:=KaH ht;exact g1 n hn hn
   refine Sz1 h3 ?_;simp (disch:=decide) only[iM,gY];refine Qe (l.length-(i+1)) Oz ⟨i+1,rfl,Oz,bI (by simp[pq,DH,hs,bY];omega),?_⟩;exact Tz1 h3
 .obtain rfl:i=l.length:=by omega
  refine Sz0 ?_;refine Qb ?_ rfl;have:l.all pq=true:=by rw[Kas];intro t ht;obtain⟨j,hj,rfl⟩:=KaH ht;exact h1 j hj hj
  simp[pw,this,uF]
def akB(hp:PQ 4096 132000 16 p)(hb:∀s∈l,rM k s)(eU:1<=k)(hk:k<2^36)(hf:pw l=true):∃e,AC 68 [PV.aC p,.sl 4 (l.map PV.gW)] (· = .int .i64 e)/\AC 69 [PV.aC p,.sl 4 (l.map PV.gW)] (· = .int .i64 e):=by
 obtain⟨b1,b2,b3⟩:=apA hb hf;have bx:=hp.l;have xT:PB 132000 2097152 p:=hp.b.mono Oz Oz;have hR:∀t∈p.map gk,RB 1048576 t:=λt ht=>by obtain⟨s,hs,rfl⟩:=KaD.1 ht;exact Du (by have:=(xT s hs).c;omega) (by have:=(xT s hs).m.len;omega)
 have hq:eC (p.map gk)=true->PB 132000 2097152 ((p.map gk).map bO.tm):=λ_=>by rw[KbT,show bO.tm∘gk=id from funext λt=>Prod.ext (aeX t) rfl,List.map_id];exact xT
 have jr:(p.map gk).length<2^30:=by rw[KaC];omega
 have h1:=QD (ad6 hb eU hk hf) hR jr Oz Oz (b1.mono Oz Oz) Oz hq Oz Oz;have h2:=afX (aoY hb eU hk hf) hR jr Oz Oz (b1.mono Oz Oz) Oz hq Oz Oz;rw[C4]at h1 h2;exact⟨_,h1,h2⟩
def akC{e2:Int}(h1:AC 10 [PV.cn S G,.sl 5 (L.map PV.dJ)] (· = .aI [PV.aC p,.int .i64 e]))(h2:AC 68 [PV.aC p,.sl 4 (l.map PV.gW)] (· = .int .i64 e2)):
  AC 22 [PV.cn S G,.sl 5 (L.map PV.dJ),.sl 4 (l.map PV.gW)] (· = .int .i64 (if e≠0 then e else e2)):=by
 refine aF Qd func22 Up λC hP=>?_;refine ay hP h1 ?_;refine bD (λh0=>?_) (λh0=>?_)
 .refine Sz0 ?_;exact Qb (by rw[if_pos h0]) rfl
 refine ay hP h2 ?_;refine Sz0 ?_;exact Qb (by rw[if_neg h0]) rfl
def aix{e2:Int}(h1:AC 11 [PV.cn S G,.sl 5 (L.map PV.dJ)] (· = .aI [PV.aC p,.int .i64 e]))(h2:AC 69 [PV.aC p,.sl 4 (l.map PV.gW)] (· = .int .i64 e2)):
  AC 23 [PV.cn S G,.sl 5 (L.map PV.dJ),.sl 4 (l.map PV.gW)] (· = .int .i64 (if e≠0 then e else e2)):=by
 refine aF Qd func23 adP λC hP=>?_;refine ay hP h1 ?_;refine bD (λh0=>?_) (λh0=>?_)
 .refine Sz0 ?_;exact Qb (by rw[if_pos h0]) rfl
 refine ay hP h2 ?_;refine Sz0 ?_;exact Qb (by rw[if_neg h0]) rfl
def Qq0(hN:vg)(hS:S.length<2^40)(hG:G.length<2^40)(hL:L.length<2^40)(hb:∀s∈S,lX s)(hg:∀g∈G,iA g)(bZ:∀g∈L,iA g)(rZ:∀s∈l,rM k s)(eU:1<=k)(hk:k<2^36)(mB:l.length<2^40):
  AC 5 [PV.cn S G,.sl 5 (L.map PV.dJ),.sl 4 (l.map PV.gW)] (· = .bool true):=by
 have oK:=aid hN hS hG hL hb hg bZ;have dA:=Q9p rZ eU hk mB;have jU:=apU;refine aF Qd func5 ae3 λC hP=>?_;refine Sz0 ?_;refine kG hP oK rfl rfl rfl ?_;rintro _ ⟨b,rfl,BX⟩;cases b
 .refine ay hP jU ?_;exact cf
 have hs:=BX rfl;refine ay hP dA ?_;cases hf:pw l
 .refine ay hP jU ?_;exact cf
 have h1:=MS hs.f hb hg bZ hs.l hs.s;have h2:=ah1 hN hs.f hb hg bZ hs.l hs.s;obtain⟨p,e,he,hp,-⟩:=ah2 hs.f hb bZ hs.l hs.s;rw[he]at h1 h2;obtain⟨e2,c1,c2⟩:=akB hp rZ eU hk hf;have d1:=akC h1 c1;have d2:=aix h2 c2;generalize(if e≠0 then e else e2)=x at *
 refine ay hP d1 ?_;refine ay hP d2 ?_;refine ay hP jU ?_;exact cf
open Go Go.FW Go.ChangeShapes Go.WideShapes Go.ChangeAt Go.RowKit
variable {H : Type} {enc : TypeId × Value -> H}
def KU(s:dB):Prop:=Raw 1048576 s.n s.a s.d/\Uy s.p
def aiy:Rd enc 99 λps=>∃s:dB,ps=(PV.gW s).cells/\KU s:=by refine(F2 cV Tryz.underlying99 rfl (by kernel_rfl) (by kernel_rfl) H3 amJ).mono ?_;rintro ps ⟨p,q,rfl,⟨n,a,d,rfl,h⟩,l,rfl,h3⟩;exact⟨⟨n,a,d,l⟩,rfl,h,h3⟩
def HK(l:List dB):Prop:=l.length<=1048576/\∀s∈l,KU s
def Vl:Tryz.prog.cellsOf 99=4:=by kernel_rfl
def agu:Rd enc 34 λps=>∃l:List dB,ps=[.sl 4 (l.map PV.gW)]/\HK l:=by refine(yz (α:=dB) (f:=PV.gW) (G:=KU) cV Tryz.underlying34 (by rw[Vl];omega) aiy).mono ?_;rintro ps ⟨l,rfl,h1,h2⟩;exact⟨l,by rw[Vl],h1,h2⟩
variable {w : World} {base : Nat} {spare : Nat -> Bool} {held : Bool} {r : Reach} {b0 : Nat} {v : Value} {d : DataW H} {ps : List MemPlace}
def Q9q(fW:Value.okWide Tryz.prog w r b0 34 v)(hd:DataW.Trod enc Tryz.prog w base spare held 34 v d ps)(hn:Rows.uptoBulk d<=1048576):∃l:List dB,bS w di (.sl 4 (l.map PV.gW)) v/\HK l:=by
 obtain⟨p,⟨l,e,h⟩,h2⟩:=PN Tryz.underlying34 fW agu hd hn;obtain rfl:p= .sl 4 (l.map PV.gW):=by simpa using e
 exact⟨l,h2,h⟩
def adQ{l:List dB}(h:HK l):∀s∈l,rM 1048576 s:=λs hs=>by obtain⟨h1,h2,h3⟩:=h.2 s hs;exact⟨h1,λt ht=>(h3 t ht).1,Oz⟩
def Qsu{S:List bR}{G L:List bB}{l:List dB}(h:J7 S G)(hl:DF L)(hs:HK l):AC 5 [PV.cn S G,.sl 5 (L.map PV.dJ),.sl 4 (l.map PV.gW)] (· = .bool true):=
 Qq0 akA (k:=1048576) (by have:=h.1.1;omega) (by have:=h.2.1;omega) (by have:=hl.1;omega) (λs hs=>acP (h.1.2 s hs)) (λg hg=>TN (h.2.2 g hg)) (λg hg=>TN (hl.2 g hg)) (adQ hs) Oz Oz (by have:=hs.1;omega)
end Go.Proofs.YtikalonaompbdaaGreat
namespace Go.Proofs.YtikalonaompbdaaGreat
open Go.Proofs.Tryz
open Go Go.FW Go.ChangeShapes Go.WideShapes Go.ChangeAt Go.RowKit
def Qnb(H:Type)(enc:TypeId×Value->H)(W:World)(base:Nat)(args:Array Value)(ds gs:List (DataW H))(before:List MemPlace)
  (fW:∀(j:Nat) t v,Tryz.f5.params[j]? =some t->args[j]? =some v->Value.okWide Tryz.prog W .any base t v)
  (hW:DataW.Whole enc Tryz.prog Tryz.f5.params.toList Rows.inequalityChecksSpec.vars false W args.toList ds gs before) (hk:Rows.uptoSmall H (ds++gs)=true):
  Calls Tryz.prog 5 args W λe W'=>∃v,e= .returned v/\Rows.inequalityChecksSpec.post enc Tryz.prog Tryz.f5 false true false false W args v W':=by
 have Er:=hW;obtain⟨p,q,hA0,hV,rfl,oG,BT⟩:=hW;have hA:DataW.TrodAll enc Tryz.prog W 0 (λ_=>true) true Tryz.f5.params.toList args.toList ds p:=hA0;rw[Tryz.params5]at hA fW;obtain⟨v0,vs0,e0,ds0,p0,q0,cF,rfl,rfl,h0,r0⟩:=trodAll_cons hA;obtain⟨v1,vs1,e1,ds1,p1,q1,rfl,rfl,rfl,h1,r1⟩:=trodAll_cons r0;obtain⟨v2,vs2,e2,ds2,p2,q2,rfl,rfl,rfl,h2,r2⟩:=trodAll_cons r1;obtain⟨rfl,rfl,rfl⟩:=trodAll_nil r2;obtain rfl:args= #[v0,v1,v2]:=by cases args;simp_all
 obtain⟨rfl,rfl⟩:=trodVars_none hV;have hb:=ajU hk;simp only[Kai,Rows.uptoBulkAll]at hb;obtain⟨S0,G0,g0,b0⟩:=af8 (fW 0 _ v0 rfl rfl) h0 Oz;obtain⟨a1,g1,b1⟩:=aiw (fW 1 _ v1 rfl rfl) h1 Oz;obtain⟨a2,g2,b2⟩:=Q9q (fW 2 _ v2 rfl rfl) h2 Oz;exact ahF Er rfl (by kernel_rfl) (by kernel_rfl) rfl (Qsu b0 b1 b2) rfl
  (ajV (vs:=[v0,v1,v2]) (by
   intro i x hx v hv
   match i,hx,hv with
   |0,hx,hv=>simp at hx hv;subst hx hv;exact g0
   |1,hx,hv=>simp at hx hv;subst hx hv;exact g1
   |2,hx,hv=>simp at hx hv;subst hx hv;exact g2
   |i+3,hx,hv=>simp at hx) rfl)
def Qom(os:Os)(started:os.Started)(H:Type)(enc:TypeId×Value->H)(F:Stop.Interp):
  ReturnsInHanded {} Tryz.checked os 5 .any ((Rows.OpenSpec.upto Rows.inequalityChecksSpec).pre6 enc Tryz.prog Tryz.f5 Rows.inequalityChecksUptoRow.domain false) (((Rows.OpenSpec.upto Rows.inequalityChecksSpec).at F).post enc Tryz.prog Tryz.f5 false true false false):=by
 refine returnsInHanded_of_cond (C:=Tryz.checked) (s:=Rows.OpenSpec.upto Rows.inequalityChecksSpec) (k:=Rows.uptoSmall) rfl own started (by kernel_rfl) func5
  (OpenSpec.witness (enc:=enc) (C:=Tryz.checked) (s:=Rows.OpenSpec.upto Rows.inequalityChecksSpec) (k:=Rows.uptoSmall) rfl false ⟨#[],#[.agg #[.slice none 0 0,.slice none 0 0],.slice none 0 0,.slice none 0 0],[]⟩ 8 (by kernel_rfl) (by kernel_rfl) (by kernel_rfl)
   (x:=([.agg [.nil,.nil],.nil,.nil],[],[])) (by kernel_rfl) rfl (by kernel_rfl)) ?_
 intro W base args ds gs before fW hW _ hk _;exact Qnb H enc W base args ds gs before fW hW hk
set_option maxHeartbeats 16000000 in
def Qp6:joinedFacts Tryz.prog 5 Tryz.f5 (Rows.OpenSpec.upto Rows.inequalityChecksSpec).bare Rows.inequalityChecksUptoRow=true:=by
 have arR:∀ {a b:Bool},a=true->b=true->(a&&b)=true:=by rintro _ _ rfl rfl;rfl
 unfold joinedFacts
 repeat' with_reducible refine arR ?_ ?_
 all_goals decide+kernel
theorem inequalityChecks_proved:Rows.InequalityChecksUptoSaid:=
 OpenClaim.holds_of_cond 5 Tryz.f5 rfl rfl rfl rfl rfl rfl rfl ⟨rfl,rfl,rfl,rfl,rfl⟩ rfl rfl rfl rfl rfl (by kernel_rfl) func5 Qp6
  (of_decide_eq_true (by kernel_rfl)) (by unfold Func.isWrapper;first|(rw[if_pos (by decide+kernel)];kernel_rfl)|(rw[if_neg (by decide+kernel)];exact⟨rfl,rfl⟩))
  (λos started H enc _ F=>Qom os started H enc F)
end Go.Proofs.YtikalonaompbdaaGreat
