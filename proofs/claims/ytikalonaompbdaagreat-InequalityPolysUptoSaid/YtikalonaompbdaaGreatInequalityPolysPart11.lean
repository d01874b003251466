/- Part 11 of the proof of InequalityPolys: IC0, K9, IA1, K18, IA2, IA3, IA4, IA5, IA6, IC1, FwYE, FwYF. Own lemmas; no conditions. -/
import Derived.Test.YtikalonaompbdaaGreatInequalityPolysPart10
import Derived.Laws.RangeString
import Derived.Laws.RangeAny
import Derived.Lib.OthersKept
import Derived.LoopTactic
set_option maxHeartbeats 1000000
set_option linter.all false
set_option maxRecDepth 100000
namespace Go.Proofs.YtikalonaompbdaaGreat
open Go.Proofs.Tryz
open Go Go.FW
def asE:ax:=⟨8,[.t 3],Zr (YI 3)<|Zr (Zm 4 0<|cM 5 3 1 3<|Yp 7 37 4 6<|Zm 3 7 .nil) .ret⟩
def aou:Qc Tryz.prog f148=some asE:=by kernel_rfl
def asF:ax:=⟨7,[.t 3],Zr (YI 3)<|Zr (Zm 4 0<|Zl 5 1 1<|Yp 6 151 4 5<|Zm 3 6 .nil) .ret⟩
def aov:Qc Tryz.prog f150=some asF:=by kernel_rfl
def Xc:ax:=⟨23,[.cell 3 2 true],Zr (Yr 3 122 .nil)<|Zr (Zl 5 1 1<|Zl 7 1 1<| .br (dT 6 5 0<| .br (dT 8 7 1<| .br (Ys 9 144 6 8<|Yr 4 122<|Zs 2 4 9 .nil) (Yr 4 122<|uo 9 144 6 8 2 4)) (Yr 4 122<|dT 8 7 1<|uo 9 144 6 8 2 4)) (Yr 4 122<|dT 6 5 0<|dT 8 7 1<|uo 9 144 6 8 2 4))<|Zr (Zl 10 1 1<|Zm 13 0<|iS 14 4 0<|Zm 17 0<|iS 18 4 1<|dT 11 10 0<|nQ 12 146 11<|Zo (.call (some 16) true (.t 13) [.t 15])<|Zo (.call (some 20) true (.t 17) [.t 19])<|rN 21 16 20<|Zq 22 true 145 [.t 12,.t 21,.c (.fn 40 [] [])]<|Zs 2 3 22 .nil) .ret⟩
def aow:Qc Tryz.prog f143=some Xc:=by kernel_rfl
def Xd:ax:=⟨32,[.t 8],Zr (YI 8)<|Zr (Yh 9 0 0<|qv 11 10<|Zf 12 0 11<|Ya 13 1 12<|dq 15 1 2 3<|Zo (.cD 18 [Zz 0,Zz 0,Zz 0] [(0,1,.t 15),(1,1,.t 16),(2,1,.t 17)])<|Zo (.bs 19 3 253 [.t 18])<|Zo (.app 20 3 24 253 (.t 14) (.t 19))<|qv 21 9<|Zf 22 0 21<|qw 23 1 22 1 20)<|Zr (Zm 24 0<|qv 25 24<|Zf 26 0 25<|YT 27 1 26<|Zk 30 .sub 29 1<|Yn 31 264 30<|Yc 8 31) .ret⟩
def aox:Qc Tryz.prog f149=some Xd:=by kernel_rfl
def Ig:ax:=⟨34,[.cell 4 2 true],Zr (Yr 4 122 .nil)<|Zr (Zm 6 0<|qv 7 6<|Ya 8 2 7<|Zk 10 .add 9 1<|qv 11 6<|qw 12 2 11 1 10)<| .seq (Zr (Zm 13 0<|qv 14 13<|Ya 15 2 14<|BA 17 16 1)<| .cond (.t 17) (Zr (Zo (.cD 18 [.aa,.aa] [])<|Zs 2 4 18 .nil) .ret) .skip)<|Zr (Yh 19 0 1<|Zq 21 false 149 [.t 19,.c (Zz 1),.t 20,.c (Zz 0)]<|Yc 5 21)<| .seq (Zr (Zm 22 0<|qv 23 22<|Ya 24 2 23<|BA 26 25 2)<| .cond (.t 26) (Zr (Zm 27 5<|Zo (.cD 28 [.aa,.aa] [(0,1,.t 27),(1,1,.c .aa)])<|Zs 2 4 28 .nil) .ret) .skip)<|Zr (dq 29 5 0 1<|Zq 32 false 149 [.t 30,.c (Zz 1),.t 31,.c (Zz 1)]<|rN 33 29 32<|Zs 2 4 33 .nil) .ret⟩
def Ka:Qc Tryz.prog f147=some Ig:=by kernel_rfl
def Xe:ax:=⟨19,[.cell 6 2 true],Zr (Yr 6 122 .nil)<|Zr (dq 8 0 1 2<|Zq 11 false 149 [.t 8,.c (Zz 2),.t 9,.t 10]<|Zm 7 11 .nil)<|Zr (Yh 12 7 0<|Yh 14 1 2<|Zk 16 .add 15 1<|Zq 17 false 149 [.t 13,.c (Zz 2),.t 14,.t 16]<|rN 18 12 17<|Zs 2 6 18 .nil) .ret⟩
def aoy:Qc Tryz.prog f152=some Xe:=by kernel_rfl
def Xb:ax:=⟨17,[.cell 4 2 true],Zr (Yr 4 81 .nil)<|Zr (Zl 5 1 1<| .wk<|qv 6 5<|Zf 7 0 6<|dW 8 0 7 2 2<|Zm 12 0<|Yw 13 11 12<|YG 15 2 9 14<|Zs 2 4 16 .nil) .ret⟩
def aoz:Qc Tryz.prog f142=some Xb.strip:=by kernel_rfl
def xA:ax:=⟨72,[.cell 6 2 true],Zr (dH 3 1 118 0<|jA 4 68 1<|Yr 6 122 .nil)<|Zr (Zo (.fn 11 142 [] [.t 3,.t 4])<|Zo (.alloc 7 1 178 .nf)<|Zs 1 7 11 .nil)<|Zr (Zo (.fn 12 143 [] [.t 7])<|Zm 8 12 .nil)<| .seq (Zr (Ya 13 0 4 .nil)<| .block 0<|Zr (Yq 16 14 1 15)<| .cond (.t 15) (Zr (Zl 17 1 3<| .wk<|Zm 18 2<|Yp 19 147 17 18<|Zs 2 6 19 .nil) .ret) (Zr (Yq 21 14 2 20)<| .cond (.t 20) (Zr (Zm 22 8<| .wk<|Zo (.fn 23 148 [] [.t 4])<| .wk<|Zo (.call (some 24) false (.t 22) [.t 23])<|Zs 2 6 24 .nil) .ret) (Zr (Yq 26 14 3 25)<| .cond (.t 25) (Zr (Zl 27 1 7<|Zl 30 1 7<|Zl 32 1 7<|dT 28 27 0<|nQ 29 146 28<|dT 31 30 1<|dT 33 32 2<|Ys 34 144 31 33<|Zq 35 true 145 [.t 29,.t 34,.c (.fn 40 [] [])]<|Zs 2 6 35 .nil) .ret) (Zr (Yq 37 14 4 36)<| .cond (.t 36) (Zr (Zl 38 1 7<|Zl 40 1 7<| .br (dT 39 38 1<| .br (dT 41 40 2<| .br (Ys 42 144 39 41<|Yr 9 122<|Zs 2 9 42 .nil) (Yr 9 122<|uo 42 144 39 41 2 9)) (Yr 9 122<|dT 41 40 2<|uo 42 144 39 41 2 9)) (Yr 9 122<|dT 39 38 1<|dT 41 40 2<|uo 42 144 39 41 2 9))<|Zr (Zl 43 1 7<|iS 46 9 1<|iS 49 9 0<|dT 44 43 0<|nQ 45 146 44<|nQ 48 82 47<|rN 51 48 50<|Zq 52 true 145 [.t 45,.t 51,.c (.fn 40 [] [])]<|Zs 2 6 52 .nil) .ret) (Zr (Yq 54 14 5 53)<| .cond (.t 53) (Zr (Zl 55 1 3<| .wk<|Zm 56 2<|Zq 57 false 149 [.t 55,.c (Zz 1),.t 56,.c (Zz 0)]<|Zo (.alloc 10 1 29 .aa)<|Zs 1 10 57 .nil)<|Zr (Zm 58 8<| .wk<|Zo (.fn 59 150 [] [.t 10])<| .wk<|Zo (.call (some 60) false (.t 58) [.t 59])<|Zs 2 6 60 .nil) .ret) (Zr (Yq 62 14 6 61)<| .cond (.t 61) (Zr (Zl 63 1 3<| .wk<|Zm 64 2<|Zq 65 false 149 [.t 63,.c (Zz 1),.t 64,.c (Zz 0)] .nil)<|Zr (Zl 66 1 3<| .wk<|Zm 67 2<|Zq 68 false 152 [.t 66,.t 67,.c (Zz 1)]<|Zs 2 6 68 .nil) .ret) .skip))))))<|Zr (Zl 69 1 3<| .wk<|Zm 70 2<|Zq 71 false 152 [.t 69,.t 70,.c (Zz 0)]<|Zs 2 6 71 .nil) .ret⟩
def yO:Qc Tryz.prog f76=some xA.strip:=by kernel_rfl
def Xq:ax:=⟨70,[.cell 2 2 true,.t 3],Zr (uu 1 25 0<|Zo (.alloc 2 2 76 (.agg [.aa,.aa]))<|Yf 3 0)<| .seq (Zr (iB 9 2 1 75<|Zm 4 10 .nil)<|Zr (YQ 11 4)<| .cond (.t 12) (Zr (Zo (.cD 13 [.aa,.aa] [])<|Zm 14 4<|Zs 2 2 13<|Zm 3 14 .nil) .ret) .skip)<|Zr (Zo (.cD 15 [.aa,.aa,Zz 0] [])<|dH 16 3 120 15<| .wk<| .wk<| .wk<| .wk<|Zm 5 16 .nil)<| .seq (Zr (YT 17 0 1<|Yf 20 0)<| .block 0<| .loop<|Zr (Yu 21 20 19)<| .seq (.cond (.t 21) .skip (.exit 0))<| .seq (.block 1<|Zr (Zm 22 20<|ew 23 18 20 7<|Zm 6 22<|Zs 6 7 24 .nil)<|Zr (Zm 25 5<|sV 26 6 7 6<|mY 28 76 25 26 27<|Yr 8 122<|Zs 2 8 28 .nil)<| .seq (Zr (Zm 29 5<|qv 30 29<|Zf 31 0 30<|YT 32 1 31<|Zk 35 .gtr 34 64<|Zm 36 35<|Zg 36 false (.qW 37 2 1 (.t 8) (.c (Zz 0)))<|Zg 36 false (.ld 38 1 false (.t 37))<|YV 36 4000<|Zm 42 41<|Zg 42 false (.qW 43 2 1 (.t 8) (.c (Zz 1)))<|Zg 42 false (.ld 44 1 false (.t 43))<|YV 42 4000 .nil)<| .cond (.t 47) (Zr (Zo (.cD 48 [.aa,.aa] [])<|Zs 2 2 48<|Yf 3 4) .ret) .skip)<| .rg (Yh 49 5 5<|qv 51 50<|Zf 52 0 51<|Ya 53 0 52<|iS 55 8 0<|iS 57 8 1<|rN 59 56 58<|YA 60 2 81 59 48 54<|qv 62 49<|Zf 63 0 62<|qw 64 0 63 1 61))<| .rg (YC 65 20 20))<|Zr (Zm 66 5<|qv 67 66<|cM 68 0 67 2<| .wk<|Zs 2 2 69<|Yf 3 0) .ret⟩
def adF:Qc Tryz.prog f29=some Xq.strip:=by kernel_rfl
variable{s:ByteArray}{w:World}
def WW(n:Nat)(w:World):Calls Tryz.prog 250 #[.int .u8 n] w λe w'=>e= .returned (.bool (jG n))/\Ext di w w':=by
 refine((af7 (n:=n)).2 w di #[.int .u8 n] (λ_ h=>h.elim) rfl (λi x hx=>?_)).mono λe w' h=>?_
 .match i,hx with
  |0,hx=>simp at hx;subst hx;exact Qn.int _ _
  |i+1,hx=>simp at hx
 .obtain⟨v,r,rfl,h1,h2,rfl⟩:=h;cases h2;exact⟨rfl,h1⟩
def ahA(n:Nat)(w:World):Calls Tryz.prog 251 #[.int .u8 n] w λe w'=>e= .returned (.bool (pA n))/\Ext di w w':=by
 refine((ahV (n:=n)).2 w di #[.int .u8 n] (λ_ h=>h.elim) rfl (λi x hx=>?_)).mono λe w' h=>?_
 .match i,hx with
  |0,hx=>simp at hx;subst hx;exact Qn.int _ _
  |i+1,hx=>simp at hx
 .obtain⟨v,r,rfl,h1,h2,rfl⟩:=h;cases h2;exact⟨rfl,h1⟩
def Q6z(w:World):Calls Tryz.prog 252 #[] w λe w'=>∃b off cap,e= .returned (.slice (some ⟨b,off,none⟩) 29 cap)/\Ext di w w'/\∀i (h:i<iX.length),w'.cell? ⟨b,off+i,none⟩=some (.string iX[i]):=by
 refine(Q6w.2 w di #[] (λ_ h=>h.elim) rfl (λi x hx=>by simp at hx)).mono λe w' h=>?_
 obtain⟨v,r,rfl,h1,h2,rfl⟩:=h;have m8:Qn w' di (.sl 1 (iX.map PV.str)) v:=h2;cases m8 with
 |sl _ _ b off cap vs hX hb hl hc he hv hr=>
  refine⟨b,off,cap,rfl,h1,λi hi=>?_⟩;have hlen:(iX.map PV.str).length=29:=rfl;have wb:i<iX.length:=hi;have hg:(iX.map PV.str)[i]? =some (.str iX[i]):=by rw[Kaw,Kae wb];rfl
  have h3:=hv i (by rw[hlen];exact wb) 0 Oz;have h4:=hr i _ hg 0 _ rfl;generalize vs i 0=u at h3 h4;cases h4;rw[<-h3];simp
def ahB(s:ByteArray)(pos:Nat)(h:pos<s.size):1<=(Utf8.decode s pos).2:=by
 by_cases ha:(s[pos]'h).toNat<128
 .rw[decode_ascii s pos h ha];exact Kag _
 .exact(decode_high s pos h Oz).2
def akh{wr:World}(h:Ext di w wr)(s:ByteArray)(p:Nat):Ext di w (wr.iter s p):=h.trans (Ext.alloc wr _ _)
def af9{wr:World}(h:Ext di w wr){b:Nat}(hb:w.heap.size<=b)(s:ByteArray)(p:Nat):Ext di w (wr.iterAt b s p):=
 ⟨h.os,h.tape,h.output,by rw[Lib.iterAt_size];exact h.size,λc hc hn=>by rw[Lib.iterAt_other _ _ _ _ _ Oz];exact h.block c hc hn⟩
def adG{k:ByteArray}(h:s.toList=k.toList):s=k:=by rw[KcS,KcS]at h;cases s;cases k;exact congrArg _ (Array.toList_inj.1 h)
def FJ{p:Prop}(h:p->False):false=true↔p:=⟨λe=>(by cases e),λq=>(h q).elim⟩
def UC(h:Nq s):¬s.toList=[]:=λe=>by have:=h.p;have h2:=congrArg List.length e;rw[KcS,Kcd]at h2;have:s.size=0:=h2;omega
def adH(h:Nq s)(h0:0<s.size):¬((s.toList.isEmpty=true\/(20:Int)<s.size)\/(!jG (s[0]'h0).toNat)=true):=by
 rintro((e|e)|e)
 .exact UC h (List.isEmpty_iff.1 e)
 .have:=h.l;omega
 .rw[h.f h0]at e;cases e
set_option maxHeartbeats 2000000 in
def Q60 (s:ByteArray) (hs:s.size<2^40) (w:World):Calls Tryz.prog 135 #[.string s] w λe w'=>∃b,e= .returned (.bool b)/\Ext di w w'/\(b=true↔Nq s):=by
 go_enter func135,Tryz.ntmps135
 go_wp2_with (go_at_call 250;refine(WW _ _).mono ?_;rintro e w2 ⟨rfl,hx⟩)
 all_goals try (go_ret;first|exact⟨_,rfl,Ext.refl _ _,FJ λhn=>absurd (by assumption) (UC hn)⟩|exact⟨_,rfl,by assumption,FJ λhn=>absurd (by assumption) (adH hn _)⟩|exact .inl ⟨rfl,Ext.refl _ _,λhn=>absurd hn.l (by omega)⟩)
 rotate_left
 .exfalso;have h1:¬s.toList=[]:=by assumption
  have h2:¬0<s.size:=by assumption
  refine h1 (KaE.1 ?_);rw[KcS];simp only[Kcd];show s.size=0;omega
 rename_i r1 r2 r3 r4 r5 r6;have axm:s.size<=20:=by omega
 have IQ:jG (s[0]'r3).toNat=true:=by simpa using r4.2
 have hf1:∀h:0<s.size,jG (s[0]'h).toNat=true:=λ_=>IQ
 clear r1 r2 r4 IQ;generalize s.toList.isEmpty=b0;generalize decide (20<(s.size:Int))=b1;generalize jG (s[0]'r3).toNat=b2
 go_loopw [3] (λv wr=>∃pos n,wr.heap[w2.heap.size]? =some (.stringIter s pos)/\Ext di w wr/\pos=jl s n/\∀m,m<n->∀h:jl s m<s.size,jG (s[jl s m]'h).toNat=true\/pA (s[jl s m]'h).toNat=true) (λ_ wr=>s.size-wr.iterPos w2.heap.size)
 case atStart=>exact⟨0,0,World.iter_heap w2 s 0,akh hx s 0,rfl,λm hm=>absurd hm (by omega)⟩
 case round=>
  have Jg:=hx.size;obtain⟨pos,n,EG,hE,EU,bY⟩:=hrel;have hip:wr.iterPos w2.heap.size=pos:=by simp[World.iterPos,EG]
  have avT:w2.heap.size<wr.heap.size:=(Kbp.1 EG).1;by_cases hp:pos<s.size
  .have il:∀ty,(Instr.next (.pointer (some ⟨w2.heap.size,0,none⟩)) true ty).run Tryz.prog wr=_:=λty=>Lib.run_next_any_at wr w2.heap.size s pos ty EG hp
   have hwd:=ahB s pos hp;have Oi:jl s (n+1)=pos+(Utf8.decode s pos).2:=by rw[jl,<-EU,if_pos hp]
   have bI:(jG (s[pos]'hp).toNat=true\/pA (s[pos]'hp).toNat=true)->∀m,m<n+1->∀h:jl s m<s.size,jG (s[jl s m]'h).toNat=true\/pA (s[jl s m]'h).toNat=true:=by
    subst EU;intro ho m hm h;by_cases e:m=n
    .subst e;exact ho
    .exact bY m (by omega) h
   have xI:¬(jG (s[pos]'hp).toNat=true\/pA (s[pos]'hp).toNat=true)->¬Nq s:=by subst EU;exact λho q=>ho (q.a n hp)
   clear bY EU;obtain⟨wd,aye⟩:∃wd,(Utf8.decode s pos).2=wd:=⟨_,rfl⟩
   rw[aye]at il hwd Oi;have EH:=Lib.iterAt_heap wr w2.heap.size s pos (pos+wd) EG;have IB:=af9 hE Jg s (pos+wd);obtain⟨W1,NA⟩:∃W1,W1=wr.iterAt w2.heap.size s (pos+wd):=⟨_,rfl⟩
   have uy:w2.heap.size<W1.heap.size:=by rw[NA,Lib.iterAt_size];exact avT
   rw[<-NA]at il EH IB;clear NA
   go_wp2_with (first|(go_at_call 250;refine(WW _ _).mono ?_;rintro e w3 ⟨rfl,tv⟩)|(go_at_call 251;refine(ahA _ _).mono ?_;rintro e w4 ⟨rfl,hx4⟩))
   .go_roundw
    case rel=>exact⟨pos+wd,n+1,(tv.block _ uy id).trans EH,IB.trans tv,Oi.symm,bI (.inl (by assumption))⟩
    case measure=>
     have:w3.iterPos w2.heap.size=pos+wd:=by simp[World.iterPos,(tv.block _ uy id).trans EH]
     omega
   .go_ret
    exact⟨_,rfl,(IB.trans tv).trans hx4,FJ (xI (λho=>by rcases ho with ho|ho;exact absurd ho (by assumption);simp_all))⟩
   .have Fe:=tv.trans hx4
    go_roundw
    case rel=>exact⟨pos+wd,n+1,(Fe.block _ uy id).trans EH,IB.trans Fe,Oi.symm,bI (.inr (by simp_all))⟩
    case measure=>
     have:w4.iterPos w2.heap.size=pos+wd:=by simp[World.iterPos,(Fe.block _ uy id).trans EH]
     omega
  .have il:∀ty,(Instr.next (.pointer (some ⟨w2.heap.size,0,none⟩)) true ty).run Tryz.prog wr=_:=λty=>Lib.run_next_end_at wr w2.heap.size s pos ty EG hp
   go_wp2_with (go_at_call 252;refine(Q6z _).mono ?_;rintro e w5 ⟨bk,ok,ck,rfl,Fe,hk⟩)
   have cX:=hE.trans Fe;have awl:∀m (h:jl s m<s.size),jG (s[jl s m]'h).toNat=true\/pA (s[jl s m]'h).toNat=true:=λm h=>by
    rcases KcF m n with hm|hm
    .exact bY m hm h
    .have e:=P9 (s:=s) (n:=n) (by omega) (m-n);rw[show n+(m-n)=m by omega]at e;omega
   clear bY
   go_loopw [38] (λv wr=>∃i:Nat,v= .int .i64 i/\i<=29/\wr=w5/\∀j (h:j<iX.length),j<i->s≠iX[j]) (λv _=>29-(Go.RowKit.intOf v).toNat)
   case atStart=>exact⟨0,rfl,by omega,rfl,λj _ hj=>absurd hj (by omega)⟩
   case round=>
    obtain⟨i,rfl,hi,rfl,aS⟩:=hrel;by_cases sY:i<29
    .have wb:i<iX.length:=sY;have xL:=hk i wb;have N8:=Kad wb;have bI:s≠iX[i]->∀j (h:j<iX.length),j<i+1->s≠iX[j]:=λhh j hj fP=>by
      by_cases e:j=i
      .subst e;exact hh
      .exact aS j hj (by omega)
     have jW:(i:Int)<29:=by omega
     go_wp2
     .go_ret
      exact⟨_,rfl,cX,FJ λhn=>absurd (adG (eq_of_beq (by assumption))) (hn.k _ N8)⟩
     .have OK:IntKind.i64.wrap ((i:Int)+1)=((i+1:Nat):Int):=by rw[IntKind.wrap_i64];omega
      refine kH (v:=.int .i64 ((i+1:Nat):Int)) (w':=wr) ?_ ?_
      .unfold execOp;simp[Act.eval,eqGuard,binOp,Op.intArith,OK]
       try trace_state
      .rename_i ka kb;refine kb _ _ ?_
       go_wp2
       refine kH (v:=.int .i64 ((i+1:Nat):Int)) (w':=wr) ?_ ?_
       .unfold execOp;simp[Act.eval,Act.put]
        try trace_state
       .rename_i kc kd;refine kd _ _ ?_
        go_wp2
        refine⟨?_,?_⟩
        .repeat apply Exists.intro
         refine⟨⟨i+1,rfl,by omega,trivial,bI (λe=>by simp_all)⟩,rfl⟩
        .show 29-(Go.RowKit.intOf (.int .i64 ((i+1:Nat):Int))).toNat<29-(Go.RowKit.intOf (.int .i64 (i:Int))).toNat;simp only[Go.RowKit.intOf,Kbi];omega
    .have jW:¬(i:Int)<29:=by omega
     go_wp2
     go_ret
     have XR:Nq s:=⟨r3,axm,hf1,awl,λk qM=>by obtain⟨j,hj,rfl⟩:=KaH qM;exact aS j hj (by have:iX.length=29:=(rfl);omega)⟩
     first|exact .inr ⟨rfl,cX,XR⟩|exact⟨_,rfl,cX,λ_=>XR,λ_=>rfl⟩|trace_state
def aga(s:ByteArray)(hs:s.size<2^40):AC 135 [PV.str s] (λr=>r= .bool (B8 s)):=by
 refine⟨by unfold qk;kernel_rfl,λw X aL hX hl ha=>?_⟩;have h0:=ha 0 (.str s) rfl;obtain⟨v,rfl⟩:∃v,aL= #[v]:=by
  obtain⟨l⟩:=aL
  match l,hl with
  | [v],_=>exact⟨v,rfl⟩
 have h1:Qn w X (.str s) v:=h0;cases h1;refine(Q60 s hs w).mono λe w' h=>?_
 obtain⟨b,rfl,h2,h3⟩:=h;exact⟨_,.bool b,rfl,h2,Qn.bool b,by rw[acN h3]⟩
variable{i n:Nat}
def QA(h:jG n=true):AC 340 [.int .u8 n] (· = .int .i64 2):=by
 simp only[jG,KbL,Kav,decide_eq_true_eq]at h;have d1:decide ((n:Int)=32)=false:=decide_eq_false Oz;have d2:decide ((n:Int)=9)=false:=decide_eq_false Oz;have d3:decide ((n:Int)=13)=false:=decide_eq_false Oz;have d4:decide ((n:Int)=10)=false:=decide_eq_false Oz;rcases h with h|h
 .have d5:decide ((97:Int)<=n)=false:=decide_eq_false Oz;have d6:decide ((65:Int)<=n)=true:=decide_eq_true Oz;have d7:decide ((n:Int)<=90)=true:=decide_eq_true Oz;refine aF Qd func340 J8 λC hP=>?_;refine Sz7 d1 d2 d3 d4 d5 d6 d7 ?_;exact Qb rfl rfl
 .have d5:decide ((97:Int)<=n)=true:=decide_eq_true Oz;have d6:decide ((n:Int)<=122)=true:=decide_eq_true Oz;refine aF Qd func340 J8 λC hP=>?_;refine Sz6 d1 d2 d3 d4 d5 d6 ?_;exact Qb rfl rfl
def aki(h:pA n=true):AC 340 [.int .u8 n] (· = .int .i64 3):=by simp only[pA,Kav,decide_eq_true_eq]at h;have d1:decide ((n:Int)=32)=false:=decide_eq_false Oz;have d2:decide ((n:Int)=9)=false:=decide_eq_false Oz;have d3:decide ((n:Int)=13)=false:=decide_eq_false Oz;have d4:decide ((n:Int)=10)=false:=decide_eq_false Oz;have d5:decide ((97:Int)<=n)=false:=decide_eq_false Oz;have d6:decide ((65:Int)<=n)=false:=decide_eq_false Oz;have d7:decide ((48:Int)<=n)=true:=decide_eq_true Oz;have d8:decide ((n:Int)<=57)=true:=decide_eq_true Oz;refine aF Qd func340 J8 λC hP=>?_;refine Sz8 d1 d2 d3 d4 d5 d6 d7 d8 ?_;exact Qb rfl rfl
def Tb{s:ByteArray}(h:Nq s):∀n,n<=s.size->jl s n=n
 |0,_=>rfl
 | n+1,hn=>by
  have e:=Tb h n Oz;have ha:=h.a n Oz;have hb:(s[n]'Oz).toNat<128:=by simp only[e]at ha;simp only[jG,pA,KbL,Kav,decide_eq_true_eq]at ha;omega
  rw[jl,e,if_pos Oz,decode_ascii s n Oz hb]
def aoA(h:Nq s)(hi:i<s.size):jG (s.get! i).toNat=true\/pA (s.get! i).toNat=true:=by
 have e:=Tb h i Oz;have:=h.a i Oz;simp only[e]at this
 rwa[show s.get! i=s[i]'hi from get_at s i hi]
def adI(h:Nq s):AC 341 [.str s,.int .i64 0,.bool true] (· = .int .i64 s.size):=by
 have hl:=h.l;refine aF Qd func341 aob λC hP=>?_;refine Sz0 ?_;refine Qh eO [(1,1),(7,29)] [] (λm J hp=>∃i:Nat,m=s.size-i/\i<=s.size/\J 1= .int .i64 (i:Nat)) s.size ?_ ?_
 .refine⟨0,rfl,Oz,?_⟩;refine Sz0 ?_;rfl
 rintro _ J hp ⟨i,rfl,hi,j1⟩;by_cases hc:i<s.size
 .have d1:decide ((i:Int)<s.size)=true:=decide_eq_true Oz;rcases aoA h hc with hb|hb
  .have hk:=QA hb;refine bE j1 d1 hP hk ?_;refine bE j1 d1 hP hk ?_;refine Sz2 j1 d1 ?_;refine Qe (s.size-(i+1)) Oz ⟨i+1,rfl,Oz,?_⟩;exact Tz0
  .have hk:=aki hb;refine bE j1 d1 hP hk ?_;refine Sz2 j1 d1 ?_;refine Qe (s.size-(i+1)) Oz ⟨i+1,rfl,Oz,?_⟩;exact Tz0
 .obtain rfl:i=s.size:=by omega
  have d1:decide ((s.size:Int)<s.size)=false:=decide_eq_false Oz;refine Sz2 j1 d1 ?_;exact Qb rfl rfl
def Q9c:AC 342 [] (· = .sl 1 (iX.map PV.str)):=by
 refine aF Qd func342 aoc λC hP=>?_;refine Sz0 ?_;rw[yK rfl (λp hp=>by
  have:∀p∈iX.map PV.str,p.cells.length=1:=λp hp=>by obtain⟨b,_,rfl⟩:=KaD.1 hp;rfl
  exact this p hp) Oz]
 refine Sz0 ?_;exact vj (e:=1) (ty:=9) (xs:=iX.map PV.str) (fz:=false) rfl rfl
variable{f:bB}
def akj{n:Int}(hf:iA f):AC 141 [PV.dJ f,.int .i64 n] (· = .int .i64 (lg f n)):=by
 have hr:=Ar hf.r Oz;have hz:=an6 hf.r;have jU:=hf.l;obtain⟨k,args,n0,a,d⟩:=f;simp only at hr hz jU;have hA:=aj9 (k:=k);refine aF Qd func141 anV λC hP=>?_;refine ay hP hA ?_;refine bD (λh0=>?_) (λh0=>?_)
 .refine Sz0 ?_;exact Qb (by simp[lg,h0]) rfl
 refine bD (λhl=>?_) (λhl=>?_)
 .refine Sz0 ?_;exact Qb (by simp[lg,h0,hl]) rfl
 replace hl:(args.length:Int)=m6 k:=by omega
 refine Sz0 ?_;refine Qh okB [(4,4),(7,7),(21,32)] [] (λm J hp=>∃i,m=args.length-i/\i<=args.length/\(∀j (h:j<args.length),j<i->0<=args[j]/\args[j]<n)/\J 21= .int .i64 (i:Nat)/\hp 2=some ⟨5,65,[PV.dJ ⟨k,args,n0,a,d⟩],false⟩) args.length ?_ ?_
 .refine⟨0,rfl,Oz,Oz,?_⟩;refine Sz0 ?_;rfl
 rintro _ J h ⟨i,rfl,hi,h1,gJ,hb2⟩;refine aZ gJ (λhg=>?_) (λhg=>?_)
 .have au:i<args.length:=Oz;have h2:(args[i]<0\/n<=args[i])->lg ⟨k,args,n0,a,d⟩ n=2:=λh=>UA (f:=⟨k,args,n0,a,d⟩) h0 hl au h
  have bI:0<=args[i]/\args[i]<n->∀j (h:j<args.length),j<i+1->0<=args[j]/\args[j]<n:=λh j hj fP=>by
   by_cases e:j=i
   .subst e;exact h
   .exact h1 j hj Oz
  generalize hx:args[i]=x at *
  refine Sz2 gJ hx ?_;refine Qo (λh3=>?_) (λh3=>?_)
  .refine Sz0 ?_;exact Qb (by rw[h2 (.inl h3)]) rfl
  refine bD (λh4=>?_) (λh4=>?_)
  .refine Sz0 ?_;exact Qb (by rw[h2 (.inr h4)]) rfl
  refine Sz1 gJ ?_;refine Qe (args.length-(i+1)) Oz ⟨i+1,rfl,Oz,bI ⟨by omega,Oz⟩,?_⟩;exact Tz1 hb2
 obtain rfl:i=args.length:=by omega
 have cX:=UB (f:=⟨k,args,n0,a,d⟩) (n:=n) h0 hl (λj hj=>h1 j hj hj);refine Sz1 hb2 ?_;by_cases h9:k=9
 .subst h9;refine gE hb2 hP hr ?_;cases hq:fL n0 a d
  .refine Sz1 hb2 ?_;exact Qb (by rw[cX];simp[hq]) rfl
  .refine Sz1 hb2 ?_;exact Qb (by rw[cX];simp[hq]) rfl
 .have d9:decide (k=9)=false:=decide_eq_false h9;have qy:decide (¬k=9)=true:=decide_eq_true h9;refine eL hb2 d9 qy hP hz ?_;cases hq:lN n0 a d
  .refine Sz1 hb2 ?_;exact Qb (by rw[cX];simp[hq,h9]) rfl
  .refine Sz1 hb2 ?_;exact Qb (by rw[cX];simp[hq,h9]) rfl
def QB(h:Nq s):AC 259 [.str s] (· = .bool true):=by
 have hl:=h.l;have hp:=h.p;have aS:s≠ .empty:=λe=>by rw[e]at hp;exact absurd hp (by decide)
 have d0:decide (s=⟨#[]⟩)=false:=decide_eq_false aS;have d1:decide ((20:Int)<s.size)=false:=decide_eq_false Oz;have d2:decide ((s.size:Int)<s.size)=false:=decide_eq_false Oz;have hb:jG (s.get! 0).toNat=true:=by rw[show s.get! 0=s[0]'hp from get_at s 0 hp];exact h.f hp
 have hk:=QA hb;have he:=adI h;have hw:=Q9c;refine aF Qd func259 aod λC hP=>?_;refine Sz2 d0 d1 ?_;refine⟨Kc6 _,Oz,?_⟩;refine bE d0 d1 hP hk ?_;refine bE d0 d1 hP he ?_;refine gE d2 hP hw ?_;have wc:(iX.map PV.str).length=iX.length:=by simp
 have N6:iX.length<1000:=by decide
 have EK:=h.k;generalize iX=kw at *
 refine Sz0 ?_;refine Qh okB [(2,2),(4,4),(27,34)] [] (λm J hp=>∃i:Nat,m=kw.length-i/\i<=kw.length/\J 27= .int .i64 (i:Nat)) kw.length ?_ ?_
 .refine⟨0,rfl,Oz,?_⟩;refine Sz0 ?_;rfl
 rintro _ J hp ⟨i,rfl,hi,j1⟩;refine aZ j1 (λhg=>?_) (λhg=>?_)
 .have au:i<kw.length:=Oz;have hx:=EK _ (Kad au);generalize hy:kw[i]=k at *
  have lz:(PV.str k).cells=[PV.str k]:=rfl;refine iq j1 hy lz (λhe=>?_) (λhe=>?_)
  .exact absurd he.symm hx
  refine Sz1 j1 ?_;refine Qe (kw.length-(i+1)) Oz ⟨i+1,rfl,Oz,?_⟩;exact Tz0
 exact cf
variable{a:List Nat}{cs:List PV}{f:Nat}{k:Int}{l:List Int}
def ahC(hf:∀x∈l,AC f [.int .i64 x,.pt cs] (· = .bool false))(hl:l.length<=2^36):
  AC 339 [PV.mono l,.fn f [] [.pt cs]] (· = .int .i64 (-1)):=by
 refine aF Qd func339 anK λC hP=>?_;refine Sz0 ?_;refine Qh okB [(4,5),(8,18)] [] (λm J hp=>∃i:Nat,m=l.length-i/\i<=l.length/\J 8= .int .i64 (i:Nat)) l.length ?_ ?_
 .refine⟨0,rfl,Oz,?_⟩;refine Sz0 ?_;rfl
 rintro _ J hp ⟨i,rfl,hi,j1⟩;refine aZ j1 (λhg=>?_) (λhg=>?_)
 .have au:i<l.length:=Oz;have uA:=hf _ (Kad au);generalize hx:l[i]=x at *
  refine bE j1 hx hP uA ?_;refine Sz1 j1 ?_;refine Qe (l.length-(i+1)) Oz ⟨i+1,rfl,Oz,?_⟩;exact Tz0
 exact cf
def ahD(hf:∀x∈l,AC f [.int .i64 x,.pt cs] (· = .bool false))(hl:l.length<=2^36):
  AC 256 [PV.mono l,.fn f [] [.pt cs]] (· = .bool false):=by
 refine aF Qd func256 anJ λC hP=>?_;refine ay hP (ahC hf hl) ?_;exact cf
def ahE{l:List bR}(hf:∀x∈l,AC f [PV.gK x,.pt cs] (· = .bool false))(hl:l.length<=2^36):
  AC 343 [.sl 6 (l.map PV.gK),.fn f [] [.pt cs]] (· = .int .i64 (-1)):=by
 refine aF Qd func343 anM λC hP=>?_;refine Sz0 ?_;refine Qh okB [(4,5),(8,18)] [] (λm J hp=>∃i:Nat,m=l.length-i/\i<=l.length/\J 8= .int .i64 (i:Nat)) l.length ?_ ?_
 .refine⟨0,rfl,Oz,?_⟩;refine Sz0 ?_;rfl
 rintro _ J hp ⟨i,rfl,hi,j1⟩;refine aZ j1 (λhg=>?_) (λhg=>?_)
 .have au:i<l.length:=Oz;have uA:=hf _ (Kad au);generalize hx:l[i]=x at *
  refine bE j1 hx hP uA ?_;refine Sz1 j1 ?_;refine Qe (l.length-(i+1)) Oz ⟨i+1,rfl,Oz,?_⟩;exact Tz0
 exact cf
def QC{l:List bR}(hf:∀x∈l,AC f [PV.gK x,.pt cs] (· = .bool false))(hl:l.length<=2^36):
  AC 260 [.sl 6 (l.map PV.gK),.fn f [] [.pt cs]] (· = .bool false):=by
 refine aF Qd func260 anL λC hP=>?_;refine ay hP (ahE hf hl) ?_;exact cf
def ah3{a i:Int}(h:0<=a/\a<i):AC 257 [.int .i64 a,.pt [.int .i64 i]] (· = .bool false):=by have d1:decide (a<0)=false:=decide_eq_false Oz;have d2:decide (i<=a)=false:=decide_eq_false Oz;refine aF Qd func257 anH λC hP=>?_;refine Sz2 d1 d2 ?_;exact Qb rfl rfl
def PC{s t:bR}(h:t.name≠s.name):AC 261 [PV.gK t,.pt (PV.gK s).cells] (· = .bool false):=by have d1:decide (t.name=s.name)=false:=decide_eq_false h;have e:(PV.gK s).cells=[.int .i64 s.k,.str s.name,PV.mono s.args,.bool s.n,PV.nat s.a,PV.nat s.d]:=rfl;rw[e];refine aF Qd func261 anI λC hP=>?_;refine Sz1 d1 ?_;exact Qb rfl rfl
def akk(h:0<=eG k):AC 255 [.int .i64 k] (· = .int .i64 (eG k)):=by
 rcases P' k with h|⟨h1,h2,h3,h4,h5,h6,h7,h8,h9,bp,cE,eX,dN,fD⟩
 .rcases h with rfl|rfl|rfl|rfl|rfl|rfl|rfl|rfl|rfl|rfl|rfl|rfl|rfl|rfl
  all_goals
   refine aF Qd func255 aoe λC hP=>?_;exact cf
 .have e:eG k= -1:=by simp[eG,h1,h2,h3,h4,h5,h6,h7,h8,h9,bp,cE,eX,dN,fD]
  rw[e]at h;omega
def aoB{n:Bool}{d:List Nat}{k:Nat}(hp:Raw k n a d)(hz:lN n a d=true):AC 258 [PV.rr n a d] (· = .bool true):=by have h:=hz;simp only[lN,Kav,Bool.not_eq_true',decide_eq_true_eq,KaE]at h;obtain⟨rfl,rfl,rfl⟩:=h;refine aF Qd func258 anF λC hP=>?_;exact cf
def akl{S:List bR}(hS:S.length<2^36)(hb:∀s∈S,lX s)(hi:i<S.length)(hg:HY S i S[i]):AC 140 [.sl 6 (S.map PV.gK),.int .i64 (i:Nat)] (· = .int .i64 0):=by
 have qF:=hb _ (Kad hi);obtain⟨s,hs⟩:∃s,S[i]=s:=⟨_,rfl⟩
 rw[hs]at qF hg;have aT:=hg.ok;have hA:=akk aT.k;have hk0:=aT.k;have hl:=aT.l;have jU:s.args.length<=4:=by
  have:=aT.l;unfold eG at this
  repeat' split at this
  all_goals omega
 have oF:AC 256 [PV.mono s.args,.fn 257 [] [.pt [.int .i64 (i:Nat)]]] (· = .bool false):=ahD (λa ha=>ah3 (aT.r a ha)) Oz;have d0:decide (eG s.k<0)=false:=decide_eq_false Oz;have d1:decide (¬(s.args.length:Int)=eG s.k)=false:=decide_eq_false Oz;refine aF Qd func140 anG λC hP=>?_;refine gE hs hP hA ?_;refine Sz2 d0 d1 ?_;refine ko hP oF ba rfl ?_;refine de ?_;by_cases h2:s.k=2
 .have d2:decide (s.k=2)=true:=decide_eq_true h2;have qx:decide (¬s.k=2)=false:=by simp[h2]
  have hr:=Ar qF.r Oz;have hq:=aT.q;rw[if_pos h2]at hq;rw[hq]at hr;refine mu d2 qx ?_;refine Qy hP hr ?_;refine mu d2 qx ?_;by_cases hn:s.name= .empty
  .have d3:decide (s.name=⟨#[]⟩)=true:=decide_eq_true hn;refine mu d3 d2 ?_;exact Qb rfl rfl
  have d3:decide (s.name=⟨#[]⟩)=false:=decide_eq_false hn;have hN:=hg.n.resolve_left hn;have fQ:=QB hN.1;refine mu d3 d2 ?_;refine Qy hP fQ ?_;refine jQ d2 ?_;have ik:AC 260 [.sl 6 ((S.take i).map PV.gK),.fn 261 [] [.pt (PV.gK s).cells]] (· = .bool false):=
   QC (λt ht=>by obtain⟨j,hj,rfl⟩:=KaH ht;have tl:=hj;rw[Kay]at tl;rw[Kca];exact PC (hN.2 j Oz Oz)) (by rw[Kay];omega)
  refine ko hP ik (W4 d2) rfl ?_;refine jQ d2 ?_;exact Qb rfl rfl
 .have d2:decide (s.k=2)=false:=decide_eq_false h2;have qx:decide (¬s.k=2)=true:=by simp[h2]
  have hq:=aT.q;rw[if_neg h2]at hq;have hz:=aoB qF.r hq;refine mu d2 qx ?_;refine Qy hP hz ?_;refine mu d2 qx ?_;by_cases hn:s.name= .empty
  .have d3:decide (s.name=⟨#[]⟩)=true:=decide_eq_true hn;refine mu d3 d2 ?_;exact Qb rfl rfl
  have d3:decide (s.name=⟨#[]⟩)=false:=decide_eq_false hn;have hN:=hg.n.resolve_left hn;have fQ:=QB hN.1;refine mu d3 d2 ?_;refine Qy hP fQ ?_;refine jQ d2 ?_;have ik:AC 260 [.sl 6 ((S.take i).map PV.gK),.fn 261 [] [.pt (PV.gK s).cells]] (· = .bool false):=
   QC (λt ht=>by obtain⟨j,hj,rfl⟩:=KaH ht;have tl:=hj;rw[Kay]at tl;rw[Kca];exact PC (hN.2 j Oz Oz)) (by rw[Kay];omega)
  refine ko hP ik (W4 d2) rfl ?_;refine jQ d2 ?_;exact Qb rfl rfl
def akm{S:List bR}{G:List bB}(hb:∀s∈S,lX s)(hgb:∀g∈G,iA g)(hg:HH S G):AC 75 [PV.cn S G] (· = .int .i64 0):=by
 have hS:=hg.ok.l;have hG:=hg.gl;have d1:decide ((40:Int)<S.length)=false:=decide_eq_false Oz;have d2:decide ((8:Int)<G.length)=false:=decide_eq_false Oz;refine aF Qd func75 acQ λC hP=>?_;refine Sz2 d1 d2 ?_;refine Qh okB [(2,4),(21,31)] [] (λm J hp=>∃i:Nat,m=S.length-i/\i<=S.length/\J 21= .int .i64 (i:Nat)/\hp 1=some ⟨2,25,[PV.cn S G],false⟩) S.length ?_ ?_
 .refine⟨0,rfl,Oz,?_⟩;refine Sz0 ?_;rfl
 rintro _ J hp ⟨i,rfl,hi,j1,hb1⟩;refine aZ j1 (λiT=>?_) (λiT=>?_)
 .have au:i<S.length:=Oz;have hc:=akl Oz hb au (hg.s i au);refine bE j1 hb1 hP hc ?_;refine Sz2 j1 hb1 ?_;refine Qe (S.length-(i+1)) Oz ⟨i+1,rfl,Oz,?_⟩;exact Tz1 hb1
 refine Sz1 hb1 ?_;refine Qh okB [(2,2),(6,7),(35,47)] [6] (λm J hp=>∃i:Nat,m=G.length-i/\i<=G.length/\J 35= .int .i64 (i:Nat)/\hp 1=some ⟨2,25,[PV.cn S G],false⟩) G.length ?_ ?_
 .refine⟨0,rfl,Oz,?_⟩;refine Sz1 hb1 ?_;rfl
 rintro _ J hp ⟨i,rfl,hi,j1,hb1⟩;refine aZ j1 (λiT=>?_) (λiT=>?_)
 .have au:i<G.length:=Oz;have hm:=Kad au;have hc:=akj (n:=(S.length:Nat)) (hgb _ hm);rw[hg.ok.g _ hm]at hc;generalize hx:G[i]=x at *
  refine eL j1 hb1 hx hP hc ?_;refine Sz2 j1 hb1 ?_;refine Qe (G.length-(i+1)) Oz ⟨i+1,rfl,Oz,?_⟩;exact Tz1 hb1
 exact cf
variable{a:Cd}
def DP{c:Cd}:AC 146 [PV.bj c] (· =PV.bj c):=by refine aF Qd func146 anO λC hP=>?_;refine Sz0 ?_;refine cx ?_;exact Qb rfl rfl
def Gw{b r:Cd}(h1:AC f [PV.aC a.1,PV.aC b.1] (· =PV.aC r.1))(h2:AC f [PV.aC a.2,PV.aC b.2] (· =PV.aC r.2)):
  AC 145 [PV.bj a,PV.bj b,.fn f [] []] (· =PV.bj r):=by
 refine aF Qd func145 anN λC hP=>?_;refine Sz0 ?_
 repeat' first
  |refine fU ?_ ?_
  |refine Qy hP h1 ?_
  |refine Qy hP h2 ?_
  |simp+decide (disch:=try exact D0) only[go_sem]
 all_goals
  refine cx ?_;exact Qb rfl rfl
def L1{b:Cd}(ha:CB a)(hb:CB b):AC 144 [PV.bj a,PV.bj b] (· =PV.bj (bX b.1 a.1,bX b.2 a.2)):=by
 have hc:=Gw (a:=b) (b:=a) (r:=(bX b.1 a.1,bX b.2 a.2)) (DD hb.x ha.x Oz Oz Oz) (DD hb.y ha.y Oz Oz Oz);have v3:=DP (c:=a);have aE:=DP (c:=b);refine aF Qd func144 aop λC hP=>?_;refine Sz0 ?_
 repeat' first
  |refine fU ?_ ?_
  |refine Qy hP hc ?_
  |refine Qy hP v3 ?_
  |refine Qy hP aE ?_
  |simp+decide (disch:=try exact D0) only[go_sem]
 all_goals
  refine cx ?_;exact Qb rfl rfl
variable{cs:List Cd}{m s:Int}{vs:List Vr}
abbrev rL(f:Nat)(args:List PV)(cs:List Cd)(vs:List Vr)(k:Int)(cs':List Cd)(eP:List Vr)(k':Int)(q:PV):Prop:=
 Ta Tryz.prog f args 120 cs.length vs.length k (te cs) (tf vs) cs'.length eP.length k' (te cs') (tf eP) q
def As{fr:Int}(hv:vs.length<64):rL 149 [.int .i64 k,.int .i64 s,.int .i64 m] cs vs fr cs (vs++[(k,s,m)]) fr (PV.aC (bJ vs.length)):=by have OE:=afz (v:=vs.length) Oz Oz;refine jd Qd func149 rfl (rh aox) Nz λC hP=>?_;simp only[Xd];refine cC ?_;refine Sz0 ?_;rw[wK (f:=PV.fvar) (y:=(k,s,m)) (xs:=vs) (ty':=253) (fz:=false) Tz0 Tz0 Oz rfl Oz Oz Oz];have wx:((vs.length+1:Nat):Int)-1=(vs.length:Nat):=Oz;refine gE wx hP OE ?_;refine Sz0 ?_;exact MR ⟨by simp+decide (disch:=try exact D0) only[go_sem],by simp+decide (disch:=try exact D0) only[go_sem]<;>simp,by simp+decide (disch:=try exact D0) only[go_sem],by simp+decide (disch:=try exact D0) only[go_sem],by simp+decide (disch:=try exact D0) only[go_sem]⟩
def Vk(hv:vs.length<63)(hm:0<=m/\m<1000):rL 152 [.int .i64 s,.int .i64 m] cs vs k cs (vs++[(2,s,m),(2,s,m+1)]) k (PV.bj (bJ vs.length,bJ (vs.length+1:Nat))):=by
 have h1:=As (cs:=cs) (vs:=vs) (k:=2) (s:=s) (m:=m) (fr:=k) Oz;have h2:=As (cs:=cs) (vs:=vs++[(2,s,m)]) (k:=2) (s:=s) (m:=m+1) (fr:=k) (by simp;omega);have e1:(vs++[(2,s,m)]).length=vs.length+1:=by simp
 have e2:vs++[(2,s,m)]++[(2,s,m+1)]=vs++[(2,s,m),(2,s,m+1)]:=by simp
 have e3:(vs++[(2,s,m),(2,s,m+1)]).length=vs.length+1+1:=by simp
 rw[rL,e2,e1,e3]at h2;rw[rL,e1]at h1;rw[rL,e3];refine jd Qd func152 rfl (rh aoy) Nz λC hP=>?_;simp only[Xe];refine cC ?_;refine Sz0 ?_;refine sE hP h1 (.inl rfl) Tz0 Tz0 Tz0 Tz0 rfl rfl (by simp[eE]) (by simp) ⟨⟨rfl,rfl⟩,λ_=>rfl⟩ ?_;refine Sz0 ?_;refine sE hP h2 (.inl rfl) Tz0 Tz0 Tz0 Tz0 rfl rfl (by simp[eE]) (by simp) ⟨⟨rfl,rfl⟩,λ_=>rfl⟩ ?_;refine Sz0 ?_;exact ob (D:=PV.bj (bJ vs.length,bJ (vs.length+1:Nat))) Qw rfl ⟨rfl,by simp+decide (disch:=try exact D0) only[go_sem],by simp+decide (disch:=try exact D0) only[go_sem],by simp+decide (disch:=try exact D0) only[go_sem],by simp+decide (disch:=try exact D0) only[go_sem]⟩
def akn{b:Nat}(hv:vs.length<62)(hb:b<1000):rL 147 [.int .i64 s] cs vs (b:Nat) cs (vs++mS s b) ((b+1:Nat):Int) (PV.bj (mT vs.length b)):=by
 have h1:=As (cs:=cs) (vs:=vs) (k:=1) (s:=s) (m:=0) (fr:=((b+1:Nat):Int)) Oz;have h2:=As (cs:=cs) (vs:=vs++[(1,s,0)]) (k:=1) (s:=s) (m:=1) (fr:=((b+1:Nat):Int)) (by simp;omega);have e1:(vs++[(1,s,0)]).length=vs.length+1:=by simp
 have e2:vs++[(1,s,0)]++[(1,s,1)]=vs++[(1,s,0),(1,s,1)]:=by simp
 have e3:(vs++[(1,s,0),(1,s,1)]).length=vs.length+1+1:=by simp
 rw[rL,e2,e1,e3]at h2;rw[rL,e1]at h1;rcases(by omega:b=0\/b=1\/2<=b)with rfl|rfl|hb2
 .rw[show vs++mS s 0=vs by simp[mS],show mT vs.length 0=([],[])from rfl];refine jd Qd func147 rfl (rh Ka) Nz λC hP=>?_;simp only[Ig];refine cC ?_;refine Sz0 ?_;exact WV (D:=PV.bj ([],[])) (D':=.agg [.aa,.aa]) Qw rfl ⟨trivial,trivial,trivial⟩ ⟨rfl,by simp+decide (disch:=try exact D0) only[go_sem],by simp+decide (disch:=try exact D0) only[go_sem],by simp+decide (disch:=try exact D0) only[go_sem],by simp+decide (disch:=try exact D0) only[go_sem]⟩
 .rw[show mS s 1=[(1,s,0)]from rfl,show mT vs.length 1=(bJ vs.length,[])from rfl,rL,e1];refine jd Qd func147 rfl (rh Ka) Nz λC hP=>?_;simp only[Ig];refine cC ?_;refine Sz0 ?_;refine sE hP h1 (.inl rfl) Tz0 Tz0 Tz0 Tz0 rfl rfl (by simp[eE]) (by simp) ⟨⟨rfl,rfl⟩,λ_=>rfl⟩ ?_;refine Sz0 ?_;exact WV (D:=PV.bj (bJ vs.length,[])) (D':=.agg [PV.aC (bJ vs.length),.aa]) Qw rfl ⟨tP _,trivial,trivial⟩ ⟨rfl,by simp+decide (disch:=try exact D0) only[go_sem],by simp+decide (disch:=try exact D0) only[go_sem],by simp+decide (disch:=try exact D0) only[go_sem],by simp+decide (disch:=try exact D0) only[go_sem]⟩
 .rw[show mS s b=[(1,s,0),(1,s,1)]by unfold mS;rw[if_neg Oz,if_neg Oz],show mT vs.length b=(bJ vs.length,bJ (vs.length+1:Nat))by unfold mT;rw[if_neg Oz,if_neg Oz],rL,e3];have d1:decide (((b+1:Nat):Int)=1)=false:=decide_eq_false Oz;have d2:decide (((b+1:Nat):Int)=2)=false:=decide_eq_false Oz;refine jd Qd func147 rfl (rh Ka) Nz λC hP=>?_;simp only[Ig];refine cC ?_;refine Sz1 d1 ?_;refine sE hP h1 (.inl rfl) Tz0 Tz0 Tz0 Tz0 rfl rfl (by simp[eE]) (by simp) ⟨⟨rfl,rfl⟩,λ_=>rfl⟩ ?_;refine Sz1 d2 ?_;refine sE hP h2 (.inl rfl) Tz0 Tz0 Tz0 Tz0 rfl rfl (by simp[eE]) (by simp) ⟨⟨rfl,rfl⟩,λ_=>rfl⟩ ?_;refine Sz0 ?_;exact ob (D:=PV.bj (bJ vs.length,bJ (vs.length+1:Nat))) Qw rfl ⟨rfl,by simp+decide (disch:=try exact D0) only[go_sem],by simp+decide (disch:=try exact D0) only[go_sem],by simp+decide (disch:=try exact D0) only[go_sem],by simp+decide (disch:=try exact D0) only[go_sem]⟩
end Go.Proofs.YtikalonaompbdaaGreat
namespace Go.FW
open Go
variable {C : Ctx} {fr : Fr} {hp : HP} {w : World} {K R : Qf}
def adJ(nm:Nat->Bool):Wk fr hp (ep nm fr) (λO=>if nm O=true then none else hp O):=by
 rintro C tmps w ⟨ρ,hs⟩;obtain⟨hp',lC⟩:∃f:HP,f=λO=>if nm O=true then none else hp O:=⟨_,rfl⟩
 rw[<-lC];have pn:∀γ,nm γ=true->hp' γ=none:=λγ h=>by rw[lC];simp[h]
 have po:∀γ,nm γ=false->hp' γ=hp γ:=λγ h=>by rw[lC];simp[h]
 have hX:∀c,aM C ρ hp' c->aM C ρ hp c:=by
  rintro c (hx|⟨γ,hb,g1,g2,g3⟩)
  .exact .inl hx
  .cases hq:nm γ with
   |true=>rw[pn γ hq]at g1;cases g1
   |false=>rw[po γ hq]at g1;exact .inr ⟨γ,hb,g1,g2,g3⟩
 have a9:nK w w (aM C ρ hp) (aM C ρ hp'):=⟨λ_ _ _=>rfl,λc _ hn h=>hn (hX c h),Kag _⟩
 have c1:∀γ,nm γ=false->pW ρ ρ hp hp' w w γ:=λγ ak=>⟨rfl,λhb hq=>⟨hb,by rw[po γ ak];exact hq,rfl,Kag _,λ_ _ _ h=>h,λh=>⟨h,rfl,λ_ _=>rfl⟩⟩⟩
 refine⟨ρ,hs.sz,hs.ext,hs.fG,λγ hb1 ak=>?_,λγ δ c g1 g2 g3 g4=>?_,λi=>?_⟩
 .cases hq:nm γ with
  |true=>rw[pn γ hq]at ak;cases ak
  | false=>
   rw[po γ hq]at ak;have h:=hs.own γ _ ak;refine⟨h.mA,h.len,?_,h.fix,h.ro⟩;have bu:=h.du;cases hr:ρ γ with
   |none=>rw[hr]at bu;exact bu
   |some b=>rw[hr]at bu;obtain⟨b1,b2,cur,cap,k1,k2,k3,k4,k5⟩:=bu;exact⟨b1,b2,cur,cap,k1,k2,k3,k4,λi x hx j y hy=>Qn.sub (k5 i x hx j y hy) hX⟩
 .cases hq:nm γ with
  |true=>exact absurd (pn γ hq) g1
  |false=>
   cases pL:nm δ with
   |true=>exact absurd (pn δ pL) g2
   |false=>exact hs.inj γ δ c (by rw[<-po γ hq];exact g1) (by rw[<-po δ pL];exact g2) g3 g4
 .show Qj C ρ hp' w (lk nm (fr i)) _;unfold lk;split
  .trivial
  .rename_i hn;have uG:∀O∈(fr i).refs++(fr i).aO,nm O=false:=λO ao=>by
    cases hq:nm O with
    |false=>rfl
    |true=>exact absurd (KaJ.2 ⟨O,ao,hq⟩) hn
   exact Qj.sg (hs.cQ i) a9 (λO ao=>(c1 O (uG O (KbF _ ao))).o) (λO ao=>c1 O (uG O (Kbd _ ao)))
end Go.FW
namespace Go.FW
open Go
variable {fr : Fr} {hp : HP}
variable{B:List Nat}{K:Qf}{O d e γ:Nat}{W:List (Nat×Nat)}{k:IntKind}{nm:Nat->Bool}{p x x0 x1 x2 x3 x4:PV}{xs:List PV}
def DQ{J F:Fr}:ep nm (aY W J F)=aY W (ep nm J) (ep nm F):=by funext s;unfold ep aY;split<;>rfl
def DR(h:∀x,nm x=true->2000000<=x){F:Fr}:ep nm (cO B F)=cO B F:=by
 funext s;obtain⟨h1,h2,_,_⟩:=wU B F s;show lk nm (cO B F s)=cO B F s;unfold lk;rw[if_neg];intro hn;obtain⟨x,hx,jF⟩:=KaJ.1 hn;have:=h x jF;rcases KaN.1 hx with hx|hx
 .have:=h1 x hx;simp[kU]at this;omega
 .have:=h2 x hx;simp[mH,kU]at this;omega
def ako(ak:2000000<=γ)(h:uZ p):eS γ p=p:=by
 obtain⟨h1,h2,h3,h4⟩:=h;have k1:∀O∈p.refs,O≠γ:=λO ao e=>by have:=h1 O ao;subst e;simp[kU]at this;omega
 have k2:∀O∈p.aO,O≠γ:=λO ao e=>by have:=h2 O ao;subst e;simp[mH,kU]at this;omega
 cases p with
 |aD O o n=>first|(simp[eS,gw,k1 O (by simp[PV.refs,PV.cm])];done)|(simp[eS,gw,k2 O (by simp[PV.aO,PV.dM])];done)
 |mp O i o=>simp[eS,gw,k1 O (by simp[PV.refs,PV.cm])]
 |rb O o n=>first|(simp[eS,gw,k1 O (by simp[PV.refs,PV.cm])];done)|simp[eS,gw,k2 O (by simp[PV.aO,PV.dM])]
 |fn f a b=>simp only[eS,ct];rw[if_neg];intro hn;exact k1 γ (by simpa using hn) rfl
 |aH bo e ty xs=>exact absurd rfl (h3 bo e ty xs)
 |aU cs=>exact absurd rfl (h4 cs).1
 |fH cs=>exact absurd rfl (h4 cs).2.1
 |dQ cs q=>exact absurd rfl ((h4 cs).2.2 q)
 |_=>rfl
def aoC{J F:Fr}(hW:n6 W γ=true)(ak:2000000<=γ):Ah γ x (aY W J (cO B F))=aY W (Ah γ x J) (cO B F):=by
 funext s;show(if s=γ then x else eS γ (if n6 W s then J s else cO B F s))=if n6 W s then(if s=γ then x else eS γ (J s))else cO B F s
 by_cases e:s=γ
 .subst e;rw[if_pos rfl,if_pos hW,if_pos rfl]
 .rw[if_neg e,if_neg e];split
  .rfl
  .exact ako ak (wU B F s)
def Ng(nm:Nat->Bool)(hp:HP):HP:=λO=>if nm O=true then none else hp O
def aoD:Ng nm hp O=if nm O=true then none else hp O:=rfl
def one(γ:Nat):Nat->Bool:=λx=>decide (x=γ)
def arB{x:Nat}:one γ x=decide (x=γ):=rfl
def aoE(γ:Nat):Wk fr hp (ep (one γ) fr) (Ng (one γ) hp):=adJ (one γ)
def aeQ(h:2000000<=γ){J F:Fr}:ep (one γ) (aY W J (cO B F))=aY W (ep (one γ) J) (cO B F):=by rw[DQ,DR];intro x hx;have:x=γ:=of_decide_eq_true hx;omega
def akp:ej e (.sl e (x0::x1::x2::xs)) (.int k 2) d fr hp K=K (ae fr d (.pt x2.cells)) hp:=by simp[ej]
def akq:ej e (.sl e (x0::x1::x2::x3::xs)) (.int k 3) d fr hp K=K (ae fr d (.pt x3.cells)) hp:=by simp[ej]
def akr:ej e (.sl e (x0::x1::x2::x3::x4::xs)) (.int k 4) d fr hp K=K (ae fr d (.pt x4.cells)) hp:=by simp[ej]
def aks{x5:PV}:ej e (.sl e (x0::x1::x2::x3::x4::x5::xs)) (.int k 5) d fr hp K=K (ae fr d (.pt x5.cells)) hp:=by simp[ej]
def akt{x5 x6:PV}:ej e (.sl e (x0::x1::x2::x3::x4::x5::x6::xs)) (.int k 6) d fr hp K=K (ae fr d (.pt x6.cells)) hp:=by simp[ej]
def ajX{x5 x6 x7:PV}:ej e (.sl e (x0::x1::x2::x3::x4::x5::x6::x7::xs)) (.int k 7) d fr hp K=K (ae fr d (.pt x7.cells)) hp:=by simp[ej]
attribute [go_sem] aoD arB akp akq akr aks akt ajX
end Go.FW
