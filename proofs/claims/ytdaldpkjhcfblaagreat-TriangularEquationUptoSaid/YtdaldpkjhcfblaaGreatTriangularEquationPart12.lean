/- Part 12 of the proof of TriangularEquation: W9, AR, L0, W10, FwUI, FwUJ. Own lemmas; no conditions. -/
import Derived.Test.YtdaldpkjhcfblaaGreatTriangularEquationPart11
import Derived.Test.YtdaldpkjhcfblaaGreatRows
import Derived.WalkKit
import Derived.ProofKit
import Derived.OpenShut
import Derived.JoinedCond
set_option maxHeartbeats 1000000
set_option linter.unusedSimpArgs false
set_option linter.unusedVariables false
set_option linter.unnecessarySimpa false
set_option maxRecDepth 100000
namespace Go.Proofs.YtdaldpkjhcfblaaGreat
open Go Go.FW
theorem Qafr(v:Nat):varM v=Qbl v 1:=rfl
theorem Qs3{v:Nat}(hv:v<64):Qd Tryz.prog 26 [.int .i64 v] (· =PV.poly (Qtl v)):=by
 have hset:(List.replicate (v+1) (0:Int)).set v 1=Qbl v 1:=Qtt v 1 rfl;have hlr:v<(List.replicate (v+1) (0:Int)).length:=by simp
 have hone:=Qnc;have hxl:(Qbl v 1).length=v+1:=by simp[Qbl]
 have hadd:=(Qnm (p:=[]) (m:=Qbl v 1) (K:=1) (E:=1) (k:=4) (PB.nil _ _) trivial (by simp[NZ]) (Qc7 (q:=((1:Int):Rat)) (k:=4) (by rw[show((1:Int):Rat)=1 from rfl];omega)) (by omega) (Qw8 hv) (Qm3 (by omega)) (by omega) (by omega) (by simp)).le (args':=[.nilS,PV.rat ((1:Int):Rat),PV.mono (Qbl v 1)]) ⟨trivial,Q2 _,Q2 _,trivial⟩;rw[Qdo]at hadd;have e:Qed [] ((1:Int):Rat) (Qbl v 1)=Qtl v:=by rw[Qed,Qez,if_neg (by decide),Qtl,if_neg (by omega),Int.toNat_natCast,Qafr];rfl
 rw[e]at hadd;refine Qf Qj Tryz.func26 rfl Qaow (by simp[c26]) fun C hP=>?_;simp only[c26];refine Sz0 ?_;refine Qab (fun h=>by omega) (fun _=>?_);refine Sz0 ?_;refine Qb (fun h=>by omega) (fun _=>?_);refine Sz1 hset ?_;refine Qa hP (Qi7 (x:=1) (by omega) (by omega)) rfl rfl rfl ?_;generalize((1:Int):Rat)=c at *
 refine Sz0 ?_;refine Qcb hP hadd (by simp+decide (disch:=first|omega|rfl|(simp+decide only[go_sem,↓reduceIte,Qa6,List.contains_cons,List.contains_nil,List.flatMap_cons,List.flatMap_nil,List.append_nil]<;>rfl)|fail) only[go_sem,↓reduceIte,Qa6,List.contains_cons,List.contains_nil,List.flatMap_cons,List.flatMap_nil,List.append_nil];simp[List.take_of_length_le,hxl]) rfl ?_;refine Sz0 ?_;exact Qc rfl rfl
open Go Go.FW Go.ChangeShapes Go.WideShapes Go.ChangeAt Go.RowKit
theorem Qyp{H:Type}{d:DataW H}{l:List (DataW H)}(h:d∈l):Rows.uptoBulk d<=Rows.uptoBulkAll l:=by
 induction l with
 |nil=>cases h
 |cons x r ih=>
  simp only[Rows.uptoBulkAll];cases List.mem_cons.1 h with
  |inl e=>subst e;omega
  |inr e=>have:=ih e;omega
theorem Qafs{H:Type}(d:DataW H):1<=Rows.uptoBulk d:=by
 cases d with
 |lit l=>cases l<;>simp[Rows.uptoBulk]
 |nil=>simp[Rows.uptoBulk]
 |ptr d=>simp[Rows.uptoBulk]
 |slice elems spare=>simp[Rows.uptoBulk]
 |agg parts=>simp[Rows.uptoBulk]
 |iface t d=>simp[Rows.uptoBulk]
 |map entries=>simp[Rows.uptoBulk]
 |held h=>simp[Rows.uptoBulk]
theorem Q29{H:Type}(l:List (DataW H)):l.length<=Rows.uptoBulkAll l:=by
 induction l with
 |nil=>simp[Rows.uptoBulkAll]
 |cons x r ih=>have:=Qafs x;simp only[Rows.uptoBulkAll,List.length_cons];omega
theorem Qcy{H:Type}:Bulk (H:=H) Rows.uptoBulk:=by
 refine⟨fun elems spare=>?_,fun elems spare d hd=>?_,fun parts d hd=>?_⟩
 ·have:=Q29 elems;simp only[Rows.uptoBulk];omega
 ·have:=Qyp hd;simp only[Rows.uptoBulk];omega
 ·have:=Qyp hd;simp only[Rows.uptoBulk];omega
theorem Qaft{H:Type}{l:List (DataW H)}(hk:Rows.uptoSmall H l=true):Rows.uptoBulkAll l<=1048576:=of_decide_eq_true hk
theorem own:ownKnob Tryz.prog.godebug=none:=by kernel_rfl
theorem laid:laidOutB Tryz.prog=true:=by kernel_rfl
theorem Qapu:mapsRowed Tryz.prog=true:=by kernel_rfl
def Qaag(P:Program):Bool:=(List.range P.types.size).all fun t=>match P.underlying t with|some (.slice e)=>decide (0<P.cellsOf e)|_=>true
theorem Qarx:Qaag Tryz.prog=true:=by kernel_rfl
theorem Qapv{t e:TypeId}(ht:t<Tryz.prog.types.size)(he:Tryz.prog.underlying t=some (.slice e)):0<Tryz.prog.cellsOf e:=by have h:=Qarx;simp only[Qaag,List.all_eq_true]at h;have:=h t (List.mem_range.2 ht);rw[he]at this;exact of_decide_eq_true this
variable {H : Type} {enc : TypeId × Value -> H}
abbrev Rd(enc:TypeId×Value->H):=Qgd enc Tryz.prog Rows.uptoBulk 1048576
theorem Qyq:Tryz.prog.cellsOf 115=1:=by kernel_rfl
theorem Qqp:Tryz.prog.cellsOf 3=1:=by kernel_rfl
theorem Qvv:Tryz.prog.cellsOf 54=4:=by kernel_rfl
theorem Qaah:Rd enc 47 fun ps=>∃l:List Nat,ps=[PV.nat l]/\l.length<=1048576/\Ql l:=by refine(Qj1 (α:=Nat) (f:=fun(x:Nat)=>.int .u16 x) (G:=fun x=>x<65536) Qcy Tryz.underlying47 (by rw[Qyq];omega) (Q88 Tryz.underlying115)).mono ?_;rintro ps ⟨l,rfl,h1,h2⟩;exact⟨l,by rw[Qyq],h1,h2⟩
theorem Qaks:Rd enc 52 fun ps=>∃l:List Int,ps=[PV.mono l]/\l.length<=1048576/\∀x∈l,-9223372036854775808<=x/\x<=9223372036854775807:=by refine(Qj1 (α:=Int) (f:=fun(x:Int)=>.int .i64 x) Qcy Tryz.underlying52 (by rw[Qqp];omega) (Q89 Tryz.underlying3)).mono ?_;rintro ps ⟨l,rfl,h1,h2⟩;exact⟨l,by rw[Qqp],h1,h2⟩
theorem Qapw:Rd enc 49 fun ps=>∃(n:Bool)(a:List Nat),ps=[.bool n,PV.nat a]/\a.length<=1048576/\Ql a:=by refine(Qky Qcy Tryz.underlying49 rfl (by kernel_rfl) (by kernel_rfl) (Q51 Tryz.underlying4) Qaah).mono ?_;rintro ps ⟨p,q,rfl,⟨n,rfl⟩,a,rfl,h⟩;exact⟨n,a,rfl,h⟩
theorem Qapx:Rd enc 51 fun ps=>∃(n:Bool)(a d:List Nat),ps=[.bool n,PV.nat a,PV.nat d]/\Raw 1048576 n a d:=by refine(Qky Qcy Tryz.underlying51 rfl (by kernel_rfl) (by kernel_rfl) Qapw Qaah).mono ?_;rintro ps ⟨p,q,rfl,⟨n,a,rfl,h1,h2⟩,d,rfl,h3,h4⟩;exact⟨n,a,d,rfl,h2,h4,h1,h3,by omega⟩
instance : Inhabited RTm := ⟨⟨false, [], [], []⟩⟩
def Qzn(l:List RTm):Prop:=l.length<=1048576/\∀t∈l,RB 1048576 t/\∀x∈t.m,-9223372036854775808<=x/\x<=9223372036854775807
theorem Qakt:Rd enc 54 fun ps=>∃t:RTm,ps=(PV.rterm t).cells/\(RB 1048576 t/\∀x∈t.m,-9223372036854775808<=x/\x<=9223372036854775807):=by refine(Qky Qcy Tryz.underlying54 rfl (by kernel_rfl) (by kernel_rfl) Qapx Qaks).mono ?_;rintro ps ⟨p,q,rfl,⟨n,a,d,rfl,h⟩,m,rfl,h3,h4⟩;exact⟨⟨n,a,d,m⟩,rfl,⟨⟨h.la,h.ld,h.sa,h.sd⟩,by show m.length<2^40;omega⟩,h4⟩
theorem Q4j:Rd enc 23 fun ps=>∃l:List RTm,ps=[PV.rpoly l]/\Qzn l:=by refine(Qj1 (f:=PV.rterm) Qcy Tryz.underlying23 (by rw[Qvv];omega) Qakt).mono ?_;rintro ps ⟨l,rfl,h1,h2⟩;exact⟨l,by rw[Qvv],h1,h2⟩
def Qaai(ls:List (List RTm)):Prop:=ls.length<=1048576/\∀l∈ls,Qzn l
theorem Qvw:Tryz.prog.cellsOf 23=1:=by kernel_rfl
theorem Qafu:Rd enc 24 fun ps=>∃ls:List (List RTm),ps=[.sl 1 (ls.map PV.rpoly)]/\Qaai ls:=by refine(Qj1 (α:=List RTm) (f:=PV.rpoly) (G:=Qzn) Qcy Tryz.underlying24 (by rw[Qvw];omega) Q4j).mono ?_;rintro ps ⟨l,rfl,h1,h2⟩;exact⟨l,by rw[Qvw],h1,h2⟩
variable {w : World} {base : Nat} {spare : Nat -> Bool} {held : Bool} {r : Reach} {b0 : Nat} {v : Value} {d : DataW H} {ps : List MemPlace}
theorem Qafv(Qdy:Value.okWide Tryz.prog w r b0 23 v)(hd:DataW.Trod enc Tryz.prog w base spare held 23 v d ps)(hn:Rows.uptoBulk d<=1048576):∃l,Qai w Qaw (PV.rpoly l) v/\Qzn l:=by
 obtain⟨p,⟨l,e,h⟩,h2⟩:=Qyd Tryz.underlying23 Qdy Q4j hd hn;obtain rfl:p=PV.rpoly l:=by simpa using e
 exact⟨l,h2,h⟩
theorem Qaaj(Qdy:Value.okWide Tryz.prog w r b0 24 v)(hd:DataW.Trod enc Tryz.prog w base spare held 24 v d ps)(hn:Rows.uptoBulk d<=1048576):∃ls:List (List RTm),Qai w Qaw (.sl 1 (ls.map PV.rpoly)) v/\Qaai ls:=by
 obtain⟨p,⟨l,e,h⟩,h2⟩:=Qyd Tryz.underlying24 Qdy Qafu hd hn;obtain rfl:p= .sl 1 (l.map PV.rpoly):=by simpa using e
 exact⟨l,h2,h⟩
theorem Qaak{f:FuncId}{fn:Func}{s:ChangeSpec}{ap fresh handsOn Qru:Bool}{W:World}{args:Array Value}{ds gs:List (DataW H)}{before:List MemPlace}{pargs:List PV}
  (hW:DataW.Whole enc Tryz.prog fn.params.toList s.vars ap W args.toList ds gs before) (hvars:s.vars=[]) (hres:fn.resultTypes= #[4]) (hpar:(fn.params.toList.all fun t=>decide (t<Tryz.prog.types.size))=true)
  (hfn:s.fn H (ds++gs)={ results:=[.lit (.bool true)],args:=ds })
  (hF:Qd Tryz.prog f pargs (· = .bool true)) (hsize:args.size=pargs.length) (hrep:∀(i:Nat)(x:PV),pargs[i]? =some x->Qai W Qaw x (args.getD i undef)):
  Calls Tryz.prog f args W fun e W'=>∃v,e= .returned v/\s.post enc Tryz.prog fn ap fresh handsOn Qru W args v W':=by
 simp only[List.all_eq_true,decide_eq_true_eq]at hpar;exact Q02 hW hvars hres Tryz.underlying4 laid Qapu (fun h1 h2=>Qapv h1 h2) hpar hfn hF hsize hrep
theorem Qafw{w:World}{ps:List PV}{vs:List Value}(h:∀(i:Nat)(x:PV),ps[i]? =some x->∀v,vs[i]? =some v->Qai w Qaw x v)(hl:vs.length=ps.length):∀(i:Nat)(x:PV),ps[i]? =some x->Qai w Qaw x (vs.toArray.getD i undef):=by
 intro i x hx;have hi:i<vs.length:=by rw[hl];exact(List.getElem?_eq_some_iff.1 hx).1
 have:=h i x hx vs[i] (List.getElem?_eq_getElem hi);simpa[Array.getD,hi]using this
end Go.Proofs.YtdaldpkjhcfblaaGreat
namespace Go.Proofs.YtdaldpkjhcfblaaGreat
open Go Go.FW
end Go.Proofs.YtdaldpkjhcfblaaGreat
namespace Go.FW
open Go
def Qdb(c:Rat):Rat:=if c<0 then -c else c
theorem Qdh(c:Rat):0<=Qdb c:=by unfold Qdb;grind
theorem Qafx(a b:Rat):Qdb (a+b)<=Qdb a+Qdb b:=by unfold Qdb;grind
theorem Qpo(a b:Rat):Qdb (a*b)=Qdb a*Qdb b:=by
 have pos:∀x:Rat,0<=x->Qdb x=x:=fun x h=>by unfold Qdb;grind
 have neg:∀x:Rat,x<=0->Qdb x= -x:=fun x h=>by unfold Qdb;grind
 rcases Decidable.em (0<=a)with ha|ha<;>rcases Decidable.em (0<=b)with hb|hb
 ·rw[pos _ (Rat.mul_nonneg ha hb),pos _ ha,pos _ hb]
 ·have h:=Rat.mul_nonneg ha (show 0<= -b by grind);rw[neg (a*b) (by grind),pos _ ha,neg b (by grind)];grind
 ·have h:=Rat.mul_nonneg (show 0<= -a by grind) hb;rw[neg (a*b) (by grind),neg a (by grind),pos _ hb];grind
 ·have h:=Rat.mul_nonneg (show 0<= -a by grind) (show 0<= -b by grind);rw[pos (a*b) (by grind),neg a (by grind),neg b (by grind)];grind
theorem Qjs(z:Int):Qdb (z:Rat)=((z.natAbs:Nat):Rat):=by
 rw[<-Rat.intCast_natCast];unfold Qdb;split
 ·rename_i h;have h':z<0:=by have:=(Rat.intCast_lt_intCast (a:=z) (b:=0)).1 (by simpa using h);exact this
  rw[<-Rat.intCast_neg];congr 1;omega
 ·rename_i h;have h':¬z<0:=fun hz=>h (by have:=(Rat.intCast_lt_intCast (a:=z) (b:=0)).2 hz;simpa using this);congr 1;omega
def psi(m:List Int):Nat:=(eN m 3).toNat*729+(eN m 2).toNat*81+(eN m 1).toNat*9+(eN m 0).toNat
theorem cmp4{a b:List Int}(ha:a.length<=4)(hb:b.length<=4):Qak a b=Qb9 a b 4:=(Qg7 (by omega)).symm
theorem Qaku{a b:List Int}(ha:a.length<=4)(hb:b.length<=4)(h:Qak a b<0):
  eN a 3<eN b 3∨(eN a 3=eN b 3/\(eN a 2<eN b 2∨(eN a 2=eN b 2/\(eN a 1<eN b 1∨(eN a 1=eN b 1/\eN a 0<eN b 0))))):=by
 rw[cmp4 ha hb]at h;simp only[Qb9]at h;have z3:=Qjm (x:=eN a 3) (y:=eN b 3);have z2:=Qjm (x:=eN a 2) (y:=eN b 2);have z1:=Qjm (x:=eN a 1) (y:=eN b 1);have z0:=Qjm (x:=eN a 0) (y:=eN b 0);by_cases e3:eN a 3=eN b 3
 ·rw[if_pos e3]at h;refine .inr ⟨e3,?_⟩;by_cases e2:eN a 2=eN b 2
  ·rw[if_pos e2]at h;refine .inr ⟨e2,?_⟩;by_cases e1:eN a 1=eN b 1
   ·rw[if_pos e1]at h;refine .inr ⟨e1,?_⟩;by_cases e0:eN a 0=eN b 0
    ·rw[if_pos e0]at h;omega
    ·rw[if_neg e0]at h;exact z0.1 h
   ·rw[if_neg e1]at h;exact .inl (z1.1 h)
  ·rw[if_neg e2]at h;exact .inl (z2.1 h)
 ·rw[if_neg e3]at h;exact .inl (z3.1 h)
def nW(W:Rat):List Tm->Rat
 | []=>0
 |t::p=>Qdb t.1*W^psi t.2+nW W p
theorem Qvx{W:Rat}(h:0<=W):∀n:Nat,0<=W^n
 |0=>by rw[Rat.pow_zero];decide
 |n+1=>by rw[Rat.pow_succ];exact Rat.mul_nonneg (Qvx h n) h
theorem Qvy{W:Rat}(h:1<=W):∀n:Nat,1<=W^n
 |0=>by rw[Rat.pow_zero];decide
 |n+1=>by rw[Rat.pow_succ];have h1:=Qvy h n;have:=Rat.mul_le_mul_of_nonneg_right h1 (show(0:Rat)<=W by grind);grind
theorem Qs4{W:Rat}(h:0<=W)(c:Rat)(m:List Int):0<=Qdb c*W^psi m:=Rat.mul_nonneg (Qdh c) (Qvx h _)
theorem Qyr{W:Rat}(h:0<=W):∀p,0<=nW W p
 | []=>by simp only[nW];decide
 |t::p=>by have h1:=Qs4 h t.1 t.2;have h2:=Qyr h p;simp only[nW];grind
def Pos(p:List Tm):Prop:=∀t∈p,∀i,0<=eN t.2 i
def IsI(c:Rat):Prop:=∃z:Int,c=(z:Rat)
theorem IsI.add{a b:Rat}:IsI a->IsI b->IsI (a+b):=fun⟨x,hx⟩ ⟨y,hy⟩=>⟨x+y,by rw[hx,hy,Rat.intCast_add]⟩
theorem IsI.mul{a b:Rat}:IsI a->IsI b->IsI (a*b):=fun⟨x,hx⟩ ⟨y,hy⟩=>⟨x*y,by rw[hx,hy,Rat.intCast_mul]⟩
theorem IsI.nat(n:Nat):IsI (n:Rat):=⟨n,(Rat.intCast_natCast n).symm⟩
def IW(D F:Rat)(N:Nat)(p:List Tm):Prop:=∀t∈p,psi t.2<=N/\IsI (t.1*(D*F^(N-psi t.2)))
theorem IW.cons{D F:Rat}{N:Nat}{t:Tm}{p:List Tm}:IW D F N (t::p)↔(psi t.2<=N/\IsI (t.1*(D*F^(N-psi t.2))))/\IW D F N p:=by simp[IW]
theorem Qvz(p:List Tm):Qi2 p=Qad p (-1,[]):=by rw[Qi2,Qcf,if_neg (by decide)]
def c4(m:List Int):Nat:=(((eN m 3).toNat*81+(eN m 2).toNat)*729+(eN m 1).toNat)*6561+(eN m 0).toNat
theorem Qary{a b:List Int}(ha:∀i,0<=eN a i)(hb:∀i,0<=eN b i)(la:a.length<=4)(lb:b.length<=4)(pa:psi a<=6560)(pb:psi b<=6560)(h:Qak a b<0):c4 a<c4 b:=by have a0:=ha 0;have a1:=ha 1;have a2:=ha 2;have a3:=ha 3;have b0:=hb 0;have b1:=hb 1;have b2:=hb 2;have b3:=hb 3;have:=Qaku la lb h;simp only[psi]at pa pb;simp only[c4];omega
theorem Qarz{a:List Int}(pa:psi a<=6560):c4 a<2^32:=by simp only[psi]at pa;simp only[c4];omega
structure ExI(D F W N0:Rat)(p:List Tm):Prop where
 i:IW D F 6560 p
 n:nW W p<=N0
 pos:Pos p
 ml:ML 4 p
 nrm:Nrm p
theorem Q6w{p:List Tm}:(∀t∈p,psi t.2<=6560)->Pos p->ML 4 p->Qbc p->p≠[]->p.length<=c4 (hdT p).2+1:=by
 induction p with
 |nil=>intro _ _ _ _ h;exact absurd rfl h
 | cons t p ih=>
  intro hp hP hM hs _;cases p with
  |nil=>simp
  |cons s p=>have h1:=ih (fun x hx=>hp x (by simp[hx])) (fun x hx=>hP x (by simp[hx])) (fun x hx=>hM x (by simp[hx])) hs.2 (by simp);have h2:=hs.1 s (by simp);have h3:=Qia t.2 s.2;have h4:=Qary (hP s (by simp)) (hP t (by simp)) (hM s (by simp)) (hM t (by simp)) (hp s (by simp)) (hp t (by simp)) (by omega);simp only[hdT,List.headD_cons,List.length_cons]at h1⊢;omega
theorem ExI.len{D F W N0:Rat}{p:List Tm}(h:ExI D F W N0 p):p.length<=2^32:=by
 by_cases h0:p=[]
 ·subst h0;simp
 ·have h1:=Q6w (fun t ht=>(h.i t ht).1) h.pos h.ml h.nrm.s h0;have:=Qarz (h.i _ (Q4h h0)).1;omega
theorem Qaal{W:Rat}(h:1<=W):∀ {p:List Tm} {t:Tm},t∈p->Qdb t.1<=nW W p
 | s::p,t,ht=>by
  have h0:(0:Rat)<=W:=by grind
  have h1:=Qyr h0 p;have h2:=Qs4 h0 s.1 s.2;simp only[nW];rcases List.mem_cons.1 ht with rfl|ht
  ·have h3:=Rat.mul_le_mul_of_nonneg_left (Qvy h (psi t.2)) (Qdh t.1);grind
  ·have:=Qaal h ht;grind
theorem ExI.PB{d f w n0 L:Nat}{p:List Tm}(h:ExI d f w n0 p)(hd:0<d)(hf:0<f)(hw:0<w)(hn0:0<n0)(hL:nl (n0*(d*f^6560))<L):PB L 6560 p:=by
 intro t ht;obtain⟨h1,z,hz⟩:=h.i t ht;have hw1:(1:Rat)<=(w:Rat):=by rw[<-Rat.intCast_natCast,show(1:Rat)=((1:Int):Rat)from rfl,Rat.intCast_le_intCast];omega
 have hN:Qdb t.1<=(n0:Rat):=by have:=Qaal hw1 ht;have:=h.n;grind
 have hX:(d:Rat)*(f:Rat)^(6560-psi t.2)=((d*f^(6560-psi t.2):Nat):Rat):=by rw[Rat.natCast_mul,Rat.natCast_pow]
 have hkey:∀N k:Nat,k<=N->d*f^k<=d*f^N:=fun N k h=>Nat.mul_le_mul_left _ (Nat.pow_le_pow_right hf h);have hXl:=hkey 6560 (6560-psi t.2) (Nat.sub_le _ _);have hX0:0<d*f^(6560-psi t.2):=Nat.mul_pos hd (Nat.pow_pos hf);rw[hX]at hz;generalize d*f^(6560-psi t.2)=X at *
 generalize d*f^6560=Y at *
 have hXr:((X:Int):Rat)≠0:=by rw[Ne,Rat.intCast_eq_zero_iff];omega
 have e:t.1=(z:Rat)/((X:Int):Rat):=by rw[<-hz,Rat.intCast_natCast];rw[Rat.intCast_natCast]at hXr;grind
 have hzl:z.natAbs<=n0*Y:=by
  have h2:Qdb (z:Rat)=Qdb t.1*(X:Rat):=by rw[<-hz,Qpo];congr 1;rw[<-Rat.intCast_natCast,Qjs,Int.natAbs_natCast,Rat.intCast_natCast]
  rw[Qjs]at h2;have h3:(0:Rat)<=(X:Rat):=by rw[<-Rat.intCast_natCast,show(0:Rat)=((0:Int):Rat)from rfl,Rat.intCast_le_intCast];omega
  have h4:=Rat.mul_le_mul_of_nonneg_right hN h3;rw[<-h2,<-Rat.natCast_mul,<-Rat.intCast_natCast,<-Rat.intCast_natCast,Rat.intCast_le_intCast]at h4;have h5:=Nat.mul_le_mul_left n0 hXl;omega
 have hr:=Q1y z (X:Int) (by omega);rw[<-e,Int.natAbs_natCast]at hr;have g1:=Qbm hzl;have g2:nl X<=nl (n0*Y):=by exact Qbm (Nat.le_trans hXl (Nat.le_mul_of_pos_left _ hn0))
 have g3:1<=nl X:=by apply Decidable.byContradiction;intro hc;have:=Qiu.1 (show nl X=0 by omega);omega
 refine⟨by omega,⟨by have:=h.ml t ht;omega,fun x hx=>?_,fun x hx=>?_⟩,h.nrm.c t ht⟩
 all_goals
  obtain⟨i,hi,rfl⟩:=List.getElem_of_mem hx;have hp:=h.pos t ht i;rw[Qc2 hi]at hp
 ·exact hp
 ·have hl:=h.ml t ht;simp only[psi]at h1;rw[<-Qc2 hi];rw[<-Qc2 hi]at hp;have:i=0∨i=1∨i=2∨i=3:=by omega
  rcases this with rfl|rfl|rfl|rfl<;>omega
def Qnn(p:List Tm):Nat:=(p.map fun t=>t.1.den).foldr (· * ·) 1
def Qja(p:List Tm):Nat:=(p.map fun t=>t.1.num.natAbs).foldr (· + ·) 0
theorem Q1z(p:List Tm):0<Qnn p:=by
 induction p with
 |nil=>simp[Qnn]
 |cons t p ih=>exact Nat.mul_pos (Nat.pos_of_ne_zero t.1.den_nz) ih
theorem Qtw:∀ {p:List Tm} {t:Tm},t∈p->t.1.den∣Qnn p
 |s::p,t,ht=>by
  rcases List.mem_cons.1 ht with rfl|ht
  ·exact Nat.dvd_mul_right _ _
  ·exact Nat.dvd_trans (Qtw ht) (Nat.dvd_mul_left _ _)
theorem Qakv{p:List Tm}{K E:Nat}(hp:FW.PB K E p):nl (Qnn p)<=p.length*K+1:=by
 induction p with
 |nil=>simp[Qnn,Qex]
 |cons t p ih=>have h1:=ih (PB.cons.1 hp).2;have h2:=(PB.cons.1 hp).1.c;have h3:=Qdl t.1.den (Qnn p);unfold rs at h2;rw[List.length_cons,Nat.succ_mul];have e:Qnn (t::p)=t.1.den*Qnn p:=rfl;rw[e];omega
theorem Qakw{p:List Tm}{K E:Nat}(hp:FW.PB K E p):nl (Qja p)<=p.length+K:=by
 induction p with
 |nil=>simp[Qja,Qnv]
 |cons t p ih=>have h1:=ih (PB.cons.1 hp).2;have h2:=(PB.cons.1 hp).1.c;have h3:=Qny t.1.num.natAbs (Qja p);unfold rs at h2;have e:Qja (t::p)=t.1.num.natAbs+Qja p:=rfl;rw[e,List.length_cons];omega
theorem Q4k{c:Rat}{L:Nat}(h:c.den∣L):IsI (c*(L:Rat)):=by
 obtain⟨k,rfl⟩:=h;refine⟨c.num*(k:Int),?_⟩;have hd0:=c.den_nz;have d1:c=(c.num:Rat)/((c.den:Int):Rat):=by
  conv=>lhs;rw[<-Rat.mkRat_self c]
  rw[Rat.mkRat_eq_div,Rat.intCast_natCast]
 have k1:((c.den:Int):Rat)≠0:=by rw[Ne,Rat.intCast_eq_zero_iff];omega
 rw[Rat.natCast_mul,Rat.intCast_mul,Rat.intCast_natCast,<-Rat.intCast_natCast c.den];generalize((c.den:Int):Rat)=D at *
 generalize(c.num:Rat)=N at *
 rw[d1];grind
theorem Qafy(c:Rat):Qdb c*(c.den:Rat)=((c.num.natAbs:Nat):Rat):=by
 have d1:c*(c.den:Rat)=(c.num:Rat):=by
  have e:c=(c.num:Rat)/((c.den:Int):Rat):=by
   conv=>lhs;rw[<-Rat.mkRat_self c]
   rw[Rat.mkRat_eq_div,Rat.intCast_natCast]
  have k1:((c.den:Int):Rat)≠0:=by rw[Ne,Rat.intCast_eq_zero_iff];have:=c.den_nz;omega
  rw[<-Rat.intCast_natCast];generalize((c.den:Int):Rat)=D at *
  generalize(c.num:Rat)=N at *
  rw[e];grind
 rw[<-Qjs,<-d1,Qpo];congr 1;rw[<-Rat.intCast_natCast,Qjs,Int.natAbs_natCast,Rat.intCast_natCast]
theorem Qs5{a b:Nat}(h:a<=b):(a:Rat)<=(b:Rat):=by rw[<-Rat.intCast_natCast,<-Rat.intCast_natCast,Rat.intCast_le_intCast];omega
theorem Q3a(c:Rat):Qdb c<=((c.num.natAbs:Nat):Rat):=by have h:=Qafy c;have h1:(1:Rat)<=(c.den:Rat):=Qs5 (a:=1) (Nat.pos_of_ne_zero c.den_nz);have:=Rat.mul_le_mul_of_nonneg_left h1 (Qdh c);grind
end Go.FW
