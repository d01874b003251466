/- Part 12 of the proof of IdealMinimal: G12, G13, G14, L2, G15, U11, FwWK. Own lemmas; no conditions. -/
import Derived.Test.YtonfajmchebkeaaGreatIdealMinimalPart11
set_option linter.unusedSimpArgs false
set_option linter.unnecessarySimpa false
set_option linter.unusedVariables false
namespace Go.Proofs.YtonfajmchebkeaaGreat
open Go Go.FW
set_option linter.unusedSimpArgs false
set_option linter.unusedVariables false
set_option maxRecDepth 100000
theorem Q9e{v:Nat}(hv:v<64):Qe Tryz.prog 73 [.int .i64 v] (· =PV.poly (Qaa v)):=by
 refine Qf Qk Tryz.func73 rfl Qanl (by simp[c73]) fun C hP=> ?_;simp only[c73,Zo,Zg,Zm,Zc,Zf,Zl,Zh,Zs,Zi,Zb,Zk,Zn,Zu,Zq,Zr,Zz]
 simp+decide (disch:=first|exact D0|fail) only[go_sem,↓reduceIte]
 refine Qa hP (Q2l hv) rfl rfl rfl ?_
 simp+decide (disch:=first|exact D0|fail) only[go_sem,↓reduceIte]
 exact Qc rfl rfl
theorem Q5u:Qe Tryz.prog 74 [] (· =PV.poly (Qcd 1)):=by
 have hone:=Qzw
 refine Qf Qk Tryz.func74 rfl Qanm (by simp[c74]) fun C hP=> ?_;simp only[c74,Zo,Zg,Zm,Zc,Zf,Zl,Zh,Zs,Zi,Zb,Zk,Zn,Zu,Zq,Zr,Zz]
 simp+decide (disch:=first|exact D0|fail) only[go_sem,↓reduceIte]
 refine Qa hP Qant rfl rfl rfl ?_
 simp+decide (disch:=first|exact D0|fail) only[go_sem,↓reduceIte]
 refine Qa hP (Q5j (k:=4) (by omega) (by omega)) rfl rfl rfl ?_
 simp+decide (disch:=first|exact D0|fail) only[go_sem,↓reduceIte]
 exact Qc rfl rfl
theorem Qks{p:List Tm}(h:Sm4 p):PB 1073741824 1048576 p/\p.length<=8589934592:=⟨h.b.mono (by omega) (by omega),by have:=h.l;omega⟩
theorem Qil:Qe Tryz.prog 30 [] (· = .bool true):=by
 have s0:Sm4 (Qaa 0):=Qnl (by decide+kernel)
 have s1:Sm4 (Qaa 1):=Qnl (by decide+kernel)
 have s2:Sm4 (Qcd 1):=Qnl (by decide+kernel)
 have s3:Sm4 (Qai (Qaa 0) (Qaa 0)):=Qnl (by decide+kernel)
 have s4:Sm4 (Qai (Qaa 0) (Qaa 1)):=Qnl (by decide+kernel)
 have s5:Sm4 (Q3 (Qai (Qaa 0) (Qaa 1)) (Qaa 0)):=Qnl (by decide+kernel)
 have n0:Qaa 0≠[]:=by decide+kernel
 have hv0:Qe Tryz.prog 73 [.int .i64 0] (· =PV.poly (Qaa 0)):=Q9e (v:=0) (by omega)
 have hv1:Qe Tryz.prog 73 [.int .i64 1] (· =PV.poly (Qaa 1)):=Q9e (v:=1) (by omega)
 have hm0:=Qafe (m:=4) (P:=Qaa 0) (q:=Qaa 0) ⟨s0.sml.z.mono (by omega) (by omega) (by omega),s0.n,by have:=s0.l;omega⟩ s0.sml (by omega)
 have hm1:=Qafe (m:=4) (P:=Qaa 0) (q:=Qaa 1) ⟨s0.sml.z.mono (by omega) (by omega) (by omega),s0.n,by have:=s0.l;omega⟩ s1.sml (by omega)
 have hcb:=Qnh (cs:=[Qaa 1,Qaa 0]) (ls:=[Qaa 0,Qcd 1]) (by simp;exact⟨s1.sml.big,s0.sml.big⟩) (by simp;exact⟨s0.sml,s2.sml⟩) (by simp) (by simp)
 have hpr:=Qni (fs:=[Qaa 0,Qaa 1]) (ps:=[2,0]) (by simp;exact⟨s0.sml,s1.sml⟩) (by simp) (by simp)
 have hck:=fun(g:List Tm) (hg:Sml g)=>Q08 (fs:=[Qaa 0]) (ps:=[1]) (n:=1) (cs:=[Qcd 1]) (hs:=[Qai (Qaa 0) (Qaa 1)]) (g:=g) (by simp;exact s0.sml) (by simp) (by simp) (by simp;exact s2.sml.big) (by simp) (by simp;exact s4.sml) (by simp) hg
 have hc1:=hck (Qaa 1) s1.sml
 have hc2:=hck (Qaa 0) s0.sml
 have hmn:=Qnk (fs:=[Qaa 0]) (ps:=[2]) (n:=1) (cs:=[Qai (Qaa 0) (Qaa 0),Qai (Qaa 0) (Qaa 1)]) rfl (by simp;exact⟨s0,n0,by omega,by omega⟩) (by simp) (by simp;exact⟨s3,s4⟩) (by simp) (by simp[Qcx]) Qaod
 have had:=Qg4 (p:=Qai (Qaa 0) (Qaa 1)) (q:=Qaa 0) s4.b s0.b (by omega) (by omega) (by have:=s4.l;omega) (by have:=s0.l;omega)
 have he1:=Qj2 s5.b s5.b (by omega) (by omega) (by have:=s5.l;omega) (by have:=s5.l;omega)
 have he2:=Qj2 s3.b s3.b (by omega) (by omega) (by have:=s3.l;omega) (by have:=s3.l;omega)
 have hsl:=Qox (a:=[Qaa 0,Qaa 1]) (b:=[Qaa 0,Qaa 1]) ⟨by simp;exact⟨Qks s0,Qks s1⟩,by simp⟩ ⟨by simp;exact⟨Qks s0,Qks s1⟩,by simp⟩
 rw[Qakg]at hcb
 rw[Qakh]at hpr
 rw[Qapg]at hc1
 rw[Qaph]at hc2
 rw[decide_eq_true rfl]at he1 he2 hsl
 have hone:=Q5u
 clear s0 s1 s2 s3 s4 s5 n0 hck
 generalize Q3 (Qai (Qaa 0) (Qaa 1)) (Qaa 0)=A at *
 generalize Qai (Qaa 0) (Qaa 0)=M0 at *
 generalize Qai (Qaa 0) (Qaa 1)=M1 at *
 generalize Qcd 1=O at *
 generalize Qaa 0=V0 at *
 generalize Qaa 1=V1 at *
 refine Qf Qk Tryz.func30 rfl Qank (by simp[c30]) fun C hP=> ?_;simp only[c30,Zo,Zg,Zm,Zc,Zf,Zl,Zh,Zs,Zi,Zb,Zk,Zn,Zu,Zq,Zr,Zz]
 simp+decide (disch:=first|exact D0|fail) only[go_sem,↓reduceIte]
 refine Qa hP hv0 rfl rfl rfl ?_
 simp+decide (disch:=first|exact D0|fail) only[go_sem,↓reduceIte]
 refine Qa hP hone rfl rfl rfl ?_
 simp+decide (disch:=first|exact D0|fail) only[go_sem,↓reduceIte]
 rw[Qyf (Qcf.own (m:=1) (e:=1) (ty:=51) (xs:=[PV.poly V0]) (fz:=false) T0 rfl) (Qcf.own (m:=1) (e:=1) (ty:=3) (xs:=[PV.int .i64 1]) (fz:=false) T0 rfl) (Qcf.flat rfl) (Qcf.own (m:=1) (e:=1) (ty:=51) (xs:=[PV.poly O]) (fz:=false) T0 rfl)]
 refine⟨⟨rfl,by simp⟩,⟨rfl,by simp⟩,⟨rfl,by simp⟩,⟨rfl,by simp⟩,?_⟩
 simp+decide (disch:=first|exact E0|fail) only[go_sem,↓reduceIte,Q5,List.contains_cons,List.contains_nil,List.flatMap_cons,List.flatMap_nil,List.append_nil]
 refine Qa hP hv0 rfl rfl rfl ?_
 simp+decide (disch:=first|exact D0|fail) only[go_sem,↓reduceIte]
 refine Qa hP hv1 rfl rfl rfl ?_
 simp+decide (disch:=first|exact D0|fail) only[go_sem,↓reduceIte]
 refine Qa hP hm1 rfl rfl rfl ?_
 simp+decide (disch:=first|exact D0|fail) only[go_sem,↓reduceIte]
 refine Qa hP hv1 rfl rfl rfl ?_
 simp+decide (disch:=first|exact D0|fail) only[go_sem,↓reduceIte]
 refine Qa hP hv0 rfl rfl rfl ?_
 simp+decide (disch:=first|exact D0|fail) only[go_sem,↓reduceIte]
 refine Qa hP hv0 rfl rfl rfl ?_
 simp+decide (disch:=first|exact D0|fail) only[go_sem,↓reduceIte]
 refine Qa hP hone rfl rfl rfl ?_
 simp+decide (disch:=first|exact D0|fail) only[go_sem,↓reduceIte]
 refine Qb1 hP hcb Ur0 rfl ?_
 simp+decide (disch:=first|exact D0|fail) only[go_sem,↓reduceIte]
 refine Qa hP hv0 rfl rfl rfl ?_
 simp+decide (disch:=first|exact D0|fail) only[go_sem,↓reduceIte]
 refine Qa hP hv1 rfl rfl rfl ?_
 simp+decide (disch:=first|exact D0|fail) only[go_sem,↓reduceIte]
 refine Qb1 hP hpr Ur0 rfl ?_
 simp+decide (disch:=first|exact D0|fail) only[go_sem,↓reduceIte]
 refine Qa hP hv0 rfl rfl rfl ?_
 simp+decide (disch:=first|exact D0|fail) only[go_sem,↓reduceIte]
 refine Qa hP hv0 rfl rfl rfl ?_
 simp+decide (disch:=first|exact D0|fail) only[go_sem,↓reduceIte]
 refine Qa hP hv0 rfl rfl rfl ?_
 simp+decide (disch:=first|exact D0|fail) only[go_sem,↓reduceIte]
 refine Qa hP hm0 rfl rfl rfl ?_
 simp+decide (disch:=first|exact D0|fail) only[go_sem,↓reduceIte]
 refine Qa hP hv0 rfl rfl rfl ?_
 simp+decide (disch:=first|exact D0|fail) only[go_sem,↓reduceIte]
 refine Qa hP hv1 rfl rfl rfl ?_
 simp+decide (disch:=first|exact D0|fail) only[go_sem,↓reduceIte]
 refine Qa hP hm1 rfl rfl rfl ?_
 simp+decide (disch:=first|exact D0|fail) only[go_sem,↓reduceIte]
 rw[Qyf (Qcf.own (m:=1) (e:=1) (ty:=51) (xs:=[PV.poly V0]) (fz:=false) T0 rfl) (Qcf.own (m:=1) (e:=1) (ty:=3) (xs:=[PV.int .i64 2]) (fz:=false) T0 rfl) (Qcf.flat rfl) (Qcf.own (m:=2) (e:=1) (ty:=51) (xs:=[PV.poly M0,PV.poly M1]) (fz:=false) T0 rfl)]
 refine⟨⟨rfl,by simp⟩,⟨rfl,by simp⟩,⟨rfl,by simp⟩,⟨rfl,by simp⟩,?_⟩
 simp+decide (disch:=first|exact E0|fail) only[go_sem,↓reduceIte,Q5,List.contains_cons,List.contains_nil,List.flatMap_cons,List.flatMap_nil,List.append_nil]
 refine Qa hP hmn rfl rfl rfl ?_
 simp+decide (disch:=first|exact E0|fail) only[go_sem,↓reduceIte,Q5,List.contains_cons,List.contains_nil,List.flatMap_cons,List.flatMap_nil,List.append_nil]
 rw[Qae1 (ty:=51) (xs:=[PV.poly M1]) (fz:=false) U0 (by omega)]
 simp+decide (disch:=first|exact E0|fail) only[go_sem,↓reduceIte,Q5,List.contains_cons,List.contains_nil,List.flatMap_cons,List.flatMap_nil,List.append_nil]
 refine Qa hP hv0 rfl rfl rfl ?_
 simp+decide (disch:=first|exact E0|fail) only[go_sem,↓reduceIte,Q5,List.contains_cons,List.contains_nil,List.flatMap_cons,List.flatMap_nil,List.append_nil]
 refine Qa hP had rfl rfl rfl ?_
 simp+decide (disch:=first|exact E0|fail) only[go_sem,↓reduceIte,Q5,List.contains_cons,List.contains_nil,List.flatMap_cons,List.flatMap_nil,List.append_nil]
 refine Qa hP he1 rfl rfl rfl ?_
 simp+decide (disch:=first|exact E0|fail) only[go_sem,↓reduceIte,Q5,List.contains_cons,List.contains_nil,List.flatMap_cons,List.flatMap_nil,List.append_nil]
 refine Qa hP hv0 rfl rfl rfl ?_
 simp+decide (disch:=first|exact E0|fail) only[go_sem,↓reduceIte,Q5,List.contains_cons,List.contains_nil,List.flatMap_cons,List.flatMap_nil,List.append_nil]
 refine Qa hP hv0 rfl rfl rfl ?_
 simp+decide (disch:=first|exact E0|fail) only[go_sem,↓reduceIte,Q5,List.contains_cons,List.contains_nil,List.flatMap_cons,List.flatMap_nil,List.append_nil]
 refine Qa hP hm0 rfl rfl rfl ?_
 simp+decide (disch:=first|exact E0|fail) only[go_sem,↓reduceIte,Q5,List.contains_cons,List.contains_nil,List.flatMap_cons,List.flatMap_nil,List.append_nil]
 refine Qa hP he2 rfl rfl rfl ?_
 simp+decide (disch:=first|exact E0|fail) only[go_sem,↓reduceIte,Q5,List.contains_cons,List.contains_nil,List.flatMap_cons,List.flatMap_nil,List.append_nil]
 refine Qa hP hv1 rfl rfl rfl ?_
 simp+decide (disch:=first|exact E0|fail) only[go_sem,↓reduceIte,Q5,List.contains_cons,List.contains_nil,List.flatMap_cons,List.flatMap_nil,List.append_nil]
 refine Qb1 hP hc1 Ur0 rfl ?_
 simp+decide (disch:=first|exact E0|fail) only[go_sem,↓reduceIte,Q5,List.contains_cons,List.contains_nil,List.flatMap_cons,List.flatMap_nil,List.append_nil]
 refine Qa hP hv0 rfl rfl rfl ?_
 simp+decide (disch:=first|exact E0|fail) only[go_sem,↓reduceIte,Q5,List.contains_cons,List.contains_nil,List.flatMap_cons,List.flatMap_nil,List.append_nil]
 refine Qb1 hP hc2 Ur0 rfl ?_
 simp+decide (disch:=first|exact E0|fail) only[go_sem,↓reduceIte,Q5,List.contains_cons,List.contains_nil,List.flatMap_cons,List.flatMap_nil,List.append_nil]
 refine Qa hP hv0 rfl rfl rfl ?_
 simp+decide (disch:=first|exact E0|fail) only[go_sem,↓reduceIte,Q5,List.contains_cons,List.contains_nil,List.flatMap_cons,List.flatMap_nil,List.append_nil]
 refine Qa hP hv1 rfl rfl rfl ?_
 simp+decide (disch:=first|exact E0|fail) only[go_sem,↓reduceIte,Q5,List.contains_cons,List.contains_nil,List.flatMap_cons,List.flatMap_nil,List.append_nil]
 refine Qb1 hP hsl Ur0 rfl ?_
 simp+decide (disch:=first|exact E0|fail) only[go_sem,↓reduceIte,Q5,List.contains_cons,List.contains_nil,List.flatMap_cons,List.flatMap_nil,List.append_nil]
 exact Qc rfl rfl
end Go.Proofs.YtonfajmchebkeaaGreat
namespace Go.Proofs.YtonfajmchebkeaaGreat
open Go Go.FW
set_option linter.unusedSimpArgs false
set_option linter.unusedVariables false
set_option maxRecDepth 100000
theorem Qxo{l:List RTm}{k:Nat}(hb:∀t∈l,RB k t)(h:Qii l=true):PV.rpoly l=PV.poly (l.map RTm.tm)/\Sm4 (l.map RTm.tm):=by
 simp only[Qii,Bool.and_eq_true,decide_eq_true_eq,List.all_eq_true]at h
 obtain⟨h1,h2,h3⟩:=h
 obtain⟨e1,e2⟩:=Q7p hb h3
 refine⟨e1,e2.nrm,fun t ht=> ?_,fun t ht=> ?_,by simpa using h1⟩
 ·obtain⟨x,hx,rfl⟩:=List.mem_map.1 ht
  have hs:=h2 x hx
  simp only[smK,Bool.and_eq_true,decide_eq_true_eq,List.all_eq_true]at hs
  have hv:=e2.t _ ht
  have hr:=(show Raw 2 x.n x.a x.d from⟨(hb x hx).r.1,(hb x hx).r.2.1,hs.2.1,hs.2.2.1,by omega⟩).rs
  have hm:=MB.ofOk hv.m
  refine⟨?_,⟨hm.len,hm.lo,fun y hy=>hs.2.2.2 y hy⟩,Qrl hv.m⟩
  show rs (rv x.n x.a x.d)+1<=3
  omega
 ·obtain⟨x,hx,rfl⟩:=List.mem_map.1 ht
  have hs:=h2 x hx
  simp only[smK,Bool.and_eq_true,decide_eq_true_eq,List.all_eq_true]at hs
  exact hs.1
def tms(ls:List (List RTm)):List (List Tm):=ls.map fun l=>l.map RTm.tm
theorem Qxp{ls:List (List RTm)}{k:Nat}(hb:∀l∈ls,(∀t∈l,RB k t)/\l.length<2^40)(h:Qmo ls=true):PV.sl 1 (ls.map PV.rpoly)=PV.polys (tms ls)/\(∀f∈tms ls,Sm4 f)/\(tms ls).length<=4:=by
 simp only[Qmo,Bool.and_eq_true,decide_eq_true_eq,List.all_eq_true]at h
 refine⟨?_,fun f hf=> ?_,by unfold tms;rw[List.length_map];exact h.1⟩
 ·unfold tms PV.polys
  rw[List.map_map]
  exact congrArg _ (List.map_congr_left fun l hl=>(Qxo (hb l hl).1 (h.2 l hl)).1)
 ·obtain⟨l,hl,rfl⟩:=List.mem_map.1 hf
  exact(Qxo (hb l hl).1 (h.2 l hl)).2
theorem Ql8{c:Qft}{k:Nat}(hb:RC k c)(h:Qmp c=true):PV.rcert c=PV.cert (tms c.fs) c.ps c.n (tms c.cs)/\(∀f∈tms c.fs,Sm4 f)/\(tms c.fs).length<=4/\(∀f∈tms c.cs,Sm4 f)/\(tms c.cs).length<=4/\c.ps.length<=6:=by
 simp only[Qmp,Bool.and_eq_true,decide_eq_true_eq]at h
 obtain⟨h1,h2,h3⟩:=h
 obtain⟨a1,a2,a3⟩:=Qxp hb.f h1
 obtain⟨b1,b2,b3⟩:=Qxp hb.g h2
 refine⟨?_,a2,a3,b2,b3,h3⟩
 unfold PV.rcert
 rw[a1,b1]
end Go.Proofs.YtonfajmchebkeaaGreat
namespace Go.Proofs.YtonfajmchebkeaaGreat
open Go Go.FW
set_option linter.unusedSimpArgs false
set_option linter.unusedVariables false
set_option maxRecDepth 100000
theorem Qnm{l:List (List Tm)}(h:∀f∈l,Sm4 f)(hl:l.length<=4):(∀f∈l,Sml f)/\(∀f∈l,Big f)/\Qgk l/\∀f∈l,f.length<2^40:=
 ⟨fun f hf=>(h f hf).sml,fun f hf=>(h f hf).sml.big,⟨fun f hf=>Qks (h f hf),by omega⟩,fun f hf=>by have:=(h f hf).l;omega⟩
end Go.Proofs.YtonfajmchebkeaaGreat
namespace Go.Proofs.YtonfajmchebkeaaGreat
open Go Go.FW Go.ChangeShapes Go.WideShapes Go.ChangeAt Go.RowKit
set_option linter.unusedSimpArgs false
set_option linter.unusedVariables false
set_option maxRecDepth 100000
variable {H : Type} {enc : TypeId × Value -> H}
def Q5v(l:List Int):Prop:=l.length<=1048576/\∀x∈l,-9223372036854775808<=x/\x<=9223372036854775807
theorem Qaki:Rd enc 26 fun ps=>∃l:List Int,ps=[PV.mono l]/\Q5v l:=by
 refine(Qg2 (α:=Int) (f:=fun(x:Int)=> .int .i64 x) Qbs Tryz.underlying26 (by rw[Qjo];omega) (Qpx Tryz.underlying3)).mono ?_
 rintro ps ⟨l,rfl,h1,h2⟩
 exact⟨l,by rw[Qjo],h1,h2⟩
def Quu(c:Qft):Prop:=Qm8 c.fs/\Q5v c.ps/\(-9223372036854775808<=c.n/\c.n<=9223372036854775807)/\Qm8 c.cs
theorem Qakj:Rd enc 79 fun ps=>∃c:Qft,ps=(PV.rcert c).cells/\Quu c:=by
 refine(Q0l (Qs:=[fun ps=>∃ls:List (List RTm),ps=[.sl 1 (ls.map PV.rpoly)]/\Qm8 ls,fun ps=>∃l:List Int,ps=[PV.mono l]/\Q5v l,fun ps=>∃n:Int,ps=[.int .i64 n]/\ -9223372036854775808<=n/\n<=9223372036854775807,fun ps=>∃ls:List (List RTm),ps=[.sl 1 (ls.map PV.rpoly)]/\Qm8 ls]) Qbs Tryz.underlying79 (by kernel_rfl) ⟨rfl,Q0j,by kernel_rfl,Qaki,by kernel_rfl,Qpx Tryz.underlying3,by kernel_rfl,Q0j,trivial⟩).mono ?_
 rintro ps ⟨p,q,rfl,⟨f,rfl,h1⟩,p2,q2,rfl,⟨l,rfl,h2⟩,p3,q3,rfl,⟨n,rfl,h3⟩,p4,q4,rfl,⟨c,rfl,h4⟩,rfl⟩
 exact⟨⟨f,l,n,c⟩,rfl,h1,h2,h3,h4⟩
variable {w : World} {base : Nat} {spare : Nat -> Bool} {held : Bool} {r : Reach} {b0 : Nat} {v : Value} {d : DataW H} {ps : List MemPlace}
theorem Q1i(Qdn:Value.okWide Tryz.prog w r b0 79 v)(hd:DataW.Trod enc Tryz.prog w base spare held 79 v d ps)(hn:Rows.uptoBulk d<=1048576):∃c,Qam w Qbr (PV.rcert c) v/\Quu c:=by
 obtain⟨p,⟨c,rfl,h⟩,h2⟩:=Q4u Tryz.underlying79 Qdn Qakj hd hn
 exact⟨c,h2,h⟩
theorem Qyh{ls:List (List RTm)}(h:Qm8 ls):(∀l∈ls,(∀t∈l,RB 1048576 t)/\l.length<2^40)/\ls.length<2^40:=⟨fun l hl=>⟨fun t ht=>((h.2 l hl).2 t ht).1,by have:=(h.2 l hl).1;omega⟩,by have:=h.1;omega⟩
theorem Qafi{c:Qft}(h:Quu c):RC 1048576 c:=by
 obtain⟨h1,h2,h3,h4⟩:=h
 exact⟨(Qyh h1).1,(Qyh h4).1,(Qyh h1).2,(Qyh h4).2,by have:=h2.1;omega⟩
end Go.Proofs.YtonfajmchebkeaaGreat
namespace Go.Proofs.YtonfajmchebkeaaGreat
open Go Go.FW
set_option linter.unusedSimpArgs false
set_option linter.unusedVariables false
set_option maxRecDepth 100000
theorem Qq5(ls:List (List RTm)):(tms ls).length=ls.length:=List.length_map _
theorem Quv{c:Qft}{k:Nat}(hb:RC k c)(h:Qij c=true):Qmp c=true/\c.ps.length=(tms c.fs).length/\(∀f∈tms c.fs,f≠[])/\(∀x∈c.ps,0<=x/\x<=4)/\∀x∈(tms c.fs).zip c.ps,Ql7 x:=by
 simp only[Qij,Bool.and_eq_true,decide_eq_true_eq,List.all_eq_true,List.mem_range]at h
 obtain⟨h1,h2,h3⟩:=h
 obtain⟨_,q1,_⟩:=Ql8 hb h1
 have key:∀i (hi:i<c.ps.length) (hf:i<(tms c.fs).length),0<=c.ps[i]/\c.ps[i]<=4/\(tms c.fs)[i]≠[]:=fun i hi hf=>by
  have h4:=h3 i hi
  have hif:i<c.fs.length:=by rwa[Qq5]at hf
  have e2:c.ps.getD i 0=c.ps[i]:=by simp[hi]
  have e3:c.fs.getD i []=c.fs[i]:=by simp[hif]
  simp only[Ql6,decide_eq_true_eq,e2,e3]at h4
  refine⟨h4.1,h4.2.1,fun e=>h4.2.2 ?_⟩
  have e4:(tms c.fs)[i]=c.fs[i].map RTm.tm:=by simp[tms]
  rw[e4]at e
  exact List.map_eq_nil_iff.1 e
 refine⟨h1,by rw[Qq5];exact h2,fun f hf=> ?_,fun x hx=> ?_,fun x hx=> ?_⟩
 ·obtain⟨i,hi,rfl⟩:=List.getElem_of_mem hf
  exact(key i (by rw[h2];rwa[Qq5]at hi) hi).2.2
 ·obtain⟨i,hi,rfl⟩:=List.getElem_of_mem hx
  have:=key i hi (by rw[Qq5];omega)
  exact⟨this.1,this.2.1⟩
 ·obtain⟨i,hi,rfl⟩:=List.getElem_of_mem hx
  have hz:((tms c.fs).zip c.ps).length=min (tms c.fs).length c.ps.length:=List.length_zip
  rw[List.getElem_zip]
  have:=key i (by omega) (by omega)
  exact⟨q1 _ (List.getElem_mem _),this.2.2,this.1,this.2.1⟩
theorem Q9f{l:List (List Tm)}{j:Nat}(h:∀c∈l,Cf j c)(hj:j<=20)(hl:l.length<=8):Qgk l:=⟨fun c hc=>(h c hc).pb hj,by omega⟩
theorem Qr3(fs:List (List Tm))(ps:List Int)(n:Int)(cs:List (List Tm)):Qda fs ps n cs fs ps n cs=true:=decide_eq_true ⟨rfl,rfl,rfl,rfl⟩
theorem IdealCancels_walk {c:Qft} {i:Int} {k:Nat} (hc:RC k c) (hk1:1<=k) (hk:k<2^36):Qe Tryz.prog 11 [PV.rcert c,.int .i64 i] (· = .bool true):=by
  have hfa:=Qxk hc hk1 hk
  refine Qf Qk Tryz.func11 rfl Qann (by simp[c11]) fun C hP=> ?_;simp only[c11,Zo,Zg,Zm,Zc,Zf,Zl,Zh,Zs,Zi,Zb,Zk,Zn,Zu,Zq,Zr,Zz]
  simp+decide (disch:=first|exact D0|fail) only[go_sem,↓reduceIte]
  refine Qa hP hfa rfl rfl rfl ?_
  cases h1:Qij c
  · simp+decide (disch:=first|exact D0|fail) only[go_sem,↓reduceIte]
    refine Qa hP Qil rfl rfl rfl ?_
    simp+decide (disch:=first|exact D0|fail) only[go_sem,↓reduceIte]
    exact Qc rfl rfl
  obtain⟨h2,hl,hne,hpi,hF⟩:=Quv hc h1
  obtain⟨he,f4,fl4,c4,cl4,p6⟩:=Ql8 hc h2
  have he':PV.agg [PV.sl 1 (List.map PV.rpoly c.fs),PV.mono c.ps,PV.int .i64 c.n,PV.sl 1 (List.map PV.rpoly c.cs)]=PV.cert (tms c.fs) c.ps c.n (tms c.cs):=he
  rw[he']
  obtain⟨q1,q2,q3,q4⟩:=Qnm f4 fl4
  obtain⟨fs,ps,n,ds⟩:=c
  simp only at *
  generalize tms fs=F at *
  generalize tms ds=D at *
  have c1:=Qg8 (fs:=F) (ps:=ps) (cs:=D) (n:=n) (i:=i) (j:=0) (fun f h=>⟨f4 f h,hne f h⟩) (fun c h=>(c4 c h).cf) (by omega) (by omega) (by omega) (by omega) (fun x h=>by have:=hpi x h;omega)
  have c2:=Qg9 (fs:=F) (ps:=ps) (cs:=D) (n:=n) (i:=i) (j:=0) (fun f h=>⟨f4 f h,hne f h⟩) (fun c h=>(c4 c h).cf) (by omega) (by omega) (by omega) (by omega) (fun x h=>by have:=hpi x h;omega)
  have key : ∃ gs qs m es b,PV.cancel F n (cancelO F ps D i)= .tup [PV.cert gs qs m es,.bool b]/\Qgk gs/\Qgk es/\qs.length<2^40:=by
    cases hr:cancelO F ps D i with
    |none=>exact⟨[],[],0,[],false,rfl,⟨by simp,by simp⟩,⟨by simp,by simp⟩,by simp⟩
    | some r=>
      obtain⟨qs,es⟩:=r
      refine⟨F,qs,n,es,true,rfl,q3,?_,?_⟩
      all_goals
        unfold cancelO at hr
        split at hr
        · rename_i hcond
          obtain⟨l,hl1,hl2⟩:=Option.map_eq_some_iff.1 hr
          cases hl2
          have hm:i.toNat<F.length:=hcond.2.1
          have eF:F.getD i.toNat []=F[i.toNat]:=by simp[hm]
          first
            | (rw[eF]at hl1
               exact Q9f (Q1b (f4 _ (List.getElem_mem hm)) (hne _ (List.getElem_mem hm)) (by omega) (fun c h=>(c4 c h).cf) hl1) (by omega) (by rw[Qv3 hl1];omega))
            |(rw[List.length_set];omega)
        · cases hr
  obtain⟨gs,qs,m,es,b,e0,k1,k2,k3⟩:=key
  rw[e0]at c1 c2
  have d1:=Qms (n:=m) (n':=m) k1 k1 k2 k2 k3 k3
  have d2:=Qmr (n:=m) (n':=m) k1 k1 k2 k2 k3 k3
  rw[Qr3]at d1 d2
  simp+decide (disch:=first|exact D0|fail) only[go_sem,↓reduceIte]
  refine Qa hP c1 rfl rfl rfl ?_
  simp+decide (disch:=first|exact D0|fail) only[go_sem,↓reduceIte]
  refine Qa hP c2 rfl rfl rfl ?_
  simp+decide (disch:=first|omega|rfl|(simp+decide only[go_sem,↓reduceIte,beq_self_eq_true]<;>rfl)|fail) only[go_sem,↓reduceIte,beq_self_eq_true]
  refine Qa hP d1 rfl rfl rfl ?_
  simp+decide (disch:=first|exact D0|fail) only[go_sem,↓reduceIte]
  refine Qa hP d2 rfl rfl rfl ?_
  simp+decide (disch:=first|exact D0|fail) only[go_sem,↓reduceIte]
  refine Qa hP Qil rfl rfl rfl ?_
  simp+decide (disch:=first|exact D0|fail) only[go_sem,↓reduceIte]
  exact Qc rfl rfl
theorem Qq6{c d:Qft}{k:Nat}(hc:RC k c)(hd:RC k d)(hk1:1<=k)(hk:k<2^36):Qe Tryz.prog 12 [PV.rcert c,PV.rcert d] (· = .bool true):=by
 have hfa:=Qxk hc hk1 hk
 have hsm:=Qum hd hk1 hk
 refine Qf Qk Tryz.func12 rfl Qano (by simp[c12]) fun C hP=> ?_;simp only[c12,Zo,Zg,Zm,Zc,Zf,Zl,Zh,Zs,Zi,Zb,Zk,Zn,Zu,Zq,Zr,Zz]
 simp+decide (disch:=first|exact D0|fail) only[go_sem,↓reduceIte]
 refine Qa hP hfa rfl rfl rfl ?_
 cases h1:Qij c
 ·simp+decide (disch:=first|exact D0|fail) only[go_sem,↓reduceIte]
  refine Qa hP Qil rfl rfl rfl ?_
  simp+decide (disch:=first|exact D0|fail) only[go_sem,↓reduceIte]
  exact Qc rfl rfl
 obtain⟨h2,hl,hne,hpi,hF⟩:=Quv hc h1
 obtain⟨he,f4,fl4,c4,cl4,p6⟩:=Ql8 hc h2
 have he':PV.agg [PV.sl 1 (List.map PV.rpoly c.fs),PV.mono c.ps,PV.int .i64 c.n,PV.sl 1 (List.map PV.rpoly c.cs)]=PV.cert (tms c.fs) c.ps c.n (tms c.cs):=he
 simp+decide (disch:=first|exact D0|fail) only[go_sem,↓reduceIte]
 refine Qa hP hsm rfl rfl rfl ?_
 cases h3:Qmp d
 ·simp+decide (disch:=first|exact D0|fail) only[go_sem,↓reduceIte]
  refine Qa hP Qil rfl rfl rfl ?_
  simp+decide (disch:=first|exact D0|fail) only[go_sem,↓reduceIte]
  exact Qc rfl rfl
 obtain⟨ge,g4,gl4,e4,el4,r6⟩:=Ql8 hd h3
 have ge':PV.agg [PV.sl 1 (List.map PV.rpoly d.fs),PV.mono d.ps,PV.int .i64 d.n,PV.sl 1 (List.map PV.rpoly d.cs)]=PV.cert (tms d.fs) d.ps d.n (tms d.cs):=ge
 rw[he',ge']
 obtain⟨q1,q2,q3,q4⟩:=Qnm f4 fl4
 obtain⟨r1,r2,r3,r4⟩:=Qnm c4 cl4
 obtain⟨t1,t2,t3,t4⟩:=Qnm g4 gl4
 obtain⟨u1,u2,u3,u4⟩:=Qnm e4 el4
 obtain⟨fs,ps,n,ds⟩:=c
 obtain⟨fs2,ps2,n2,ds2⟩:=d
 simp only at *
 generalize tms fs=F at *
 generalize tms ds=D at *
 generalize tms fs2=F2 at *
 generalize tms ds2=D2 at *
 have hsp:=Q3s (ps:=ps) fun x hx=>(hpi x hx).2
 have hm:=Qv9 hl hF (by omega) c4 (by omega) (by omega)
 obtain⟨gs,qs,es,hR⟩:=Qus _ (i:=0) hm (Nat.le_refl _)
 obtain⟨j',hm2⟩:=hR.mn hm
 have hj:=hm2.s
 have k1:Qgk gs:=⟨fun f h=>Qks (hm2.f f h).1,by have:=hm2.fl;omega⟩
 have k2:=Q9f hm2.c (by omega) hm2.cl
 have k3:qs.length<2^40:=by have:=hm2.fl;have:=hm2.l;omega
 have c1:=Qnk (n:=n) hl hF (by omega) c4 (by omega) (by omega) hR
 have c2:=Qwa (n:=n) hl hF (by omega) c4 (by omega) (by omega) hR
 have d1:=Qms (n:=n) (n':=n) k1 k1 k2 k2 k3 k3
 have d2:=Qmr (ps:=ps) (ps':=ps2) (n:=n) (n':=n2) q3 t3 r3 u3 (by omega) (by omega)
 have d3:=Qms (ps:=ps) (ps':=ps2) (n:=n) (n':=n2) q3 t3 r3 u3 (by omega) (by omega)
 have d4:=Qmr (ps:=ps) (ps':=ps) (n:=n) (n':=n) q3 q3 r3 r3 (by omega) (by omega)
 rw[Qr3]at d1 d4
 generalize Qda F ps n D F2 ps2 n2 D2=b at *
 simp+decide (disch:=first|exact D0|fail) only[go_sem,↓reduceIte]
 refine Qa hP c1 rfl rfl rfl ?_
 simp+decide (disch:=first|exact D0|fail) only[go_sem,↓reduceIte]
 refine Qa hP c2 rfl rfl rfl ?_
 simp+decide (disch:=first|exact D0|fail) only[go_sem,↓reduceIte]
 refine Qa hP d1 rfl rfl rfl ?_
 simp+decide (disch:=first|exact D0|fail) only[go_sem,↓reduceIte]
 refine Qa hP d2 rfl rfl rfl ?_
 simp+decide (disch:=first|exact D0|fail) only[go_sem,↓reduceIte]
 refine Qa hP d3 rfl rfl rfl ?_
 simp+decide (disch:=first|omega|rfl|(simp+decide only[go_sem,↓reduceIte,beq_self_eq_true]<;>rfl)|fail) only[go_sem,↓reduceIte,beq_self_eq_true]
 refine Qa hP d4 rfl rfl rfl ?_
 simp+decide (disch:=first|exact D0|fail) only[go_sem,↓reduceIte]
 refine Qa hP Qil rfl rfl rfl ?_
 simp+decide (disch:=first|exact D0|fail) only[go_sem,↓reduceIte]
 exact Qc rfl rfl
end Go.Proofs.YtonfajmchebkeaaGreat
namespace Go.Proofs.YtonfajmchebkeaaGreat
open Go Go.FW
set_option linter.unusedSimpArgs false
set_option linter.unusedVariables false
set_option maxRecDepth 100000
end Go.Proofs.YtonfajmchebkeaaGreat
namespace Go.FW
open Go
set_option maxRecDepth 100000
end Go.FW
