/- Part 12 of the proof of IdealCancels: G12, G13, G14, L2, G15, U11, FwWK. Own lemmas; no conditions. -/
import Derived.Test.YtonfajmchebkeaaGreatIdealCancelsPart11
set_option linter.unusedSimpArgs false
set_option linter.unnecessarySimpa false
set_option linter.unusedVariables false
namespace Go.Proofs.YtonfajmchebkeaaGreat
open Go Go.FW
set_option linter.unusedSimpArgs false
set_option linter.unusedVariables false
set_option maxRecDepth 100000
theorem Q8r{v:Nat}(hv:v<64):Qe Tryz.prog 73 [.int .i64 v] (· =PV.poly (Qaa v)):=by
 refine Qf Qi Tryz.func73 rfl Qam3 (by simp[c73]) fun C hP=> ?_;simp only[c73,Zo,Zg,Zm,Zc,Zf,Zl,Zh,Zs,Zi,Zb,Zk,Zn,Zu,Zq,Zr,Zz]
 simp+decide (disch:=first|exact D0|fail) only[go_sem,↓reduceIte]
 refine Qa hP (Q1s hv) rfl rfl rfl ?_
 simp+decide (disch:=first|exact D0|fail) only[go_sem,↓reduceIte]
 exact Qc rfl rfl
theorem Q45:Qe Tryz.prog 74 [] (· =PV.poly (Qcb 1)):=by
 have hone:=Qy6
 refine Qf Qi Tryz.func74 rfl Qam4 (by simp[c74]) fun C hP=> ?_;simp only[c74,Zo,Zg,Zm,Zc,Zf,Zl,Zh,Zs,Zi,Zb,Zk,Zn,Zu,Zq,Zr,Zz]
 simp+decide (disch:=first|exact D0|fail) only[go_sem,↓reduceIte]
 refine Qa hP Qana rfl rfl rfl ?_
 simp+decide (disch:=first|exact D0|fail) only[go_sem,↓reduceIte]
 refine Qa hP (Q4r (k:=4) (by omega) (by omega)) rfl rfl rfl ?_
 simp+decide (disch:=first|exact D0|fail) only[go_sem,↓reduceIte]
 exact Qc rfl rfl
theorem Qm8{p:List Tm}(h:Sm4 p):PB 1073741824 1048576 p/\p.length<=8589934592:=⟨h.b.mono (by omega) (by omega),by have:=h.l;omega⟩
theorem Qt7:Qe Tryz.prog 30 [] (· = .bool true):=by
 have s0:Sm4 (Qaa 0):=Qm7 (by decide+kernel)
 have s1:Sm4 (Qaa 1):=Qm7 (by decide+kernel)
 have s2:Sm4 (Qcb 1):=Qm7 (by decide+kernel)
 have s3:Sm4 (Qag (Qaa 0) (Qaa 0)):=Qm7 (by decide+kernel)
 have s4:Sm4 (Qag (Qaa 0) (Qaa 1)):=Qm7 (by decide+kernel)
 have s5:Sm4 (Q3 (Qag (Qaa 0) (Qaa 1)) (Qaa 0)):=Qm7 (by decide+kernel)
 have n0:Qaa 0≠[]:=by decide+kernel
 have hv0:Qe Tryz.prog 73 [.int .i64 0] (· =PV.poly (Qaa 0)):=Q8r (v:=0) (by omega)
 have hv1:Qe Tryz.prog 73 [.int .i64 1] (· =PV.poly (Qaa 1)):=Q8r (v:=1) (by omega)
 have hm0:=Qaet (m:=4) (P:=Qaa 0) (q:=Qaa 0) ⟨s0.sml.z.mono (by omega) (by omega) (by omega),s0.n,by have:=s0.l;omega⟩ s0.sml (by omega)
 have hm1:=Qaet (m:=4) (P:=Qaa 0) (q:=Qaa 1) ⟨s0.sml.z.mono (by omega) (by omega) (by omega),s0.n,by have:=s0.l;omega⟩ s1.sml (by omega)
 have hcb:=Qm4 (cs:=[Qaa 1,Qaa 0]) (ls:=[Qaa 0,Qcb 1]) (by simp;exact⟨s1.sml.big,s0.sml.big⟩) (by simp;exact⟨s0.sml,s2.sml⟩) (by simp) (by simp)
 have hpr:=Qm5 (fs:=[Qaa 0,Qaa 1]) (ps:=[2,0]) (by simp;exact⟨s0.sml,s1.sml⟩) (by simp) (by simp)
 have hck:=fun(g:List Tm) (hg:Sml g)=>Q0f (fs:=[Qaa 0]) (ps:=[1]) (n:=1) (cs:=[Qcb 1]) (hs:=[Qag (Qaa 0) (Qaa 1)]) (g:=g) (by simp;exact s0.sml) (by simp) (by simp) (by simp;exact s2.sml.big) (by simp) (by simp;exact s4.sml) (by simp) hg
 have hc1:=hck (Qaa 1) s1.sml
 have hc2:=hck (Qaa 0) s0.sml
 have hmn:=Qvk (fs:=[Qaa 0]) (ps:=[2]) (n:=1) (cs:=[Qag (Qaa 0) (Qaa 0),Qag (Qaa 0) (Qaa 1)]) rfl (by simp;exact⟨s0,n0,by omega,by omega⟩) (by simp) (by simp;exact⟨s3,s4⟩) (by simp) (by simp[Qfd]) Qant
 have had:=Qgx (p:=Qag (Qaa 0) (Qaa 1)) (q:=Qaa 0) s4.b s0.b (by omega) (by omega) (by have:=s4.l;omega) (by have:=s0.l;omega)
 have he1:=Qjs s5.b s5.b (by omega) (by omega) (by have:=s5.l;omega) (by have:=s5.l;omega)
 have he2:=Qjs s3.b s3.b (by omega) (by omega) (by have:=s3.l;omega) (by have:=s3.l;omega)
 have hsl:=Qoi (a:=[Qaa 0,Qaa 1]) (b:=[Qaa 0,Qaa 1]) ⟨by simp;exact⟨Qm8 s0,Qm8 s1⟩,by simp⟩ ⟨by simp;exact⟨Qm8 s0,Qm8 s1⟩,by simp⟩
 rw[Qajz]at hcb
 rw[Qaj0]at hpr
 rw[Qaox]at hc1
 rw[Qaoy]at hc2
 rw[decide_eq_true rfl]at he1 he2 hsl
 have hone:=Q45
 clear s0 s1 s2 s3 s4 s5 n0 hck
 generalize Q3 (Qag (Qaa 0) (Qaa 1)) (Qaa 0)=A at *
 generalize Qag (Qaa 0) (Qaa 0)=M0 at *
 generalize Qag (Qaa 0) (Qaa 1)=M1 at *
 generalize Qcb 1=O at *
 generalize Qaa 0=V0 at *
 generalize Qaa 1=V1 at *
 refine Qf Qi Tryz.func30 rfl Qam2 (by simp[c30]) fun C hP=> ?_;simp only[c30,Zo,Zg,Zm,Zc,Zf,Zl,Zh,Zs,Zi,Zb,Zk,Zn,Zu,Zq,Zr,Zz]
 simp+decide (disch:=first|exact D0|fail) only[go_sem,↓reduceIte]
 refine Qa hP hv0 rfl rfl rfl ?_
 simp+decide (disch:=first|exact D0|fail) only[go_sem,↓reduceIte]
 refine Qa hP hone rfl rfl rfl ?_
 simp+decide (disch:=first|exact D0|fail) only[go_sem,↓reduceIte]
 rw[Qxo (Qcd.own (m:=1) (e:=1) (ty:=51) (xs:=[PV.poly V0]) (fz:=false) T0 rfl) (Qcd.own (m:=1) (e:=1) (ty:=3) (xs:=[PV.int .i64 1]) (fz:=false) T0 rfl) (Qcd.flat rfl) (Qcd.own (m:=1) (e:=1) (ty:=51) (xs:=[PV.poly O]) (fz:=false) T0 rfl)]
 refine⟨⟨rfl,by simp⟩,⟨rfl,by simp⟩,⟨rfl,by simp⟩,⟨rfl,by simp⟩,?_⟩
 simp+decide (disch:=first|exact E0|fail) only[go_sem,↓reduceIte,Q5,List.contains_cons,List.contains_nil,List.flatMap_cons,List.flatMap_nil,List.append_nil]
 refine Qa hP hv0 rfl rfl rfl ?_
 simp+decide (disch:=first|exact D0|fail) only[go_sem,↓reduceIte]
 refine Qa hP hv1 rfl rfl rfl ?_
 simp+decide (disch:=first|exact D0|fail) only[go_sem,↓reduceIte]
 refine Qa hP hm1 rfl rfl rfl ?_
 simp+decide (disch:=first|exact D0|fail) only[go_sem,↓reduceIte]
 refine Qa hP hv1 rfl rfl rfl ?_
 simp+decide (disch:=first|exact D0|fail) only[go_sem,↓reduceIte]
 refine Qa hP hv0 rfl rfl rfl ?_
 simp+decide (disch:=first|exact D0|fail) only[go_sem,↓reduceIte]
 refine Qa hP hv0 rfl rfl rfl ?_
 simp+decide (disch:=first|exact D0|fail) only[go_sem,↓reduceIte]
 refine Qa hP hone rfl rfl rfl ?_
 simp+decide (disch:=first|exact D0|fail) only[go_sem,↓reduceIte]
 refine Qb1 hP hcb Ur0 rfl ?_
 simp+decide (disch:=first|exact D0|fail) only[go_sem,↓reduceIte]
 refine Qa hP hv0 rfl rfl rfl ?_
 simp+decide (disch:=first|exact D0|fail) only[go_sem,↓reduceIte]
 refine Qa hP hv1 rfl rfl rfl ?_
 simp+decide (disch:=first|exact D0|fail) only[go_sem,↓reduceIte]
 refine Qb1 hP hpr Ur0 rfl ?_
 simp+decide (disch:=first|exact D0|fail) only[go_sem,↓reduceIte]
 refine Qa hP hv0 rfl rfl rfl ?_
 simp+decide (disch:=first|exact D0|fail) only[go_sem,↓reduceIte]
 refine Qa hP hv0 rfl rfl rfl ?_
 simp+decide (disch:=first|exact D0|fail) only[go_sem,↓reduceIte]
 refine Qa hP hv0 rfl rfl rfl ?_
 simp+decide (disch:=first|exact D0|fail) only[go_sem,↓reduceIte]
 refine Qa hP hm0 rfl rfl rfl ?_
 simp+decide (disch:=first|exact D0|fail) only[go_sem,↓reduceIte]
 refine Qa hP hv0 rfl rfl rfl ?_
 simp+decide (disch:=first|exact D0|fail) only[go_sem,↓reduceIte]
 refine Qa hP hv1 rfl rfl rfl ?_
 simp+decide (disch:=first|exact D0|fail) only[go_sem,↓reduceIte]
 refine Qa hP hm1 rfl rfl rfl ?_
 simp+decide (disch:=first|exact D0|fail) only[go_sem,↓reduceIte]
 rw[Qxo (Qcd.own (m:=1) (e:=1) (ty:=51) (xs:=[PV.poly V0]) (fz:=false) T0 rfl) (Qcd.own (m:=1) (e:=1) (ty:=3) (xs:=[PV.int .i64 2]) (fz:=false) T0 rfl) (Qcd.flat rfl) (Qcd.own (m:=2) (e:=1) (ty:=51) (xs:=[PV.poly M0,PV.poly M1]) (fz:=false) T0 rfl)]
 refine⟨⟨rfl,by simp⟩,⟨rfl,by simp⟩,⟨rfl,by simp⟩,⟨rfl,by simp⟩,?_⟩
 simp+decide (disch:=first|exact E0|fail) only[go_sem,↓reduceIte,Q5,List.contains_cons,List.contains_nil,List.flatMap_cons,List.flatMap_nil,List.append_nil]
 refine Qa hP hmn rfl rfl rfl ?_
 simp+decide (disch:=first|exact E0|fail) only[go_sem,↓reduceIte,Q5,List.contains_cons,List.contains_nil,List.flatMap_cons,List.flatMap_nil,List.append_nil]
 rw[Qaed (ty:=51) (xs:=[PV.poly M1]) (fz:=false) U0 (by omega)]
 simp+decide (disch:=first|exact E0|fail) only[go_sem,↓reduceIte,Q5,List.contains_cons,List.contains_nil,List.flatMap_cons,List.flatMap_nil,List.append_nil]
 refine Qa hP hv0 rfl rfl rfl ?_
 simp+decide (disch:=first|exact E0|fail) only[go_sem,↓reduceIte,Q5,List.contains_cons,List.contains_nil,List.flatMap_cons,List.flatMap_nil,List.append_nil]
 refine Qa hP had rfl rfl rfl ?_
 simp+decide (disch:=first|exact E0|fail) only[go_sem,↓reduceIte,Q5,List.contains_cons,List.contains_nil,List.flatMap_cons,List.flatMap_nil,List.append_nil]
 refine Qa hP he1 rfl rfl rfl ?_
 simp+decide (disch:=first|exact E0|fail) only[go_sem,↓reduceIte,Q5,List.contains_cons,List.contains_nil,List.flatMap_cons,List.flatMap_nil,List.append_nil]
 refine Qa hP hv0 rfl rfl rfl ?_
 simp+decide (disch:=first|exact E0|fail) only[go_sem,↓reduceIte,Q5,List.contains_cons,List.contains_nil,List.flatMap_cons,List.flatMap_nil,List.append_nil]
 refine Qa hP hv0 rfl rfl rfl ?_
 simp+decide (disch:=first|exact E0|fail) only[go_sem,↓reduceIte,Q5,List.contains_cons,List.contains_nil,List.flatMap_cons,List.flatMap_nil,List.append_nil]
 refine Qa hP hm0 rfl rfl rfl ?_
 simp+decide (disch:=first|exact E0|fail) only[go_sem,↓reduceIte,Q5,List.contains_cons,List.contains_nil,List.flatMap_cons,List.flatMap_nil,List.append_nil]
 refine Qa hP he2 rfl rfl rfl ?_
 simp+decide (disch:=first|exact E0|fail) only[go_sem,↓reduceIte,Q5,List.contains_cons,List.contains_nil,List.flatMap_cons,List.flatMap_nil,List.append_nil]
 refine Qa hP hv1 rfl rfl rfl ?_
 simp+decide (disch:=first|exact E0|fail) only[go_sem,↓reduceIte,Q5,List.contains_cons,List.contains_nil,List.flatMap_cons,List.flatMap_nil,List.append_nil]
 refine Qb1 hP hc1 Ur0 rfl ?_
 simp+decide (disch:=first|exact E0|fail) only[go_sem,↓reduceIte,Q5,List.contains_cons,List.contains_nil,List.flatMap_cons,List.flatMap_nil,List.append_nil]
 refine Qa hP hv0 rfl rfl rfl ?_
 simp+decide (disch:=first|exact E0|fail) only[go_sem,↓reduceIte,Q5,List.contains_cons,List.contains_nil,List.flatMap_cons,List.flatMap_nil,List.append_nil]
 refine Qb1 hP hc2 Ur0 rfl ?_
 simp+decide (disch:=first|exact E0|fail) only[go_sem,↓reduceIte,Q5,List.contains_cons,List.contains_nil,List.flatMap_cons,List.flatMap_nil,List.append_nil]
 refine Qa hP hv0 rfl rfl rfl ?_
 simp+decide (disch:=first|exact E0|fail) only[go_sem,↓reduceIte,Q5,List.contains_cons,List.contains_nil,List.flatMap_cons,List.flatMap_nil,List.append_nil]
 refine Qa hP hv1 rfl rfl rfl ?_
 simp+decide (disch:=first|exact E0|fail) only[go_sem,↓reduceIte,Q5,List.contains_cons,List.contains_nil,List.flatMap_cons,List.flatMap_nil,List.append_nil]
 refine Qb1 hP hsl Ur0 rfl ?_
 simp+decide (disch:=first|exact E0|fail) only[go_sem,↓reduceIte,Q5,List.contains_cons,List.contains_nil,List.flatMap_cons,List.flatMap_nil,List.append_nil]
 exact Qc rfl rfl
end Go.Proofs.YtonfajmchebkeaaGreat
namespace Go.Proofs.YtonfajmchebkeaaGreat
open Go Go.FW
set_option linter.unusedSimpArgs false
set_option linter.unusedVariables false
set_option maxRecDepth 100000
theorem Qwu{l:List RTm}{k:Nat}(hb:∀t∈l,RB k t)(h:Qh9 l=true):PV.rpoly l=PV.poly (l.map RTm.tm)/\Sm4 (l.map RTm.tm):=by
 simp only[Qh9,Bool.and_eq_true,decide_eq_true_eq,List.all_eq_true]at h
 obtain⟨h1,h2,h3⟩:=h
 obtain⟨e1,e2⟩:=Q61 hb h3
 refine⟨e1,e2.nrm,fun t ht=> ?_,fun t ht=> ?_,by simpa using h1⟩
 ·obtain⟨x,hx,rfl⟩:=List.mem_map.1 ht
  have hs:=h2 x hx
  simp only[smK,Bool.and_eq_true,decide_eq_true_eq,List.all_eq_true]at hs
  have hv:=e2.t _ ht
  have hr:=(show Raw 2 x.n x.a x.d from⟨(hb x hx).r.1,(hb x hx).r.2.1,hs.2.1,hs.2.2.1,by omega⟩).rs
  have hm:=MB.ofOk hv.m
  refine⟨?_,⟨hm.len,hm.lo,fun y hy=>hs.2.2.2 y hy⟩,Qq1 hv.m⟩
  show rs (rv x.n x.a x.d)+1<=3
  omega
 ·obtain⟨x,hx,rfl⟩:=List.mem_map.1 ht
  have hs:=h2 x hx
  simp only[smK,Bool.and_eq_true,decide_eq_true_eq,List.all_eq_true]at hs
  exact hs.1
def tms(ls:List (List RTm)):List (List Tm):=ls.map fun l=>l.map RTm.tm
theorem Qwv{ls:List (List RTm)}{k:Nat}(hb:∀l∈ls,(∀t∈l,RB k t)/\l.length<2^40)(h:Qmd ls=true):PV.sl 1 (ls.map PV.rpoly)=PV.polys (tms ls)/\(∀f∈tms ls,Sm4 f)/\(tms ls).length<=4:=by
 simp only[Qmd,Bool.and_eq_true,decide_eq_true_eq,List.all_eq_true]at h
 refine⟨?_,fun f hf=> ?_,by unfold tms;rw[List.length_map];exact h.1⟩
 ·unfold tms PV.polys
  rw[List.map_map]
  exact congrArg _ (List.map_congr_left fun l hl=>(Qwu (hb l hl).1 (h.2 l hl)).1)
 ·obtain⟨l,hl,rfl⟩:=List.mem_map.1 hf
  exact(Qwu (hb l hl).1 (h.2 l hl)).2
theorem Qww{c:Qf1}{k:Nat}(hb:RC k c)(h:Qoh c=true):PV.rcert c=PV.cert (tms c.fs) c.ps c.n (tms c.cs)/\(∀f∈tms c.fs,Sm4 f)/\(tms c.fs).length<=4/\(∀f∈tms c.cs,Sm4 f)/\(tms c.cs).length<=4/\c.ps.length<=6:=by
 simp only[Qoh,Bool.and_eq_true,decide_eq_true_eq]at h
 obtain⟨h1,h2,h3⟩:=h
 obtain⟨a1,a2,a3⟩:=Qwv hb.f h1
 obtain⟨b1,b2,b3⟩:=Qwv hb.g h2
 refine⟨?_,a2,a3,b2,b3,h3⟩
 unfold PV.rcert
 rw[a1,b1]
end Go.Proofs.YtonfajmchebkeaaGreat
namespace Go.Proofs.YtonfajmchebkeaaGreat
open Go Go.FW
set_option linter.unusedSimpArgs false
set_option linter.unusedVariables false
set_option maxRecDepth 100000
theorem Qaj1{l:List (List Tm)}(h:∀f∈l,Sm4 f)(hl:l.length<=4):(∀f∈l,Sml f)/\(∀f∈l,Big f)/\Qgt l/\∀f∈l,f.length<2^40:=
 ⟨fun f hf=>(h f hf).sml,fun f hf=>(h f hf).sml.big,⟨fun f hf=>Qm8 (h f hf),by omega⟩,fun f hf=>by have:=(h f hf).l;omega⟩
end Go.Proofs.YtonfajmchebkeaaGreat
namespace Go.Proofs.YtonfajmchebkeaaGreat
open Go Go.FW Go.ChangeShapes Go.WideShapes Go.ChangeAt Go.RowKit
set_option linter.unusedSimpArgs false
set_option linter.unusedVariables false
set_option maxRecDepth 100000
variable {H : Type} {enc : TypeId × Value -> H}
def Q46(l:List Int):Prop:=l.length<=1048576/\∀x∈l,-9223372036854775808<=x/\x<=9223372036854775807
theorem Qaj2:Rd enc 26 fun ps=>∃l:List Int,ps=[PV.mono l]/\Q46 l:=by
 refine(Qgv (α:=Int) (f:=fun(x:Int)=> .int .i64 x) Qbg Tryz.underlying26 (by rw[Qjd];omega) (Qlq Tryz.underlying3)).mono ?_
 rintro ps ⟨l,rfl,h1,h2⟩
 exact⟨l,by rw[Qjd],h1,h2⟩
def Qxq(c:Qf1):Prop:=Qmv c.fs/\Q46 c.ps/\(-9223372036854775808<=c.n/\c.n<=9223372036854775807)/\Qmv c.cs
theorem Qaj3:Rd enc 79 fun ps=>∃c:Qf1,ps=(PV.rcert c).cells/\Qxq c:=by
 refine(Qzs (Qs:=[fun ps=>∃ls:List (List RTm),ps=[.sl 1 (ls.map PV.rpoly)]/\Qmv ls,fun ps=>∃l:List Int,ps=[PV.mono l]/\Q46 l,fun ps=>∃n:Int,ps=[.int .i64 n]/\ -9223372036854775808<=n/\n<=9223372036854775807,fun ps=>∃ls:List (List RTm),ps=[.sl 1 (ls.map PV.rpoly)]/\Qmv ls]) Qbg Tryz.underlying79 (by kernel_rfl) ⟨rfl,Qzq,by kernel_rfl,Qaj2,by kernel_rfl,Qlq Tryz.underlying3,by kernel_rfl,Qzq,trivial⟩).mono ?_
 rintro ps ⟨p,q,rfl,⟨f,rfl,h1⟩,p2,q2,rfl,⟨l,rfl,h2⟩,p3,q3,rfl,⟨n,rfl,h3⟩,p4,q4,rfl,⟨c,rfl,h4⟩,rfl⟩
 exact⟨⟨f,l,n,c⟩,rfl,h1,h2,h3,h4⟩
variable {w : World} {base : Nat} {spare : Nat -> Bool} {held : Bool} {r : Reach} {b0 : Nat} {v : Value} {d : DataW H} {ps : List MemPlace}
theorem Qaej(Qc0:Value.okWide Tryz.prog w r b0 79 v)(hd:DataW.Trod enc Tryz.prog w base spare held 79 v d ps)(hn:Rows.uptoBulk d<=1048576):∃c,Qaj w Qbc (PV.rcert c) v/\Qxq c:=by
 obtain⟨p,⟨c,rfl,h⟩,h2⟩:=Q31 Tryz.underlying79 Qc0 Qaj3 hd hn
 exact⟨c,h2,h⟩
theorem Qxr{ls:List (List RTm)}(h:Qmv ls):(∀l∈ls,(∀t∈l,RB 1048576 t)/\l.length<2^40)/\ls.length<2^40:=⟨fun l hl=>⟨fun t ht=>((h.2 l hl).2 t ht).1,by have:=(h.2 l hl).1;omega⟩,by have:=h.1;omega⟩
theorem Qaoz{c:Qf1}(h:Qxq c):RC 1048576 c:=by
 obtain⟨h1,h2,h3,h4⟩:=h
 exact⟨(Qxr h1).1,(Qxr h4).1,(Qxr h1).2,(Qxr h4).2,by have:=h2.1;omega⟩
end Go.Proofs.YtonfajmchebkeaaGreat
namespace Go.Proofs.YtonfajmchebkeaaGreat
open Go Go.FW
set_option linter.unusedSimpArgs false
set_option linter.unusedVariables false
set_option maxRecDepth 100000
theorem Qql(ls:List (List RTm)):(tms ls).length=ls.length:=List.length_map _
theorem Q47{c:Qf1}{k:Nat}(hb:RC k c)(h:Qi3 c=true):Qoh c=true/\c.ps.length=(tms c.fs).length/\(∀f∈tms c.fs,f≠[])/\(∀x∈c.ps,0<=x/\x<=4)/\∀x∈(tms c.fs).zip c.ps,Qqk x:=by
 simp only[Qi3,Bool.and_eq_true,decide_eq_true_eq,List.all_eq_true,List.mem_range]at h
 obtain⟨h1,h2,h3⟩:=h
 obtain⟨_,q1,_⟩:=Qww hb h1
 have key:∀i (hi:i<c.ps.length) (hf:i<(tms c.fs).length),0<=c.ps[i]/\c.ps[i]<=4/\(tms c.fs)[i]≠[]:=fun i hi hf=>by
  have h4:=h3 i hi
  have hif:i<c.fs.length:=by rwa[Qql]at hf
  have e2:c.ps.getD i 0=c.ps[i]:=by simp[hi]
  have e3:c.fs.getD i []=c.fs[i]:=by simp[hif]
  simp only[Qlx,decide_eq_true_eq,e2,e3]at h4
  refine⟨h4.1,h4.2.1,fun e=>h4.2.2 ?_⟩
  have e4:(tms c.fs)[i]=c.fs[i].map RTm.tm:=by simp[tms]
  rw[e4]at e
  exact List.map_eq_nil_iff.1 e
 refine⟨h1,by rw[Qql];exact h2,fun f hf=> ?_,fun x hx=> ?_,fun x hx=> ?_⟩
 ·obtain⟨i,hi,rfl⟩:=List.getElem_of_mem hf
  exact(key i (by rw[h2];rwa[Qql]at hi) hi).2.2
 ·obtain⟨i,hi,rfl⟩:=List.getElem_of_mem hx
  have:=key i hi (by rw[Qql];omega)
  exact⟨this.1,this.2.1⟩
 ·obtain⟨i,hi,rfl⟩:=List.getElem_of_mem hx
  have hz:((tms c.fs).zip c.ps).length=min (tms c.fs).length c.ps.length:=List.length_zip
  rw[List.getElem_zip]
  have:=key i (by omega) (by omega)
  exact⟨q1 _ (List.getElem_mem _),this.2.2,this.1,this.2.1⟩
theorem Qanu{l:List (List Tm)}{j:Nat}(h:∀c∈l,Cf j c)(hj:j<=20)(hl:l.length<=8):Qgt l:=⟨fun c hc=>(h c hc).pb hj,by omega⟩
theorem Q1t(fs:List (List Tm))(ps:List Int)(n:Int)(cs:List (List Tm)):Qde fs ps n cs fs ps n cs=true:=decide_eq_true ⟨rfl,rfl,rfl,rfl⟩
theorem Qqm {c :Qf1} {i:Int} {k:Nat} (hc:RC k c) (hk1:1<=k) (hk:k<2^36):Qe Tryz.prog 11 [PV.rcert c,.int .i64 i] (· = .bool true):=by
  have hfa:=Q74 hc hk1 hk
  refine Qf Qi Tryz.func11 rfl Qam5 (by simp[c11]) fun C hP=> ?_;simp only[c11,Zo,Zg,Zm,Zc,Zf,Zl,Zh,Zs,Zi,Zb,Zk,Zn,Zu,Zq,Zr,Zz]
  simp+decide (disch:=first|exact D0|fail) only[go_sem,↓reduceIte]
  refine Qa hP hfa rfl rfl rfl ?_
  cases h1:Qi3 c
  · simp+decide (disch:=first|exact D0|fail) only[go_sem,↓reduceIte]
    refine Qa hP Qt7 rfl rfl rfl ?_
    simp+decide (disch:=first|exact D0|fail) only[go_sem,↓reduceIte]
    exact Qc rfl rfl
  obtain⟨h2,hl,hne,hpi,hF⟩:=Q47 hc h1
  obtain⟨he,f4,fl4,c4,cl4,p6⟩:=Qww hc h2
  have he':PV.agg [PV.sl 1 (List.map PV.rpoly c.fs),PV.mono c.ps,PV.int .i64 c.n,PV.sl 1 (List.map PV.rpoly c.cs)]=PV.cert (tms c.fs) c.ps c.n (tms c.cs):=he
  rw[he']
  obtain⟨q1,q2,q3,q4⟩:=Qaj1 f4 fl4
  obtain⟨fs,ps,n,ds⟩:=c
  simp only at *
  generalize tms fs=F at *
  generalize tms ds=D at *
  have c1:=Qg1 (fs:=F) (ps:=ps) (cs:=D) (n:=n) (i:=i) (j:=0) (fun f h=>⟨f4 f h,hne f h⟩) (fun c h=>(c4 c h).cf) (by omega) (by omega) (by omega) (by omega) (fun x h=>by have:=hpi x h;omega)
  have c2:=Qxg (fs:=F) (ps:=ps) (cs:=D) (n:=n) (i:=i) (j:=0) (fun f h=>⟨f4 f h,hne f h⟩) (fun c h=>(c4 c h).cf) (by omega) (by omega) (by omega) (by omega) (fun x h=>by have:=hpi x h;omega)
  have key : ∃ gs qs m es b,PV.cancel F n (cancelO F ps D i)= .tup [PV.cert gs qs m es,.bool b]/\Qgt gs/\Qgt es/\qs.length<2^40:=by
    cases hr:cancelO F ps D i with
    |none=>exact⟨[],[],0,[],false,rfl,⟨by simp,by simp⟩,⟨by simp,by simp⟩,by simp⟩
    | some r=>
      obtain⟨qs,es⟩:=r
      refine⟨F,qs,n,es,true,rfl,q3,?_,?_⟩
      all_goals
        unfold cancelO at hr
        split at hr
        · rename_i hcond
          obtain⟨l,hl1,hl2⟩:=Option.map_eq_some_iff.1 hr
          cases hl2
          have hm:i.toNat<F.length:=hcond.2.1
          have eF:F.getD i.toNat []=F[i.toNat]:=by simp[hm]
          first
            | (rw[eF]at hl1
               exact Qanu (Q0i (f4 _ (List.getElem_mem hm)) (hne _ (List.getElem_mem hm)) (by omega) (fun c h=>(c4 c h).cf) hl1) (by omega) (by rw[Qvg hl1];omega))
            |(rw[List.length_set];omega)
        · cases hr
  obtain⟨gs,qs,m,es,b,e0,k1,k2,k3⟩:=key
  rw[e0]at c1 c2
  have d1:=Q1m (n:=m) (n':=m) k1 k1 k2 k2 k3 k3
  have d2:=Q1l (n:=m) (n':=m) k1 k1 k2 k2 k3 k3
  rw[Q1t]at d1 d2
  simp+decide (disch:=first|exact D0|fail) only[go_sem,↓reduceIte]
  refine Qa hP c1 rfl rfl rfl ?_
  simp+decide (disch:=first|exact D0|fail) only[go_sem,↓reduceIte]
  refine Qa hP c2 rfl rfl rfl ?_
  simp+decide (disch:=first|omega|rfl|(simp+decide only[go_sem,↓reduceIte,beq_self_eq_true]<;>rfl)|fail) only[go_sem,↓reduceIte,beq_self_eq_true]
  refine Qa hP d1 rfl rfl rfl ?_
  simp+decide (disch:=first|exact D0|fail) only[go_sem,↓reduceIte]
  refine Qa hP d2 rfl rfl rfl ?_
  simp+decide (disch:=first|exact D0|fail) only[go_sem,↓reduceIte]
  refine Qa hP Qt7 rfl rfl rfl ?_
  simp+decide (disch:=first|exact D0|fail) only[go_sem,↓reduceIte]
  exact Qc rfl rfl
end Go.Proofs.YtonfajmchebkeaaGreat
namespace Go.Proofs.YtonfajmchebkeaaGreat
open Go Go.FW
set_option linter.unusedSimpArgs false
set_option linter.unusedVariables false
set_option maxRecDepth 100000
end Go.Proofs.YtonfajmchebkeaaGreat
namespace Go.FW
open Go
set_option maxRecDepth 100000
end Go.FW
