/- Part 12 of the proof of IdealSound: G12, G13, G14, L2, G15, U11, FwWK. Own lemmas; no conditions. -/
import Derived.Test.YtonfajmchebkeaaGreatIdealSoundPart11
set_option linter.unusedSimpArgs false
set_option linter.unnecessarySimpa false
set_option linter.unusedVariables false
namespace Go.Proofs.YtonfajmchebkeaaGreat
open Go Go.FW
set_option linter.unusedSimpArgs false
set_option linter.unusedVariables false
set_option maxRecDepth 100000
theorem Q8s{v:Nat}(hv:v<64):Qd Tryz.prog 73 [.int .i64 v] (· =PV.poly (Q8 v)):=by
 refine Qf Ql Tryz.func73 rfl Qamc (by simp[c73]) fun C hP=> ?_;simp only[c73,Zo,Zg,Zm,Zc,Zf,Zl,Zh,Zs,Zi,Zb,Zk,Zn,Zu,Zq,Zr,Zz]
 simp+decide (disch:=first|exact D0|fail) only[go_sem,↓reduceIte]
 refine Qa hP (Q1i hv) rfl rfl rfl ?_
 simp+decide (disch:=first|exact D0|fail) only[go_sem,↓reduceIte]
 exact Qc rfl rfl
theorem Q49:Qd Tryz.prog 74 [] (· =PV.poly (Qbj 1)):=by
 have hone:=Qr1
 refine Qf Ql Tryz.func74 rfl Qamd (by simp[c74]) fun C hP=> ?_;simp only[c74,Zo,Zg,Zm,Zc,Zf,Zl,Zh,Zs,Zi,Zb,Zk,Zn,Zu,Zq,Zr,Zz]
 simp+decide (disch:=first|exact D0|fail) only[go_sem,↓reduceIte]
 refine Qa hP Qamm rfl rfl rfl ?_
 simp+decide (disch:=first|exact D0|fail) only[go_sem,↓reduceIte]
 refine Qa hP (Q4u (k:=4) (by omega) (by omega)) rfl rfl rfl ?_
 simp+decide (disch:=first|exact D0|fail) only[go_sem,↓reduceIte]
 exact Qc rfl rfl
theorem Qm1{p:List Tm}(h:Sm4 p):PB 1073741824 1048576 p/\p.length<=8589934592:=⟨h.b.mono (by omega) (by omega),by have:=h.l;omega⟩
theorem Qdv:Qd Tryz.prog 30 [] (· = .bool true):=by
 have s0:Sm4 (Q8 0):=Qm0 (by decide+kernel)
 have s1:Sm4 (Q8 1):=Qm0 (by decide+kernel)
 have s2:Sm4 (Qbj 1):=Qm0 (by decide+kernel)
 have s3:Sm4 (Qad (Q8 0) (Q8 0)):=Qm0 (by decide+kernel)
 have s4:Sm4 (Qad (Q8 0) (Q8 1)):=Qm0 (by decide+kernel)
 have s5:Sm4 (Qx (Qad (Q8 0) (Q8 1)) (Q8 0)):=Qm0 (by decide+kernel)
 have n0:Q8 0≠[]:=by decide+kernel
 have hv0:Qd Tryz.prog 73 [.int .i64 0] (· =PV.poly (Q8 0)):=Q8s (v:=0) (by omega)
 have hv1:Qd Tryz.prog 73 [.int .i64 1] (· =PV.poly (Q8 1)):=Q8s (v:=1) (by omega)
 have hm0:=Qaei (m:=4) (P:=Q8 0) (q:=Q8 0) ⟨s0.sml.z.mono (by omega) (by omega) (by omega),s0.n,by have:=s0.l;omega⟩ s0.sml (by omega)
 have hm1:=Qaei (m:=4) (P:=Q8 0) (q:=Q8 1) ⟨s0.sml.z.mono (by omega) (by omega) (by omega),s0.n,by have:=s0.l;omega⟩ s1.sml (by omega)
 have hcb:=Qmx (cs:=[Q8 1,Q8 0]) (ls:=[Q8 0,Qbj 1]) (by simp;exact⟨s1.sml.big,s0.sml.big⟩) (by simp;exact⟨s0.sml,s2.sml⟩) (by simp) (by simp)
 have hpr:=Qmy (fs:=[Q8 0,Q8 1]) (ps:=[2,0]) (by simp;exact⟨s0.sml,s1.sml⟩) (by simp) (by simp)
 have hck:=fun(g:List Tm) (hg:Sml g)=>Qpw (fs:=[Q8 0]) (ps:=[1]) (n:=1) (cs:=[Qbj 1]) (hs:=[Qad (Q8 0) (Q8 1)]) (g:=g) (by simp;exact s0.sml) (by simp) (by simp) (by simp;exact s2.sml.big) (by simp) (by simp;exact s4.sml) (by simp) hg
 have hc1:=hck (Q8 1) s1.sml
 have hc2:=hck (Q8 0) s0.sml
 have hmn:=Qvn (fs:=[Q8 0]) (ps:=[2]) (n:=1) (cs:=[Qad (Q8 0) (Q8 0),Qad (Q8 0) (Q8 1)]) rfl (by simp;exact⟨s0,n0,by omega,by omega⟩) (by simp) (by simp;exact⟨s3,s4⟩) (by simp) (by simp[Qe8]) Qam5
 have had:=Qrg (p:=Qad (Q8 0) (Q8 1)) (q:=Q8 0) s4.b s0.b (by omega) (by omega) (by have:=s4.l;omega) (by have:=s0.l;omega)
 have he1:=Qjp s5.b s5.b (by omega) (by omega) (by have:=s5.l;omega) (by have:=s5.l;omega)
 have he2:=Qjp s3.b s3.b (by omega) (by omega) (by have:=s3.l;omega) (by have:=s3.l;omega)
 have hsl:=Q4v (a:=[Q8 0,Q8 1]) (b:=[Q8 0,Q8 1]) ⟨by simp;exact⟨Qm1 s0,Qm1 s1⟩,by simp⟩ ⟨by simp;exact⟨Qm1 s0,Qm1 s1⟩,by simp⟩
 rw[Qajd]at hcb
 rw[Qaje]at hpr
 rw[Qan9]at hc1
 rw[Qaoa]at hc2
 rw[decide_eq_true rfl]at he1 he2 hsl
 have hone:=Q49
 clear s0 s1 s2 s3 s4 s5 n0 hck
 generalize Qx (Qad (Q8 0) (Q8 1)) (Q8 0)=A at *
 generalize Qad (Q8 0) (Q8 0)=M0 at *
 generalize Qad (Q8 0) (Q8 1)=M1 at *
 generalize Qbj 1=O at *
 generalize Q8 0=V0 at *
 generalize Q8 1=V1 at *
 refine Qf Ql Tryz.func30 rfl Qamb (by simp[c30]) fun C hP=> ?_;simp only[c30,Zo,Zg,Zm,Zc,Zf,Zl,Zh,Zs,Zi,Zb,Zk,Zn,Zu,Zq,Zr,Zz]
 simp+decide (disch:=first|exact D0|fail) only[go_sem,↓reduceIte]
 refine Qa hP hv0 rfl rfl rfl ?_
 simp+decide (disch:=first|exact D0|fail) only[go_sem,↓reduceIte]
 refine Qa hP hone rfl rfl rfl ?_
 simp+decide (disch:=first|exact D0|fail) only[go_sem,↓reduceIte]
 rw[Q43 (Qcv.own (m:=1) (e:=1) (ty:=51) (xs:=[PV.poly V0]) (fz:=false) T0 rfl) (Qcv.own (m:=1) (e:=1) (ty:=3) (xs:=[PV.int .i64 1]) (fz:=false) T0 rfl) (Qcv.flat rfl) (Qcv.own (m:=1) (e:=1) (ty:=51) (xs:=[PV.poly O]) (fz:=false) T0 rfl)]
 refine⟨⟨rfl,by simp⟩,⟨rfl,by simp⟩,⟨rfl,by simp⟩,⟨rfl,by simp⟩,?_⟩
 simp+decide (disch:=first|exact E0|fail) only[go_sem,↓reduceIte,Q6,List.contains_cons,List.contains_nil,List.flatMap_cons,List.flatMap_nil,List.append_nil]
 refine Qa hP hv0 rfl rfl rfl ?_
 simp+decide (disch:=first|exact D0|fail) only[go_sem,↓reduceIte]
 refine Qa hP hv1 rfl rfl rfl ?_
 simp+decide (disch:=first|exact D0|fail) only[go_sem,↓reduceIte]
 refine Qa hP hm1 rfl rfl rfl ?_
 simp+decide (disch:=first|exact D0|fail) only[go_sem,↓reduceIte]
 refine Qa hP hv1 rfl rfl rfl ?_
 simp+decide (disch:=first|exact D0|fail) only[go_sem,↓reduceIte]
 refine Qa hP hv0 rfl rfl rfl ?_
 simp+decide (disch:=first|exact D0|fail) only[go_sem,↓reduceIte]
 refine Qa hP hv0 rfl rfl rfl ?_
 simp+decide (disch:=first|exact D0|fail) only[go_sem,↓reduceIte]
 refine Qa hP hone rfl rfl rfl ?_
 simp+decide (disch:=first|exact D0|fail) only[go_sem,↓reduceIte]
 refine Qcd hP hcb Ur0 rfl ?_
 simp+decide (disch:=first|exact D0|fail) only[go_sem,↓reduceIte]
 refine Qa hP hv0 rfl rfl rfl ?_
 simp+decide (disch:=first|exact D0|fail) only[go_sem,↓reduceIte]
 refine Qa hP hv1 rfl rfl rfl ?_
 simp+decide (disch:=first|exact D0|fail) only[go_sem,↓reduceIte]
 refine Qcd hP hpr Ur0 rfl ?_
 simp+decide (disch:=first|exact D0|fail) only[go_sem,↓reduceIte]
 refine Qa hP hv0 rfl rfl rfl ?_
 simp+decide (disch:=first|exact D0|fail) only[go_sem,↓reduceIte]
 refine Qa hP hv0 rfl rfl rfl ?_
 simp+decide (disch:=first|exact D0|fail) only[go_sem,↓reduceIte]
 refine Qa hP hv0 rfl rfl rfl ?_
 simp+decide (disch:=first|exact D0|fail) only[go_sem,↓reduceIte]
 refine Qa hP hm0 rfl rfl rfl ?_
 simp+decide (disch:=first|exact D0|fail) only[go_sem,↓reduceIte]
 refine Qa hP hv0 rfl rfl rfl ?_
 simp+decide (disch:=first|exact D0|fail) only[go_sem,↓reduceIte]
 refine Qa hP hv1 rfl rfl rfl ?_
 simp+decide (disch:=first|exact D0|fail) only[go_sem,↓reduceIte]
 refine Qa hP hm1 rfl rfl rfl ?_
 simp+decide (disch:=first|exact D0|fail) only[go_sem,↓reduceIte]
 rw[Q43 (Qcv.own (m:=1) (e:=1) (ty:=51) (xs:=[PV.poly V0]) (fz:=false) T0 rfl) (Qcv.own (m:=1) (e:=1) (ty:=3) (xs:=[PV.int .i64 2]) (fz:=false) T0 rfl) (Qcv.flat rfl) (Qcv.own (m:=2) (e:=1) (ty:=51) (xs:=[PV.poly M0,PV.poly M1]) (fz:=false) T0 rfl)]
 refine⟨⟨rfl,by simp⟩,⟨rfl,by simp⟩,⟨rfl,by simp⟩,⟨rfl,by simp⟩,?_⟩
 simp+decide (disch:=first|exact E0|fail) only[go_sem,↓reduceIte,Q6,List.contains_cons,List.contains_nil,List.flatMap_cons,List.flatMap_nil,List.append_nil]
 refine Qa hP hmn rfl rfl rfl ?_
 simp+decide (disch:=first|exact E0|fail) only[go_sem,↓reduceIte,Q6,List.contains_cons,List.contains_nil,List.flatMap_cons,List.flatMap_nil,List.append_nil]
 rw[Qad3 (ty:=51) (xs:=[PV.poly M1]) (fz:=false) U0 (by omega)]
 simp+decide (disch:=first|exact E0|fail) only[go_sem,↓reduceIte,Q6,List.contains_cons,List.contains_nil,List.flatMap_cons,List.flatMap_nil,List.append_nil]
 refine Qa hP hv0 rfl rfl rfl ?_
 simp+decide (disch:=first|exact E0|fail) only[go_sem,↓reduceIte,Q6,List.contains_cons,List.contains_nil,List.flatMap_cons,List.flatMap_nil,List.append_nil]
 refine Qa hP had rfl rfl rfl ?_
 simp+decide (disch:=first|exact E0|fail) only[go_sem,↓reduceIte,Q6,List.contains_cons,List.contains_nil,List.flatMap_cons,List.flatMap_nil,List.append_nil]
 refine Qa hP he1 rfl rfl rfl ?_
 simp+decide (disch:=first|exact E0|fail) only[go_sem,↓reduceIte,Q6,List.contains_cons,List.contains_nil,List.flatMap_cons,List.flatMap_nil,List.append_nil]
 refine Qa hP hv0 rfl rfl rfl ?_
 simp+decide (disch:=first|exact E0|fail) only[go_sem,↓reduceIte,Q6,List.contains_cons,List.contains_nil,List.flatMap_cons,List.flatMap_nil,List.append_nil]
 refine Qa hP hv0 rfl rfl rfl ?_
 simp+decide (disch:=first|exact E0|fail) only[go_sem,↓reduceIte,Q6,List.contains_cons,List.contains_nil,List.flatMap_cons,List.flatMap_nil,List.append_nil]
 refine Qa hP hm0 rfl rfl rfl ?_
 simp+decide (disch:=first|exact E0|fail) only[go_sem,↓reduceIte,Q6,List.contains_cons,List.contains_nil,List.flatMap_cons,List.flatMap_nil,List.append_nil]
 refine Qa hP he2 rfl rfl rfl ?_
 simp+decide (disch:=first|exact E0|fail) only[go_sem,↓reduceIte,Q6,List.contains_cons,List.contains_nil,List.flatMap_cons,List.flatMap_nil,List.append_nil]
 refine Qa hP hv1 rfl rfl rfl ?_
 simp+decide (disch:=first|exact E0|fail) only[go_sem,↓reduceIte,Q6,List.contains_cons,List.contains_nil,List.flatMap_cons,List.flatMap_nil,List.append_nil]
 refine Qcd hP hc1 Ur0 rfl ?_
 simp+decide (disch:=first|exact E0|fail) only[go_sem,↓reduceIte,Q6,List.contains_cons,List.contains_nil,List.flatMap_cons,List.flatMap_nil,List.append_nil]
 refine Qa hP hv0 rfl rfl rfl ?_
 simp+decide (disch:=first|exact E0|fail) only[go_sem,↓reduceIte,Q6,List.contains_cons,List.contains_nil,List.flatMap_cons,List.flatMap_nil,List.append_nil]
 refine Qcd hP hc2 Ur0 rfl ?_
 simp+decide (disch:=first|exact E0|fail) only[go_sem,↓reduceIte,Q6,List.contains_cons,List.contains_nil,List.flatMap_cons,List.flatMap_nil,List.append_nil]
 refine Qa hP hv0 rfl rfl rfl ?_
 simp+decide (disch:=first|exact E0|fail) only[go_sem,↓reduceIte,Q6,List.contains_cons,List.contains_nil,List.flatMap_cons,List.flatMap_nil,List.append_nil]
 refine Qa hP hv1 rfl rfl rfl ?_
 simp+decide (disch:=first|exact E0|fail) only[go_sem,↓reduceIte,Q6,List.contains_cons,List.contains_nil,List.flatMap_cons,List.flatMap_nil,List.append_nil]
 refine Qcd hP hsl Ur0 rfl ?_
 simp+decide (disch:=first|exact E0|fail) only[go_sem,↓reduceIte,Q6,List.contains_cons,List.contains_nil,List.flatMap_cons,List.flatMap_nil,List.append_nil]
 exact Qc rfl rfl
end Go.Proofs.YtonfajmchebkeaaGreat
namespace Go.Proofs.YtonfajmchebkeaaGreat
open Go Go.FW
set_option linter.unusedSimpArgs false
set_option linter.unusedVariables false
set_option maxRecDepth 100000
theorem Qpx{l:List RTm}{k:Nat}(hb:∀t∈l,RB k t)(h:Qhc l=true):PV.rpoly l=PV.poly (l.map RTm.tm)/\Sm4 (l.map RTm.tm):=by
 simp only[Qhc,Bool.and_eq_true,decide_eq_true_eq,List.all_eq_true]at h
 obtain⟨h1,h2,h3⟩:=h
 obtain⟨e1,e2⟩:=Q67 hb h3
 refine⟨e1,e2.nrm,fun t ht=> ?_,fun t ht=> ?_,by simpa using h1⟩
 ·obtain⟨x,hx,rfl⟩:=List.mem_map.1 ht
  have hs:=h2 x hx
  simp only[smK,Bool.and_eq_true,decide_eq_true_eq,List.all_eq_true]at hs
  have hv:=e2.t _ ht
  have hr:=(show Raw 2 x.n x.a x.d from⟨(hb x hx).r.1,(hb x hx).r.2.1,hs.2.1,hs.2.2.1,by omega⟩).rs
  have hm:=MB.ofOk hv.m
  refine⟨?_,⟨hm.len,hm.lo,fun y hy=>hs.2.2.2 y hy⟩,Qq5 hv.m⟩
  show rs (rv x.n x.a x.d)+1<=3
  omega
 ·obtain⟨x,hx,rfl⟩:=List.mem_map.1 ht
  have hs:=h2 x hx
  simp only[smK,Bool.and_eq_true,decide_eq_true_eq,List.all_eq_true]at hs
  exact hs.1
def tms(ls:List (List RTm)):List (List Tm):=ls.map fun l=>l.map RTm.tm
theorem Qpy{ls:List (List RTm)}{k:Nat}(hb:∀l∈ls,(∀t∈l,RB k t)/\l.length<2^40)(h:Qk6 ls=true):PV.sl 1 (ls.map PV.rpoly)=PV.polys (tms ls)/\(∀f∈tms ls,Sm4 f)/\(tms ls).length<=4:=by
 simp only[Qk6,Bool.and_eq_true,decide_eq_true_eq,List.all_eq_true]at h
 refine⟨?_,fun f hf=> ?_,by unfold tms;rw[List.length_map];exact h.1⟩
 ·unfold tms PV.polys
  rw[List.map_map]
  exact congrArg _ (List.map_congr_left fun l hl=>(Qpx (hb l hl).1 (h.2 l hl)).1)
 ·obtain⟨l,hl,rfl⟩:=List.mem_map.1 hf
  exact(Qpx (hb l hl).1 (h.2 l hl)).2
theorem Q8t{c:Qiy}{k:Nat}(hb:RC k c)(h:Qse c=true):PV.rcert c=PV.cert (tms c.fs) c.ps c.n (tms c.cs)/\(∀f∈tms c.fs,Sm4 f)/\(tms c.fs).length<=4/\(∀f∈tms c.cs,Sm4 f)/\(tms c.cs).length<=4/\c.ps.length<=6:=by
 simp only[Qse,Bool.and_eq_true,decide_eq_true_eq]at h
 obtain⟨h1,h2,h3⟩:=h
 obtain⟨a1,a2,a3⟩:=Qpy hb.f h1
 obtain⟨b1,b2,b3⟩:=Qpy hb.g h2
 refine⟨?_,a2,a3,b2,b3,h3⟩
 unfold PV.rcert
 rw[a1,b1]
theorem Q5a {fs :List (List Tm)} {ps:List Int} (hl:fs.length<2^40) (hl2:ps.length<2^40) (hf:∀f∈fs,f.length<2^40):Qd Tryz.prog 29 [PV.polys fs,PV.mono ps] (fun r=>∃b,r= .bool b):=by
  refine Qf Ql Tryz.func29 rfl Qame (by simp[c29]) fun C hP=> ?_;simp only[c29,Zo,Zg,Zm,Zc,Zf,Zl,Zh,Zs,Zi,Zb,Zk,Zn,Zu,Zq,Zr,Zz]
  simp+decide (disch:=first|exact D0|fail) only[go_sem,↓reduceIte]
  refine Qz (by repeat (first|exact Qv|exact Qo|exact Qp|exact Qq|exact Qr|apply Qn|apply Qu|apply Q3|apply Q9|apply Qaa|apply Qk|apply Q2)) [(4,56)] [] (fun m J hp=>∃(i:Nat)(z:Int),m=ps.length-i/\i<=ps.length/\J 5= .int .i64 z/\J 6= .int .i64 (i:Nat)) ps.length ?_ ?_
  · refine⟨0,0,rfl,by omega,?_⟩
    simp+decide (disch:=first|exact D0|fail) only[go_sem,↓reduceIte]
    rfl
  rintro _ J h ⟨i,z,rfl,hi,h5,h6⟩
  simp+decide (disch:=first|exact D1 h6|fail) only[go_sem,↓reduceIte,h6]
  refine Qb (fun hg=> ?_) (fun hg=> ?_)
  · have hi' : i < ps.length:=by omega
    generalize hx:ps[i]=x at *
    simp+decide (disch:=first|exact D2 h6 hx|fail) only[go_sem,↓reduceIte,h6,hx]
    refine Qaj (fun h1=> ?_) (fun h1=> ?_)
    · simp +decide (disch:=first|exact D2 h6 hx|fail) only[go_sem,↓reduceIte,h6,hx]
      refine Qb (fun h2=> ?_) (fun h2=> ?_)
      · simp+decide (disch:=first|exact D0|fail) only[go_sem,↓reduceIte]
        exact⟨rfl,_,Qy _,⟨_,rfl⟩⟩
      simp+decide (disch:=first|exact D2 h6 hx|fail) only[go_sem,↓reduceIte,h6,hx]
      refine Qaj (fun h2=> ?_) (fun h2=> ?_)
      · simp+decide (disch:=first|exact D2 h6 hx|fail) only[go_sem,↓reduceIte,h6,hx]
        refine Qaj (fun h3=> ?_) (fun h3=> ?_)
        · simp+decide (disch:=first|exact D2 h6 hx|fail) only[go_sem,↓reduceIte,h6,hx]
          refine Qaj (fun h4=> ?_) (fun h4=> ?_)
          · have hif:i<fs.length:=by omega
            have hfl:=hf _ (List.getElem_mem hif)
            generalize hy:fs[i]=y at *
            simp+decide (disch:=first|exact D3 h6 hx hy|fail) only[go_sem,↓reduceIte,h6,hx,hy]
            refine Qb (fun h7=> ?_) (fun h7=> ?_)
            · simp +decide (disch:=first|exact D3 h6 hx h5|fail) only[go_sem,↓reduceIte,h6,hx,h5]
              first
                | (refine Qh (ps.length-(i+1)) (by omega) ⟨i+1,z+x,rfl,by omega,?_⟩
                   simp+decide (disch:=first|exact D0|fail) only[go_sem,↓reduceIte]
                   done)
                | (refine Qh (ps.length-(i+1)) (by omega) ⟨i+1,IntKind.i64.wrap (z+x),rfl,by omega,?_⟩
                   simp+decide (disch:=first|exact D0|fail) only[go_sem,↓reduceIte])
            · simp+decide (disch:=first|exact D2 h6 hx|fail) only[go_sem,↓reduceIte,h6,hx]
              refine Qh (ps.length-(i+1)) (by omega) ⟨i+1,z,rfl,by omega,?_⟩
              simp+decide (disch:=first|exact D1 h5|fail) only[go_sem,↓reduceIte,h5]
          · simp+decide (disch:=first|exact D2 h6 hx|fail) only[go_sem,↓reduceIte,h6,hx]
            refine Qh (ps.length-(i+1)) (by omega) ⟨i+1,z,rfl,by omega,?_⟩
            simp+decide (disch:=first|exact D1 h5|fail) only[go_sem,↓reduceIte,h5]
        · simp+decide (disch:=first|exact D2 h6 hx|fail) only[go_sem,↓reduceIte,h6,hx]
          refine Qh (ps.length-(i+1)) (by omega) ⟨i+1,z,rfl,by omega,?_⟩
          simp+decide (disch:=first|exact D1 h5|fail) only[go_sem,↓reduceIte,h5]
      · simp+decide (disch:=first|exact D2 h6 hx|fail) only[go_sem,↓reduceIte,h6,hx]
        refine Qh (ps.length-(i+1)) (by omega) ⟨i+1,z,rfl,by omega,?_⟩
        simp+decide (disch:=first|exact D1 h5|fail) only[go_sem,↓reduceIte,h5]
    simp+decide (disch:=first|exact D2 h6 hx|fail) only[go_sem,↓reduceIte,h6,hx]
    refine Qaj (fun h2=> ?_) (fun h2=> ?_)
    · simp+decide (disch:=first|exact D2 h6 hx|fail) only[go_sem,↓reduceIte,h6,hx]
      refine Qaj (fun h3=> ?_) (fun h3=> ?_)
      · simp+decide (disch:=first|exact D2 h6 hx|fail) only[go_sem,↓reduceIte,h6,hx]
        refine Qaj (fun h4=> ?_) (fun h4=> ?_)
        · have hif:i<fs.length:=by omega
          have hfl:=hf _ (List.getElem_mem hif)
          generalize hy:fs[i]=y at *
          simp+decide (disch:=first|exact D3 h6 hx hy|fail) only[go_sem,↓reduceIte,h6,hx,hy]
          refine Qb (fun h7=> ?_) (fun h7=> ?_)
          · simp +decide (disch:=first|exact D3 h6 hx h5|fail) only[go_sem,↓reduceIte,h6,hx,h5]
            first
              | (refine Qh (ps.length-(i+1)) (by omega) ⟨i+1,z+x,rfl,by omega,?_⟩
                 simp+decide (disch:=first|exact D0|fail) only[go_sem,↓reduceIte]
                 done)
              | (refine Qh (ps.length-(i+1)) (by omega) ⟨i+1,IntKind.i64.wrap (z+x),rfl,by omega,?_⟩
                 simp+decide (disch:=first|exact D0|fail) only[go_sem,↓reduceIte])
          · simp+decide (disch:=first|exact D2 h6 hx|fail) only[go_sem,↓reduceIte,h6,hx]
            refine Qh (ps.length-(i+1)) (by omega) ⟨i+1,z,rfl,by omega,?_⟩
            simp+decide (disch:=first|exact D1 h5|fail) only[go_sem,↓reduceIte,h5]
        · simp+decide (disch:=first|exact D2 h6 hx|fail) only[go_sem,↓reduceIte,h6,hx]
          refine Qh (ps.length-(i+1)) (by omega) ⟨i+1,z,rfl,by omega,?_⟩
          simp+decide (disch:=first|exact D1 h5|fail) only[go_sem,↓reduceIte,h5]
      · simp+decide (disch:=first|exact D2 h6 hx|fail) only[go_sem,↓reduceIte,h6,hx]
        refine Qh (ps.length-(i+1)) (by omega) ⟨i+1,z,rfl,by omega,?_⟩
        simp+decide (disch:=first|exact D1 h5|fail) only[go_sem,↓reduceIte,h5]
    · simp+decide (disch:=first|exact D2 h6 hx|fail) only[go_sem,↓reduceIte,h6,hx]
      refine Qh (ps.length-(i+1)) (by omega) ⟨i+1,z,rfl,by omega,?_⟩
      simp+decide (disch:=first|exact D1 h5|fail) only[go_sem,↓reduceIte,h5]
  · simp+decide (disch:=first|exact D1 h5|fail) only[go_sem,↓reduceIte,h5]
    exact⟨rfl,_,Qy _,⟨_,rfl⟩⟩
end Go.Proofs.YtonfajmchebkeaaGreat
namespace Go.Proofs.YtonfajmchebkeaaGreat
open Go Go.FW
set_option linter.unusedSimpArgs false
set_option linter.unusedVariables false
set_option maxRecDepth 100000
theorem Qvo{l:List (List Tm)}(h:∀f∈l,Sm4 f)(hl:l.length<=4):(∀f∈l,Sml f)/\(∀f∈l,Big f)/\PolL l/\∀f∈l,f.length<2^40:=
 ⟨fun f hf=>(h f hf).sml,fun f hf=>(h f hf).sml.big,⟨fun f hf=>Qm1 (h f hf),by omega⟩,fun f hf=>by have:=(h f hf).l;omega⟩
end Go.Proofs.YtonfajmchebkeaaGreat
namespace Go.Proofs.YtonfajmchebkeaaGreat
open Go Go.FW Go.ChangeShapes Go.WideShapes Go.ChangeAt Go.RowKit
set_option linter.unusedSimpArgs false
set_option linter.unusedVariables false
set_option maxRecDepth 100000
variable {H : Type} {enc : TypeId × Value -> H}
def Q5b(l:List Int):Prop:=l.length<=1048576/\∀x∈l,-9223372036854775808<=x/\x<=9223372036854775807
theorem Qajf:Rd enc 26 fun ps=>∃l:List Int,ps=[PV.mono l]/\Q5b l:=by
 refine(Qgu (α:=Int) (f:=fun(x:Int)=> .int .i64 x) Qbh Tryz.underlying26 (by rw[Qi9];omega) (Qpd Tryz.underlying3)).mono ?_
 rintro ps ⟨l,rfl,h1,h2⟩
 exact⟨l,by rw[Qi9],h1,h2⟩
def Qxo(c:Qiy):Prop:=Qjg c.fs/\Q5b c.ps/\(-9223372036854775808<=c.n/\c.n<=9223372036854775807)/\Qjg c.cs
theorem Qajg:Rd enc 79 fun ps=>∃c:Qiy,ps=(PV.rcert c).cells/\Qxo c:=by
 refine(Qzn (Qs:=[fun ps=>∃ls:List (List RTm),ps=[.sl 1 (ls.map PV.rpoly)]/\Qjg ls,fun ps=>∃l:List Int,ps=[PV.mono l]/\Q5b l,fun ps=>∃n:Int,ps=[.int .i64 n]/\ -9223372036854775808<=n/\n<=9223372036854775807,fun ps=>∃ls:List (List RTm),ps=[.sl 1 (ls.map PV.rpoly)]/\Qjg ls]) Qbh Tryz.underlying79 (by kernel_rfl) ⟨rfl,Qsa,by kernel_rfl,Qajf,by kernel_rfl,Qpd Tryz.underlying3,by kernel_rfl,Qsa,trivial⟩).mono ?_
 rintro ps ⟨p,q,rfl,⟨f,rfl,h1⟩,p2,q2,rfl,⟨l,rfl,h2⟩,p3,q3,rfl,⟨n,rfl,h3⟩,p4,q4,rfl,⟨c,rfl,h4⟩,rfl⟩
 exact⟨⟨f,l,n,c⟩,rfl,h1,h2,h3,h4⟩
variable {w : World} {base : Nat} {spare : Nat -> Bool} {held : Bool} {r : Reach} {b0 : Nat} {v : Value} {d : DataW H} {ps : List MemPlace}
theorem Qad9(Qcj:Value.okWide Tryz.prog w r b0 79 v)(hd:DataW.Trod enc Tryz.prog w base spare held 79 v d ps)(hn:Rows.uptoBulk d<=1048576):∃c,Qai w Qbd (PV.rcert c) v/\Qxo c:=by
 obtain⟨p,⟨c,rfl,h⟩,h2⟩:=Q3y Tryz.underlying79 Qcj Qajg hd hn
 exact⟨c,h2,h⟩
theorem Qqp{ls:List (List RTm)}(h:Qjg ls):(∀l∈ls,(∀t∈l,RB 1048576 t)/\l.length<2^40)/\ls.length<2^40:=⟨fun l hl=>⟨fun t ht=>((h.2 l hl).2 t ht).1,by have:=(h.2 l hl).1;omega⟩,by have:=h.1;omega⟩
theorem Qaob{c:Qiy}(h:Qxo c):RC 1048576 c:=by
 obtain⟨h1,h2,h3,h4⟩:=h
 exact⟨(Qqp h1).1,(Qqp h4).1,(Qqp h1).2,(Qqp h4).2,by have:=h2.1;omega⟩
end Go.Proofs.YtonfajmchebkeaaGreat
namespace Go.Proofs.YtonfajmchebkeaaGreat
open Go Go.FW
set_option linter.unusedSimpArgs false
set_option linter.unusedVariables false
set_option maxRecDepth 100000
end Go.Proofs.YtonfajmchebkeaaGreat
namespace Go.Proofs.YtonfajmchebkeaaGreat
open Go Go.FW
set_option linter.unusedSimpArgs false
set_option linter.unusedVariables false
set_option maxRecDepth 100000
theorem Qxh(n:Nat):∀(a:Rat),rs a*n<=2^32->n<=2^40->Qd Tryz.prog 70 [PV.rat a,.int .i64 n] (· =PV.rat (Qcl a n)):=by
 have h1:=Qr1
 have h1':((1:Int):Rat)=1:=rfl
 induction n using Nat.strongRecOn with
 | ind n ih=>
  intro a hB hn
  have e2:(2:Int)=((2:Nat):Int):=rfl
  have hrem:∀d fr hp K,Qax .rem false (.int .i64 (n:Int)) (.int .i64 2) d fr hp K=K (upd fr d (.int .i64 ((n%2:Nat):Int))) hp:=fun d fr hp K=>by
   rw[e2,Qdg (by omega)]
  have hquo:∀d fr hp K,Qax .quo false (.int .i64 (n:Int)) (.int .i64 2) d fr hp K=K (upd fr d (.int .i64 ((n/2:Nat):Int))) hp:=fun d fr hp K=>by
   rw[e2,Qqd (by omega) (by omega)]
  refine Qf Ql Tryz.func70 rfl Qalg (by simp[c70]) fun C hP=> ?_;simp only[c70,Zo,Zg,Zm,Zc,Zf,Zl,Zh,Zs,Zi,Zb,Zk,Zn,Zu,Zq,Zr,Zz]
  simp+decide (disch:=first|exact D0|fail) only[go_sem,↓reduceIte]
  refine Qb (fun h0=> ?_) (fun h0=> ?_)
  ·obtain rfl:n=0:=by omega
   simp+decide (disch:=first|exact D0|fail) only[go_sem,↓reduceIte]
   refine Qa hP (Qcp (x:=1) (by omega) (by omega)) rfl rfl rfl ?_
   simp+decide (disch:=first|exact D0|fail) only[go_sem,↓reduceIte]
   refine Qa5 ?_
   simp+decide (disch:=first|exact D0|fail) only[go_sem,↓reduceIte]
   exact Qc rfl rfl
  have ha:rs a<=rs a*n:=Nat.le_mul_of_pos_right _ (by omega)
  have hmm:=Qkx a a
  have hd2:rs (a*a)*(n/2)<=rs a*(2*(n/2)):=by
   rw[<-Nat.mul_assoc];exact Nat.mul_le_mul_right _ (by omega)
  have hd3:rs a*(2*(n/2))<=rs a*n:=Nat.mul_le_mul_left _ (by omega)
  have hqr:=Qqk (a*a) (n/2)
  simp+decide (disch:=first|exact D2 hrem hquo|fail) only[go_sem,↓reduceIte,hrem,hquo]
  refine Qa hP (Qof (a:=a) (b:=a) (k:=2^33) (by omega) (by omega) (by omega)) rfl rfl rfl ?_
  simp+decide (disch:=first|exact D2 hrem hquo|fail) only[go_sem,↓reduceIte,hrem,hquo]
  refine Qa hP (ih (n/2) (by omega) (a*a) (by omega) (by omega)) rfl rfl rfl ?_
  simp+decide (disch:=first|exact D2 hrem hquo|fail) only[go_sem,↓reduceIte,hrem,hquo]
  refine Qb (fun h2=> ?_) (fun h2=> ?_)
  ·simp+decide (disch:=first|exact D0|fail) only[go_sem,↓reduceIte]
   refine Qa hP (Qof (a:=Qcl (a*a) (n/2)) (b:=a) (k:=2^33) (by omega) (by omega) (by omega)) rfl rfl rfl ?_
   simp+decide (disch:=first|exact D0|fail) only[go_sem,↓reduceIte]
   refine Qa5 ?_
   simp+decide (disch:=first|exact D0|fail) only[go_sem,↓reduceIte]
   exact Qc (by rw[Qw7 (by omega)]) rfl
  ·simp+decide (disch:=first|exact D0|fail) only[go_sem,↓reduceIte]
   refine Qa5 ?_
   simp+decide (disch:=first|exact D0|fail) only[go_sem,↓reduceIte]
   exact Qc (by rw[Qu7 (by omega)]) rfl
theorem Q0f{p:List Tm}{vs:List Rat}{K E W:Nat}(hp:PB K E p)(hv:∀v∈vs,rs v<=W)(hW:1<=W)(hB:1+p.length*(K+64*(1+W*E))+(K+64*(1+W*E))<=2^31)(hE:E<=2^38)(hlp:p.length<=2^36)(hlv:vs.length<=2^36):
  Qd Tryz.prog 26 [PV.poly p,PV.rats vs] (· =evR vs p):=by
 have h0:((0:Int):Rat)=0:=rfl
 refine Qf Ql Tryz.func26 rfl Qald (by simp[c26]) fun C hP=> ?_;simp only[c26,Zo,Zg,Zm,Zc,Zf,Zl,Zh,Zs,Zi,Zb,Zk,Zn,Zu,Zq,Zr,Zz]
 simp+decide (disch:=first|exact D0|fail) only[go_sem,↓reduceIte]
 refine Qa hP (Qcp (x:=0) (by omega) (by omega)) rfl rfl rfl ?_
 simp+decide (disch:=first|exact D0|fail) only[go_sem,↓reduceIte]
 refine Qz (by repeat (first|exact Qv|exact Qo|exact Qp|exact Qq|exact Qr|apply Qn|apply Qu|apply Q3|apply Q9|apply Qaa|apply Qk|apply Q2)) [(5,5),(7,7),(12,27)] [] (fun n J hp=>∃i,n=p.length-i/\i<=p.length/\(∀t∈p.take i,¬vs.length<t.2.length)/\J 7= .int .i64 (i:Nat)/\hp 4=some ⟨3,32,[.agg [.bool false,.nilS,.nilS]],false⟩/\hp 6=some ⟨3,32,[PV.rat 0],false⟩) p.length ?_ ?_
 ·refine⟨0,rfl,by omega,by simp,?_⟩
  simp+decide (disch:=first|exact D0|fail) only[go_sem,↓reduceIte]
  exact⟨rfl,rfl⟩
 rintro _ J h ⟨i,rfl,hi,h1,h7,hh4,hh6⟩
 simp+decide (disch:=first|exact D1 h7|fail) only[go_sem,↓reduceIte,h7]
 refine Qb (fun hg=> ?_) (fun hg=> ?_)
 ·have hi':i<p.length:=by omega
  have htp:=hp.get hi'
  have hmem:=List.getElem_mem hi'
  have htk:p.take (i+1)=p.take i++[p[i]]:=List.take_succ_eq_append_getElem hi'
  generalize hx:p[i]=x at *
  have hml:=htp.m.len
  simp+decide (disch:=first|exact D2 h7 hx|fail) only[go_sem,↓reduceIte,h7,hx]
  refine Qb (fun hc=> ?_) (fun hc=> ?_)
  ·have ho:Qr7 vs p=true:=by
    unfold Qr7;rw[List.any_eq_true];exact⟨x,hmem,decide_eq_true (by omega)⟩
   simp+decide (disch:=first|exact D1 hh4|fail) only[go_sem,↓reduceIte,hh4]
   refine Qgo ?_
   simp+decide (disch:=first|exact D0|fail) only[go_sem,↓reduceIte]
   exact Qct (p':=PV.rr false [] []) (q':= .int .i64 2) (by rw[evR,if_pos ho]) rfl rfl ⟨rfl,trivial,trivial,trivial⟩ (Qy _)
  ·simp+decide (disch:=first|exact D1 h7|fail) only[go_sem,↓reduceIte,h7]
   refine Qh (p.length-(i+1)) (by omega) ⟨i+1,rfl,by omega,?_,?_⟩
   ·rw[htk]
    intro z hz
    rcases List.mem_append.1 hz with hz|hz
    ·exact h1 z hz
    ·simp only[List.mem_singleton]at hz;subst hz;omega
   ·simp+decide (disch:=first|exact D2 hh4 hh6|fail) only[go_sem,↓reduceIte,hh4,hh6]
 ·obtain rfl:i=p.length:=by omega
  rw[List.take_length]at h1
  have ho:Qr7 vs p=false:=by
   unfold Qr7;rw[List.any_eq_false];intro t ht;simpa using h1 t ht
  simp+decide (disch:=first|exact D2 hh4 hh6|fail) only[go_sem,↓reduceIte,hh4,hh6]
  refine Qz (by repeat (first|exact Qv|exact Qo|exact Qp|exact Qq|exact Qr|apply Qn|apply Qu|apply Q3|apply Q9|apply Qaa|apply Qk|apply Q2)) [(8,10),(28,66)] [9] (fun n J hp=>∃i,n=p.length-i/\i<=p.length/\J 8= .int .i64 (i:Nat)/\hp 4=some ⟨3,32,[.agg [.bool false,.nilS,.nilS]],false⟩/\hp 6=some ⟨3,32,[PV.rat (Qar vs (p.take i))],false⟩) p.length ?_ ?_
  ·refine⟨0,rfl,by omega,?_⟩
   simp+decide (disch:=first|exact D2 hh4 hh6|fail) only[go_sem,↓reduceIte,hh4,hh6]
   exact⟨rfl,rfl⟩
  rintro _ J1 h1' ⟨i,rfl,hi1,h8,hk4,hk8⟩
  simp+decide (disch:=first|exact D1 h8|fail) only[go_sem,↓reduceIte,h8]
  refine Qb (fun hg1=> ?_) (fun hg1=> ?_)
  ·have hi':i<p.length:=by omega
   have htp:=hp.get hi'
   have hxl:=h1 _ (List.getElem_mem hi')
   have htk:=Qtp (vs:=vs) hi'
   have hrp:=Qr8 hp hv hW i (by omega)
   generalize hx:p[i]=x at *
   have hml:=htp.m.len
   have hxc:=htp.c
   have hmono:i*(K+64*(1+W*E))<=p.length*(K+64*(1+W*E)):=Nat.mul_le_mul_right _ hi1
   have hme:=fun j=>Qu9 (vs:=vs) htp.m hv hW x.1 j
   have hjm:∀j,j<=x.2.length->j*(1+W*E)<=64*(1+W*E):=fun j hj=>Nat.mul_le_mul_right _ (by omega)
   simp+decide (disch:=first|exact D2 h8 hx|fail) only[go_sem,↓reduceIte,h8,hx]
   refine Qz (by repeat (first|exact Qv|exact Qo|exact Qp|exact Qq|exact Qr|apply Qn|apply Qu|apply Q3|apply Q9|apply Qaa|apply Qk|apply Q2)) [(10,10),(39,63)] [] (fun n J hp=>∃j,n=x.2.length-j/\j<=x.2.length/\J 10= .int .i64 (j:Nat)/\hp 4=some ⟨3,32,[.agg [.bool false,.nilS,.nilS]],false⟩/\hp 6=some ⟨3,32,[PV.rat (Qar vs (p.take i))],false⟩/\hp 9=some ⟨3,32,[PV.rat (x.1*Qeh vs x.2 j)],false⟩) x.2.length ?_ ?_
   ·refine⟨0,rfl,by omega,?_⟩
    have e0:x.1*Qeh vs x.2 0=x.1:=by show x.1*1=x.1;grind
    rw[e0]
    simp+decide (disch:=first|exact D2 hk4 hk8|fail) only[go_sem,↓reduceIte,hk4,hk8]
    rfl
   rintro _ J2 h2 ⟨j,rfl,hj,h10,hl4,hl8,hl11⟩
   simp+decide (disch:=first|exact D3 h8 h10 hx|fail) only[go_sem,↓reduceIte,h8,h10,hx]
   refine Qb (fun hg2=> ?_) (fun hg2=> ?_)
   ·have hj':j<x.2.length:=by omega
    have hje:=Qco hj'
    have hjb:=htp.m.eN j
    have hms:Qeh vs x.2 (j+1)=Qeh vs x.2 j*Qcl (vs.getD j 0) (eN x.2 j).toNat:=rfl
    generalize hy:x.2[j]=y at *
    obtain⟨m,rfl⟩:∃m:Nat,y=m:=⟨y.toNat,by omega⟩
    rw[hje,Int.toNat_natCast]at hms
    rw[hje]at hjb
    have hjv:j<vs.length:=by omega
    have hvg:vs.getD j 0=vs[j]:=by simp[List.getD_eq_getElem?_getD,hjv]
    have hvw:=hv _ (List.getElem_mem hjv)
    rw[hvg]at hms
    generalize hvj:vs[j]=v at *
    have hwe:rs v*m<=W*E:=Nat.mul_le_mul hvw (by omega)
    have hqp:=Qqk v m
    have hm1:=hme j
    have hm2:=hjm j hj
    simp+decide (disch:=first|exact D6 h8 h10 hx hy hl11 hvj|fail) only[go_sem,↓reduceIte,h8,h10,hx,hy,hl11,hvj]
    refine Qa hP (Qxh m v (by omega) (by omega)) rfl rfl rfl ?_
    simp+decide (disch:=first|exact D6 h8 h10 hx hy hl11 hvj|fail) only[go_sem,↓reduceIte,h8,h10,hx,hy,hl11,hvj]
    refine Qa hP (Qof (a:=x.1*Qeh vs x.2 j) (b:=Qcl v m) (k:=2^33) (by omega) (by omega) (by omega)) rfl rfl rfl ?_
    simp+decide (disch:=first|exact D6 h8 h10 hx hy hl11 hvj|fail) only[go_sem,↓reduceIte,h8,h10,hx,hy,hl11,hvj]
    refine Qh (x.2.length-(j+1)) (by omega) ⟨j+1,rfl,by omega,?_⟩
    have e1:x.1*Qeh vs x.2 (j+1)=x.1*Qeh vs x.2 j*Qcl v m:=by rw[hms];grind
    rw[e1]
    simp+decide (disch:=first|exact D2 hl4 hl8|fail) only[go_sem,↓reduceIte,hl4,hl8]
   ·obtain rfl:j=x.2.length:=by omega
    have hm1:=hme x.2.length
    have hm2:=hjm x.2.length (Nat.le_refl _)
    have hra:=Qmn (Qar vs (p.take i)) (x.1*mev vs x.2)
    rw[show Qeh vs x.2 x.2.length=mev vs x.2 from rfl]at hl11 hm1
    simp+decide (disch:=first|exact D4 h8 h10 hl8 hl11|fail) only[go_sem,↓reduceIte,h8,h10,hl8,hl11]
    refine Qa hP (Qzq (a:=Qar vs (p.take i)) (b:=x.1*mev vs x.2) (k:=2^33) (by omega) (by omega) (by omega)) rfl rfl rfl ?_
    simp+decide (disch:=first|exact D4 h8 h10 hl8 hl11|fail) only[go_sem,↓reduceIte,h8,h10,hl8,hl11]
    simp (disch:=decide) only[Qca,Qhg]
    refine Qh (p.length-(i+1)) (by omega) ⟨i+1,rfl,by omega,?_⟩
    rw[htk]
    simp+decide (disch:=first|exact D1 hl4|fail) only[go_sem,↓reduceIte,hl4]
  ·obtain rfl:i=p.length:=by omega
   rw[List.take_length]at hk8
   simp+decide (disch:=first|exact D2 hk4 hk8|fail) only[go_sem,↓reduceIte,hk4,hk8]
   refine Qgo ?_
   simp+decide (disch:=first|exact D0|fail) only[go_sem,↓reduceIte]
   exact Qct (by rw[evR,if_neg (by simp[ho])]) rfl rfl (Qy _) (Qy _)
end Go.Proofs.YtonfajmchebkeaaGreat
namespace Go.FW
open Go
set_option maxRecDepth 100000
theorem Qrn:∀ {l:List (List Tm×Nat)} {p r:List Tm},Qfs l p=some r->r=Qqn l p
 | [],p,r,h=>(Option.some.inj h).symm
 | x::l,p,r,h=>by
  unfold Qfs at h
  cases hr:Qci x.1 x.2 p with
  |none=>rw[hr]at h;cases h
  |some s=>
   rw[hr]at h
   rw[Qrn h,Qk4 hr];rfl
theorem Qajh{o:Option (List Tm)}(h:(Qg9 o).2=0):o=some (Qg9 o).1:=by
 cases o with
 |none=>cases h
 |some r=>rfl
theorem Q5c{fs:List (List Tm)}{ps:List Int}(h:(Qc4 fs ps).2=0):fs.length=ps.length/\Qix ps=true/\(Qc4 fs ps).1=Qqn (Qha fs ps) (Qbj 1):=by
 unfold Qc4 at h⊢
 split at h
 ·rename_i h1
  rw[if_pos h1]
  split at h
  ·rename_i h2
   rw[if_pos h2]
   exact⟨h1,h2,Qrn (Qajh h)⟩
  ·cases h
 ·cases h
theorem Q0g {fs:List (List Tm)} {ps:List Int} {n:Int} {cs hs:List (List Tm)} {g:List Tm} (h:Qgd fs ps n cs hs g=0):
  fs.length=ps.length/\Qix ps=true/\cs.length=hs.length/\1<=n/\n<=64/\(∀f∈fs,f≠[])/\Qd7 g (Qqn (Qha fs ps) (Qbj 1)) n.toNat=Qce (cs.zip hs) (cs.zip hs).length:=by
 unfold Qgd at h
 split at h
 ·rename_i h0
  obtain⟨a1,a2,a3⟩:=Q5c h0
  split at h
  ·cases h
  ·rename_i h1
   split at h
   ·cases h
   ·rename_i h2
    split at h
    ·rename_i h3
     split at h
     ·cases h
     ·rename_i l hr
      split at h
      ·rename_i h4
       split at h
       ·rename_i h5
        obtain⟨_,_,b3,_⟩:=Qz9 h4
        refine⟨a1,a2,h3,by omega,by omega,fun f hf e=>h1 (List.any_eq_true.2 ⟨f,hf,by rw[e];rfl⟩),?_⟩
        rw[<-a3,<-Qk4 hr,h5,b3]
       ·cases h
      ·rename_i h4;exact absurd h h4
    ·cases h
 ·rename_i h0;exact absurd h h0
theorem Q1j(vs:List Rat)(a:Rat):Qar vs (Qbj a)=a:=by
 unfold Qar
 rw[Q39]
 exact Rat.mul_one a
theorem Q1k{vs:List Rat}{fs:List (List Tm)}{ps:List Int}{n:Int}{cs hs:List (List Tm)}{g:List Tm}(h:Qgd fs ps n cs hs g=0)(hf:∀f∈fs,Sml f)(hc:∀c∈cs,Big c)(hh:∀c∈hs,Sml c)(hg:Sml g)
  (h0:∀p∈hs,Qar vs p=0) (hn:∀i (h1:i<fs.length) (h2:i<ps.length),0<ps[i]->Qar vs fs[i]≠0):Qar vs g=0:=by
 obtain⟨a1,a2,a3,_,_,_,a4⟩:=Q0g h
 have hz:=Q2m (P:=Big) (Q:=Sml) hc hh
 refine Q4s (K:=8388608) (E:=16384) (c:=cs.zip hs) (f:=Qha fs ps) (one:=Qbj 1) (n:=n.toNat) (fun x hx=>⟨(hz x hx).1.n,(hz x hx).2.n⟩) (fun x hx=>⟨(hz x hx).1.PB,(hz x hx).2.PB.mono (by omega) (by omega)⟩) (fun x hx=> ?_) SZ.one.x ?_ ?_ (fun x hx=> ?_) (fun x hx hx2=> ?_) a4
 ·obtain⟨i,hi,rfl⟩:=List.getElem_of_mem hx
  have hi':i<fs.length:=by rwa[Qhb a1]at hi
  rw[Qoj a1 hi']
  exact⟨64,(hf _ (List.getElem_mem hi')).z.x⟩
 ·rw[Q1j];decide
 ·obtain⟨K,hK⟩:=hg.z.x
  exact⟨K,hK.mono (Nat.le_refl _) (by omega)⟩
 ·obtain⟨i,hi,rfl⟩:=List.getElem_of_mem hx
  rw[List.getElem_zip]
  exact h0 _ (List.getElem_mem _)
 ·obtain⟨i,hi,rfl⟩:=List.getElem_of_mem hx
  have hi':i<fs.length:=by rwa[Qhb a1]at hi
  rw[Qoj a1 hi']at hx2⊢
  exact hn i hi' (by omega) (by simp only at hx2;omega)
end Go.FW
