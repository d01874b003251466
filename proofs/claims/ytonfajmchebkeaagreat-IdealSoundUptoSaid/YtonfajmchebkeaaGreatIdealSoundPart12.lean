/- Part 12 of the proof of IdealSound: G12, G13, G14, L2, G15, U11, FwWK. Own lemmas; no conditions. -/
import Derived.Test.YtonfajmchebkeaaGreatIdealSoundPart11
set_option linter.unusedSimpArgs false
set_option linter.unnecessarySimpa false
set_option linter.unusedVariables false
namespace Go.Proofs.YtonfajmchebkeaaGreat
open Go Go.FW
set_option linter.unusedSimpArgs false
set_option linter.unusedVariables false
set_option maxRecDepth 100000
theorem Qaas{v:Nat}(hv:v<64):Qe Tryz.prog 73 [.int .i64 v] (· =PV.poly (Qac v)):=by
 refine Qf Qj Tryz.func73 rfl Qao3 (by simp[c73]) fun C hP=> ?_;simp only[c73,Zo,Zg,Zm,Zc,Zf,Zl,Zh,Zs,Zi,Zb,Zk,Zn,Zu,Zq,Zr,Zz]
 simp+decide (disch:=first|exact D0|fail) only[go_sem,↓reduceIte]
 refine Qa hP (Q3i hv) rfl rfl rfl ?_
 simp+decide (disch:=first|exact D0|fail) only[go_sem,↓reduceIte]
 exact Qc rfl rfl
theorem Q61:Qe Tryz.prog 74 [] (· =PV.poly (Qbk 1)):=by
 have hone:=Qth
 refine Qf Qj Tryz.func74 rfl Qao4 (by simp[c74]) fun C hP=> ?_;simp only[c74,Zo,Zg,Zm,Zc,Zf,Zl,Zh,Zs,Zi,Zb,Zk,Zn,Zu,Zq,Zr,Zz]
 simp+decide (disch:=first|exact D0|fail) only[go_sem,↓reduceIte]
 refine Qa hP Qapd rfl rfl rfl ?_
 simp+decide (disch:=first|exact D0|fail) only[go_sem,↓reduceIte]
 refine Qa hP (Q6p (k:=4) (by omega) (by omega)) rfl rfl rfl ?_
 simp+decide (disch:=first|exact D0|fail) only[go_sem,↓reduceIte]
 exact Qc rfl rfl
theorem Qk9{p:List Tm}(h:Sm4 p):PB 1073741824 1048576 p/\p.length<=8589934592:=⟨h.b.mono (by omega) (by omega),by have:=h.l;omega⟩
theorem Qc0:Qe Tryz.prog 30 [] (· = .bool true):=by
 have s0:Sm4 (Qac 0):=Qn5 (by decide+kernel)
 have s1:Sm4 (Qac 1):=Qn5 (by decide+kernel)
 have s2:Sm4 (Qbk 1):=Qn5 (by decide+kernel)
 have s3:Sm4 (Qaf (Qac 0) (Qac 0)):=Qn5 (by decide+kernel)
 have s4:Sm4 (Qaf (Qac 0) (Qac 1)):=Qn5 (by decide+kernel)
 have s5:Sm4 (Q5 (Qaf (Qac 0) (Qac 1)) (Qac 0)):=Qn5 (by decide+kernel)
 have n0:Qac 0≠[]:=by decide+kernel
 have hv0:Qe Tryz.prog 73 [.int .i64 0] (· =PV.poly (Qac 0)):=Qaas (v:=0) (by omega)
 have hv1:Qe Tryz.prog 73 [.int .i64 1] (· =PV.poly (Qac 1)):=Qaas (v:=1) (by omega)
 have hm0:=Qagt (m:=4) (P:=Qac 0) (q:=Qac 0) ⟨s0.sml.z.mono (by omega) (by omega) (by omega),s0.n,by have:=s0.l;omega⟩ s0.sml (by omega)
 have hm1:=Qagt (m:=4) (P:=Qac 0) (q:=Qac 1) ⟨s0.sml.z.mono (by omega) (by omega) (by omega),s0.n,by have:=s0.l;omega⟩ s1.sml (by omega)
 have hcb:=Qn1 (cs:=[Qac 1,Qac 0]) (ls:=[Qac 0,Qbk 1]) (by simp;exact⟨s1.sml.big,s0.sml.big⟩) (by simp;exact⟨s0.sml,s2.sml⟩) (by simp) (by simp)
 have hpr:=Qn2 (fs:=[Qac 0,Qac 1]) (ps:=[2,0]) (by simp;exact⟨s0.sml,s1.sml⟩) (by simp) (by simp)
 have hck:=fun(g:List Tm) (hg:Sml g)=>Qq1 (fs:=[Qac 0]) (ps:=[1]) (n:=1) (cs:=[Qbk 1]) (hs:=[Qaf (Qac 0) (Qac 1)]) (g:=g) (by simp;exact s0.sml) (by simp) (by simp) (by simp;exact s2.sml.big) (by simp) (by simp;exact s4.sml) (by simp) hg
 have hc1:=hck (Qac 1) s1.sml
 have hc2:=hck (Qac 0) s0.sml
 have hmn:=Qn4 (fs:=[Qac 0]) (ps:=[2]) (n:=1) (cs:=[Qaf (Qac 0) (Qac 0),Qaf (Qac 0) (Qac 1)]) rfl (by simp;exact⟨s0,n0,by omega,by omega⟩) (by simp) (by simp;exact⟨s3,s4⟩) (by simp) (by simp[Qc5]) Qapx
 have had:=Qhb (p:=Qaf (Qac 0) (Qac 1)) (q:=Qac 0) s4.b s0.b (by omega) (by omega) (by have:=s4.l;omega) (by have:=s0.l;omega)
 have he1:=Qkh s5.b s5.b (by omega) (by omega) (by have:=s5.l;omega) (by have:=s5.l;omega)
 have he2:=Qkh s3.b s3.b (by omega) (by omega) (by have:=s3.l;omega) (by have:=s3.l;omega)
 have hsl:=Qpi (a:=[Qac 0,Qac 1]) (b:=[Qac 0,Qac 1]) ⟨by simp;exact⟨Qk9 s0,Qk9 s1⟩,by simp⟩ ⟨by simp;exact⟨Qk9 s0,Qk9 s1⟩,by simp⟩
 rw[Qalw]at hcb
 rw[Qalx]at hpr
 rw[Qaq2]at hc1
 rw[Qaq3]at hc2
 rw[decide_eq_true rfl]at he1 he2 hsl
 have hone:=Q61
 clear s0 s1 s2 s3 s4 s5 n0 hck
 generalize Q5 (Qaf (Qac 0) (Qac 1)) (Qac 0)=A at *
 generalize Qaf (Qac 0) (Qac 0)=M0 at *
 generalize Qaf (Qac 0) (Qac 1)=M1 at *
 generalize Qbk 1=O at *
 generalize Qac 0=V0 at *
 generalize Qac 1=V1 at *
 refine Qf Qj Tryz.func30 rfl Qao2 (by simp[c30]) fun C hP=> ?_;simp only[c30,Zo,Zg,Zm,Zc,Zf,Zl,Zh,Zs,Zi,Zb,Zk,Zn,Zu,Zq,Zr,Zz]
 simp+decide (disch:=first|exact D0|fail) only[go_sem,↓reduceIte]
 refine Qa hP hv0 rfl rfl rfl ?_
 simp+decide (disch:=first|exact D0|fail) only[go_sem,↓reduceIte]
 refine Qa hP hone rfl rfl rfl ?_
 simp+decide (disch:=first|exact D0|fail) only[go_sem,↓reduceIte]
 rw[Qze (Qcj.own (m:=1) (e:=1) (ty:=51) (xs:=[PV.poly V0]) (fz:=false) T0 rfl) (Qcj.own (m:=1) (e:=1) (ty:=3) (xs:=[PV.int .i64 1]) (fz:=false) T0 rfl) (Qcj.flat rfl) (Qcj.own (m:=1) (e:=1) (ty:=51) (xs:=[PV.poly O]) (fz:=false) T0 rfl)]
 refine⟨⟨rfl,by simp⟩,⟨rfl,by simp⟩,⟨rfl,by simp⟩,⟨rfl,by simp⟩,?_⟩
 simp+decide (disch:=first|exact E0|fail) only[go_sem,↓reduceIte,Q7,List.contains_cons,List.contains_nil,List.flatMap_cons,List.flatMap_nil,List.append_nil]
 refine Qa hP hv0 rfl rfl rfl ?_
 simp+decide (disch:=first|exact D0|fail) only[go_sem,↓reduceIte]
 refine Qa hP hv1 rfl rfl rfl ?_
 simp+decide (disch:=first|exact D0|fail) only[go_sem,↓reduceIte]
 refine Qa hP hm1 rfl rfl rfl ?_
 simp+decide (disch:=first|exact D0|fail) only[go_sem,↓reduceIte]
 refine Qa hP hv1 rfl rfl rfl ?_
 simp+decide (disch:=first|exact D0|fail) only[go_sem,↓reduceIte]
 refine Qa hP hv0 rfl rfl rfl ?_
 simp+decide (disch:=first|exact D0|fail) only[go_sem,↓reduceIte]
 refine Qa hP hv0 rfl rfl rfl ?_
 simp+decide (disch:=first|exact D0|fail) only[go_sem,↓reduceIte]
 refine Qa hP hone rfl rfl rfl ?_
 simp+decide (disch:=first|exact D0|fail) only[go_sem,↓reduceIte]
 refine Qb3 hP hcb Ur0 rfl ?_
 simp+decide (disch:=first|exact D0|fail) only[go_sem,↓reduceIte]
 refine Qa hP hv0 rfl rfl rfl ?_
 simp+decide (disch:=first|exact D0|fail) only[go_sem,↓reduceIte]
 refine Qa hP hv1 rfl rfl rfl ?_
 simp+decide (disch:=first|exact D0|fail) only[go_sem,↓reduceIte]
 refine Qb3 hP hpr Ur0 rfl ?_
 simp+decide (disch:=first|exact D0|fail) only[go_sem,↓reduceIte]
 refine Qa hP hv0 rfl rfl rfl ?_
 simp+decide (disch:=first|exact D0|fail) only[go_sem,↓reduceIte]
 refine Qa hP hv0 rfl rfl rfl ?_
 simp+decide (disch:=first|exact D0|fail) only[go_sem,↓reduceIte]
 refine Qa hP hv0 rfl rfl rfl ?_
 simp+decide (disch:=first|exact D0|fail) only[go_sem,↓reduceIte]
 refine Qa hP hm0 rfl rfl rfl ?_
 simp+decide (disch:=first|exact D0|fail) only[go_sem,↓reduceIte]
 refine Qa hP hv0 rfl rfl rfl ?_
 simp+decide (disch:=first|exact D0|fail) only[go_sem,↓reduceIte]
 refine Qa hP hv1 rfl rfl rfl ?_
 simp+decide (disch:=first|exact D0|fail) only[go_sem,↓reduceIte]
 refine Qa hP hm1 rfl rfl rfl ?_
 simp+decide (disch:=first|exact D0|fail) only[go_sem,↓reduceIte]
 rw[Qze (Qcj.own (m:=1) (e:=1) (ty:=51) (xs:=[PV.poly V0]) (fz:=false) T0 rfl) (Qcj.own (m:=1) (e:=1) (ty:=3) (xs:=[PV.int .i64 2]) (fz:=false) T0 rfl) (Qcj.flat rfl) (Qcj.own (m:=2) (e:=1) (ty:=51) (xs:=[PV.poly M0,PV.poly M1]) (fz:=false) T0 rfl)]
 refine⟨⟨rfl,by simp⟩,⟨rfl,by simp⟩,⟨rfl,by simp⟩,⟨rfl,by simp⟩,?_⟩
 simp+decide (disch:=first|exact E0|fail) only[go_sem,↓reduceIte,Q7,List.contains_cons,List.contains_nil,List.flatMap_cons,List.flatMap_nil,List.append_nil]
 refine Qa hP hmn rfl rfl rfl ?_
 simp+decide (disch:=first|exact E0|fail) only[go_sem,↓reduceIte,Q7,List.contains_cons,List.contains_nil,List.flatMap_cons,List.flatMap_nil,List.append_nil]
 rw[Qage (ty:=51) (xs:=[PV.poly M1]) (fz:=false) U0 (by omega)]
 simp+decide (disch:=first|exact E0|fail) only[go_sem,↓reduceIte,Q7,List.contains_cons,List.contains_nil,List.flatMap_cons,List.flatMap_nil,List.append_nil]
 refine Qa hP hv0 rfl rfl rfl ?_
 simp+decide (disch:=first|exact E0|fail) only[go_sem,↓reduceIte,Q7,List.contains_cons,List.contains_nil,List.flatMap_cons,List.flatMap_nil,List.append_nil]
 refine Qa hP had rfl rfl rfl ?_
 simp+decide (disch:=first|exact E0|fail) only[go_sem,↓reduceIte,Q7,List.contains_cons,List.contains_nil,List.flatMap_cons,List.flatMap_nil,List.append_nil]
 refine Qa hP he1 rfl rfl rfl ?_
 simp+decide (disch:=first|exact E0|fail) only[go_sem,↓reduceIte,Q7,List.contains_cons,List.contains_nil,List.flatMap_cons,List.flatMap_nil,List.append_nil]
 refine Qa hP hv0 rfl rfl rfl ?_
 simp+decide (disch:=first|exact E0|fail) only[go_sem,↓reduceIte,Q7,List.contains_cons,List.contains_nil,List.flatMap_cons,List.flatMap_nil,List.append_nil]
 refine Qa hP hv0 rfl rfl rfl ?_
 simp+decide (disch:=first|exact E0|fail) only[go_sem,↓reduceIte,Q7,List.contains_cons,List.contains_nil,List.flatMap_cons,List.flatMap_nil,List.append_nil]
 refine Qa hP hm0 rfl rfl rfl ?_
 simp+decide (disch:=first|exact E0|fail) only[go_sem,↓reduceIte,Q7,List.contains_cons,List.contains_nil,List.flatMap_cons,List.flatMap_nil,List.append_nil]
 refine Qa hP he2 rfl rfl rfl ?_
 simp+decide (disch:=first|exact E0|fail) only[go_sem,↓reduceIte,Q7,List.contains_cons,List.contains_nil,List.flatMap_cons,List.flatMap_nil,List.append_nil]
 refine Qa hP hv1 rfl rfl rfl ?_
 simp+decide (disch:=first|exact E0|fail) only[go_sem,↓reduceIte,Q7,List.contains_cons,List.contains_nil,List.flatMap_cons,List.flatMap_nil,List.append_nil]
 refine Qb3 hP hc1 Ur0 rfl ?_
 simp+decide (disch:=first|exact E0|fail) only[go_sem,↓reduceIte,Q7,List.contains_cons,List.contains_nil,List.flatMap_cons,List.flatMap_nil,List.append_nil]
 refine Qa hP hv0 rfl rfl rfl ?_
 simp+decide (disch:=first|exact E0|fail) only[go_sem,↓reduceIte,Q7,List.contains_cons,List.contains_nil,List.flatMap_cons,List.flatMap_nil,List.append_nil]
 refine Qb3 hP hc2 Ur0 rfl ?_
 simp+decide (disch:=first|exact E0|fail) only[go_sem,↓reduceIte,Q7,List.contains_cons,List.contains_nil,List.flatMap_cons,List.flatMap_nil,List.append_nil]
 refine Qa hP hv0 rfl rfl rfl ?_
 simp+decide (disch:=first|exact E0|fail) only[go_sem,↓reduceIte,Q7,List.contains_cons,List.contains_nil,List.flatMap_cons,List.flatMap_nil,List.append_nil]
 refine Qa hP hv1 rfl rfl rfl ?_
 simp+decide (disch:=first|exact E0|fail) only[go_sem,↓reduceIte,Q7,List.contains_cons,List.contains_nil,List.flatMap_cons,List.flatMap_nil,List.append_nil]
 refine Qb3 hP hsl Ur0 rfl ?_
 simp+decide (disch:=first|exact E0|fail) only[go_sem,↓reduceIte,Q7,List.contains_cons,List.contains_nil,List.flatMap_cons,List.flatMap_nil,List.append_nil]
 exact Qc rfl rfl
end Go.Proofs.YtonfajmchebkeaaGreat
namespace Go.Proofs.YtonfajmchebkeaaGreat
open Go Go.FW
set_option linter.unusedSimpArgs false
set_option linter.unusedVariables false
set_option maxRecDepth 100000
theorem Qq4{l:List RTm}{k:Nat}(hb:∀t∈l,RB k t)(h:Qhv l=true):PV.rpoly l=PV.poly (l.map RTm.tm)/\Sm4 (l.map RTm.tm):=by
 simp only[Qhv,Bool.and_eq_true,decide_eq_true_eq,List.all_eq_true]at h
 obtain⟨h1,h2,h3⟩:=h
 obtain⟨e1,e2⟩:=Q80 hb h3
 refine⟨e1,e2.nrm,fun t ht=> ?_,fun t ht=> ?_,by simpa using h1⟩
 ·obtain⟨x,hx,rfl⟩:=List.mem_map.1 ht
  have hs:=h2 x hx
  simp only[smK,Bool.and_eq_true,decide_eq_true_eq,List.all_eq_true]at hs
  have hv:=e2.t _ ht
  have hr:=(show Raw 2 x.n x.a x.d from⟨(hb x hx).r.1,(hb x hx).r.2.1,hs.2.1,hs.2.2.1,by omega⟩).rs
  have hm:=MB.ofOk hv.m
  refine⟨?_,⟨hm.len,hm.lo,fun y hy=>hs.2.2.2 y hy⟩,Qsj hv.m⟩
  show rs (rv x.n x.a x.d)+1<=3
  omega
 ·obtain⟨x,hx,rfl⟩:=List.mem_map.1 ht
  have hs:=h2 x hx
  simp only[smK,Bool.and_eq_true,decide_eq_true_eq,List.all_eq_true]at hs
  exact hs.1
def tms(ls:List (List RTm)):List (List Tm):=ls.map fun l=>l.map RTm.tm
theorem Qq5{ls:List (List RTm)}{k:Nat}(hb:∀l∈ls,(∀t∈l,RB k t)/\l.length<2^40)(h:Ql4 ls=true):PV.sl 1 (ls.map PV.rpoly)=PV.polys (tms ls)/\(∀f∈tms ls,Sm4 f)/\(tms ls).length<=4:=by
 simp only[Ql4,Bool.and_eq_true,decide_eq_true_eq,List.all_eq_true]at h
 refine⟨?_,fun f hf=> ?_,by unfold tms;rw[List.length_map];exact h.1⟩
 ·unfold tms PV.polys
  rw[List.map_map]
  exact congrArg _ (List.map_congr_left fun l hl=>(Qq4 (hb l hl).1 (h.2 l hl)).1)
 ·obtain⟨l,hl,rfl⟩:=List.mem_map.1 hf
  exact(Qq4 (hb l hl).1 (h.2 l hl)).2
theorem Qmu{c:Qfl}{k:Nat}(hb:RC k c)(h:Ql5 c=true):PV.rcert c=PV.cert (tms c.fs) c.ps c.n (tms c.cs)/\(∀f∈tms c.fs,Sm4 f)/\(tms c.fs).length<=4/\(∀f∈tms c.cs,Sm4 f)/\(tms c.cs).length<=4/\c.ps.length<=6:=by
 simp only[Ql5,Bool.and_eq_true,decide_eq_true_eq]at h
 obtain⟨h1,h2,h3⟩:=h
 obtain⟨a1,a2,a3⟩:=Qq5 hb.f h1
 obtain⟨b1,b2,b3⟩:=Qq5 hb.g h2
 refine⟨?_,a2,a3,b2,b3,h3⟩
 unfold PV.rcert
 rw[a1,b1]
theorem Q62 {fs :List (List Tm)} {ps:List Int} (hl:fs.length<2^40) (hl2:ps.length<2^40) (hf:∀f∈fs,f.length<2^40):Qe Tryz.prog 29 [PV.polys fs,PV.mono ps] (fun r=>∃b,r= .bool b):=by
  refine Qf Qj Tryz.func29 rfl Qao5 (by simp[c29]) fun C hP=> ?_;simp only[c29,Zo,Zg,Zm,Zc,Zf,Zl,Zh,Zs,Zi,Zb,Zk,Zn,Zu,Zq,Zr,Zz]
  simp+decide (disch:=first|exact D0|fail) only[go_sem,↓reduceIte]
  refine Qx (by repeat (first|exact Qt|exact Qm|exact Qn|exact Qo|exact Qp|apply Ql|apply Qr|apply Qy|apply Q3|apply Q4|apply Qi|apply Qw)) [(4,56)] [] (fun m J hp=>∃(i:Nat)(z:Int),m=ps.length-i/\i<=ps.length/\J 5= .int .i64 z/\J 6= .int .i64 (i:Nat)) ps.length ?_ ?_
  · refine⟨0,0,rfl,by omega,?_⟩
    simp+decide (disch:=first|exact D0|fail) only[go_sem,↓reduceIte]
    rfl
  rintro _ J h ⟨i,z,rfl,hi,h5,h6⟩
  simp+decide (disch:=first|exact D1 h6|fail) only[go_sem,↓reduceIte,h6]
  refine Qb (fun hg=> ?_) (fun hg=> ?_)
  · have hi' : i < ps.length:=by omega
    generalize hx:ps[i]=x at *
    simp+decide (disch:=first|exact D2 h6 hx|fail) only[go_sem,↓reduceIte,h6,hx]
    refine Q8 (fun h1=> ?_) (fun h1=> ?_)
    · simp +decide (disch:=first|exact D2 h6 hx|fail) only[go_sem,↓reduceIte,h6,hx]
      refine Qb (fun h2=> ?_) (fun h2=> ?_)
      · simp+decide (disch:=first|exact D0|fail) only[go_sem,↓reduceIte]
        exact⟨rfl,_,Qv _,⟨_,rfl⟩⟩
      simp+decide (disch:=first|exact D2 h6 hx|fail) only[go_sem,↓reduceIte,h6,hx]
      refine Q8 (fun h2=> ?_) (fun h2=> ?_)
      · simp+decide (disch:=first|exact D2 h6 hx|fail) only[go_sem,↓reduceIte,h6,hx]
        refine Q8 (fun h3=> ?_) (fun h3=> ?_)
        · simp+decide (disch:=first|exact D2 h6 hx|fail) only[go_sem,↓reduceIte,h6,hx]
          refine Q8 (fun h4=> ?_) (fun h4=> ?_)
          · have hif:i<fs.length:=by omega
            have hfl:=hf _ (List.getElem_mem hif)
            generalize hy:fs[i]=y at *
            simp+decide (disch:=first|exact D3 h6 hx hy|fail) only[go_sem,↓reduceIte,h6,hx,hy]
            refine Qb (fun h7=> ?_) (fun h7=> ?_)
            · simp +decide (disch:=first|exact D3 h6 hx h5|fail) only[go_sem,↓reduceIte,h6,hx,h5]
              first
                | (refine Qg (ps.length-(i+1)) (by omega) ⟨i+1,z+x,rfl,by omega,?_⟩
                   simp+decide (disch:=first|exact D0|fail) only[go_sem,↓reduceIte]
                   done)
                | (refine Qg (ps.length-(i+1)) (by omega) ⟨i+1,IntKind.i64.wrap (z+x),rfl,by omega,?_⟩
                   simp+decide (disch:=first|exact D0|fail) only[go_sem,↓reduceIte])
            · simp+decide (disch:=first|exact D2 h6 hx|fail) only[go_sem,↓reduceIte,h6,hx]
              refine Qg (ps.length-(i+1)) (by omega) ⟨i+1,z,rfl,by omega,?_⟩
              simp+decide (disch:=first|exact D1 h5|fail) only[go_sem,↓reduceIte,h5]
          · simp+decide (disch:=first|exact D2 h6 hx|fail) only[go_sem,↓reduceIte,h6,hx]
            refine Qg (ps.length-(i+1)) (by omega) ⟨i+1,z,rfl,by omega,?_⟩
            simp+decide (disch:=first|exact D1 h5|fail) only[go_sem,↓reduceIte,h5]
        · simp+decide (disch:=first|exact D2 h6 hx|fail) only[go_sem,↓reduceIte,h6,hx]
          refine Qg (ps.length-(i+1)) (by omega) ⟨i+1,z,rfl,by omega,?_⟩
          simp+decide (disch:=first|exact D1 h5|fail) only[go_sem,↓reduceIte,h5]
      · simp+decide (disch:=first|exact D2 h6 hx|fail) only[go_sem,↓reduceIte,h6,hx]
        refine Qg (ps.length-(i+1)) (by omega) ⟨i+1,z,rfl,by omega,?_⟩
        simp+decide (disch:=first|exact D1 h5|fail) only[go_sem,↓reduceIte,h5]
    simp+decide (disch:=first|exact D2 h6 hx|fail) only[go_sem,↓reduceIte,h6,hx]
    refine Q8 (fun h2=> ?_) (fun h2=> ?_)
    · simp+decide (disch:=first|exact D2 h6 hx|fail) only[go_sem,↓reduceIte,h6,hx]
      refine Q8 (fun h3=> ?_) (fun h3=> ?_)
      · simp+decide (disch:=first|exact D2 h6 hx|fail) only[go_sem,↓reduceIte,h6,hx]
        refine Q8 (fun h4=> ?_) (fun h4=> ?_)
        · have hif:i<fs.length:=by omega
          have hfl:=hf _ (List.getElem_mem hif)
          generalize hy:fs[i]=y at *
          simp+decide (disch:=first|exact D3 h6 hx hy|fail) only[go_sem,↓reduceIte,h6,hx,hy]
          refine Qb (fun h7=> ?_) (fun h7=> ?_)
          · simp +decide (disch:=first|exact D3 h6 hx h5|fail) only[go_sem,↓reduceIte,h6,hx,h5]
            first
              | (refine Qg (ps.length-(i+1)) (by omega) ⟨i+1,z+x,rfl,by omega,?_⟩
                 simp+decide (disch:=first|exact D0|fail) only[go_sem,↓reduceIte]
                 done)
              | (refine Qg (ps.length-(i+1)) (by omega) ⟨i+1,IntKind.i64.wrap (z+x),rfl,by omega,?_⟩
                 simp+decide (disch:=first|exact D0|fail) only[go_sem,↓reduceIte])
          · simp+decide (disch:=first|exact D2 h6 hx|fail) only[go_sem,↓reduceIte,h6,hx]
            refine Qg (ps.length-(i+1)) (by omega) ⟨i+1,z,rfl,by omega,?_⟩
            simp+decide (disch:=first|exact D1 h5|fail) only[go_sem,↓reduceIte,h5]
        · simp+decide (disch:=first|exact D2 h6 hx|fail) only[go_sem,↓reduceIte,h6,hx]
          refine Qg (ps.length-(i+1)) (by omega) ⟨i+1,z,rfl,by omega,?_⟩
          simp+decide (disch:=first|exact D1 h5|fail) only[go_sem,↓reduceIte,h5]
      · simp+decide (disch:=first|exact D2 h6 hx|fail) only[go_sem,↓reduceIte,h6,hx]
        refine Qg (ps.length-(i+1)) (by omega) ⟨i+1,z,rfl,by omega,?_⟩
        simp+decide (disch:=first|exact D1 h5|fail) only[go_sem,↓reduceIte,h5]
    · simp+decide (disch:=first|exact D2 h6 hx|fail) only[go_sem,↓reduceIte,h6,hx]
      refine Qg (ps.length-(i+1)) (by omega) ⟨i+1,z,rfl,by omega,?_⟩
      simp+decide (disch:=first|exact D1 h5|fail) only[go_sem,↓reduceIte,h5]
  · simp+decide (disch:=first|exact D1 h5|fail) only[go_sem,↓reduceIte,h5]
    exact⟨rfl,_,Qv _,⟨_,rfl⟩⟩
end Go.Proofs.YtonfajmchebkeaaGreat
namespace Go.Proofs.YtonfajmchebkeaaGreat
open Go Go.FW
set_option linter.unusedSimpArgs false
set_option linter.unusedVariables false
set_option maxRecDepth 100000
theorem Qje{l:List (List Tm)}(h:∀f∈l,Sm4 f)(hl:l.length<=4):(∀f∈l,Sml f)/\(∀f∈l,Big f)/\Qhw l/\∀f∈l,f.length<2^40:=
 ⟨fun f hf=>(h f hf).sml,fun f hf=>(h f hf).sml.big,⟨fun f hf=>Qk9 (h f hf),by omega⟩,fun f hf=>by have:=(h f hf).l;omega⟩
end Go.Proofs.YtonfajmchebkeaaGreat
namespace Go.Proofs.YtonfajmchebkeaaGreat
open Go Go.FW Go.ChangeShapes Go.WideShapes Go.ChangeAt Go.RowKit
set_option linter.unusedSimpArgs false
set_option linter.unusedVariables false
set_option maxRecDepth 100000
variable {H : Type} {enc : TypeId × Value -> H}
def Q63(l:List Int):Prop:=l.length<=1048576/\∀x∈l,-9223372036854775808<=x/\x<=9223372036854775807
theorem Qaly:Rd enc 26 fun ps=>∃l:List Int,ps=[PV.mono l]/\Q63 l:=by
 refine(Qg9 (α:=Int) (f:=fun(x:Int)=> .int .i64 x) Qbi Tryz.underlying26 (by rw[Qj2];omega) (Qqj Tryz.underlying3)).mono ?_
 rintro ps ⟨l,rfl,h1,h2⟩
 exact⟨l,by rw[Qj2],h1,h2⟩
def Qr0(c:Qfl):Prop:=Qj8 c.fs/\Q63 c.ps/\(-9223372036854775808<=c.n/\c.n<=9223372036854775807)/\Qj8 c.cs
theorem Qalz:Rd enc 79 fun ps=>∃c:Qfl,ps=(PV.rcert c).cells/\Qr0 c:=by
 refine(Q1i (Qs:=[fun ps=>∃ls:List (List RTm),ps=[.sl 1 (ls.map PV.rpoly)]/\Qj8 ls,fun ps=>∃l:List Int,ps=[PV.mono l]/\Q63 l,fun ps=>∃n:Int,ps=[.int .i64 n]/\ -9223372036854775808<=n/\n<=9223372036854775807,fun ps=>∃ls:List (List RTm),ps=[.sl 1 (ls.map PV.rpoly)]/\Qj8 ls]) Qbi Tryz.underlying79 (by kernel_rfl) ⟨rfl,Qts,by kernel_rfl,Qaly,by kernel_rfl,Qqj Tryz.underlying3,by kernel_rfl,Qts,trivial⟩).mono ?_
 rintro ps ⟨p,q,rfl,⟨f,rfl,h1⟩,p2,q2,rfl,⟨l,rfl,h2⟩,p3,q3,rfl,⟨n,rfl,h3⟩,p4,q4,rfl,⟨c,rfl,h4⟩,rfl⟩
 exact⟨⟨f,l,n,c⟩,rfl,h1,h2,h3,h4⟩
variable {w : World} {base : Nat} {spare : Nat -> Bool} {held : Bool} {r : Reach} {b0 : Nat} {v : Value} {d : DataW H} {ps : List MemPlace}
theorem Qagi(Qcv:Value.okWide Tryz.prog w r b0 79 v)(hd:DataW.Trod enc Tryz.prog w base spare held 79 v d ps)(hn:Rows.uptoBulk d<=1048576):∃c,Qak w Qbd (PV.rcert c) v/\Qr0 c:=by
 obtain⟨p,⟨c,rfl,h⟩,h2⟩:=Q5x Tryz.underlying79 Qcv Qalz hd hn
 exact⟨c,h2,h⟩
theorem Qr1{ls:List (List RTm)}(h:Qj8 ls):(∀l∈ls,(∀t∈l,RB 1048576 t)/\l.length<2^40)/\ls.length<2^40:=⟨fun l hl=>⟨fun t ht=>((h.2 l hl).2 t ht).1,by have:=(h.2 l hl).1;omega⟩,by have:=h.1;omega⟩
theorem Q64{c:Qfl}(h:Qr0 c):RC 1048576 c:=by
 obtain⟨h1,h2,h3,h4⟩:=h
 exact⟨(Qr1 h1).1,(Qr1 h4).1,(Qr1 h1).2,(Qr1 h4).2,by have:=h2.1;omega⟩
end Go.Proofs.YtonfajmchebkeaaGreat
namespace Go.Proofs.YtonfajmchebkeaaGreat
open Go Go.FW
set_option linter.unusedSimpArgs false
set_option linter.unusedVariables false
set_option maxRecDepth 100000
theorem Qr2(ls:List (List RTm)):(tms ls).length=ls.length:=List.length_map _
theorem Q65{c:Qfl}{k:Nat}(hb:RC k c)(h:Qjr c=true):Ql5 c=true/\c.ps.length=(tms c.fs).length/\(∀f∈tms c.fs,f≠[])/\(∀x∈c.ps,0<=x/\x<=4)/\∀x∈(tms c.fs).zip c.ps,Qmt x:=by
 simp only[Qjr,Bool.and_eq_true,decide_eq_true_eq,List.all_eq_true,List.mem_range]at h
 obtain⟨h1,h2,h3⟩:=h
 obtain⟨_,q1,_⟩:=Qmu hb h1
 have key:∀i (hi:i<c.ps.length) (hf:i<(tms c.fs).length),0<=c.ps[i]/\c.ps[i]<=4/\(tms c.fs)[i]≠[]:=fun i hi hf=>by
  have h4:=h3 i hi
  have hif:i<c.fs.length:=by rwa[Qr2]at hf
  have e2:c.ps.getD i 0=c.ps[i]:=by simp[hi]
  have e3:c.fs.getD i []=c.fs[i]:=by simp[hif]
  simp only[Qms,decide_eq_true_eq,e2,e3]at h4
  refine⟨h4.1,h4.2.1,fun e=>h4.2.2 ?_⟩
  have e4:(tms c.fs)[i]=c.fs[i].map RTm.tm:=by simp[tms]
  rw[e4]at e
  exact List.map_eq_nil_iff.1 e
 refine⟨h1,by rw[Qr2];exact h2,fun f hf=> ?_,fun x hx=> ?_,fun x hx=> ?_⟩
 ·obtain⟨i,hi,rfl⟩:=List.getElem_of_mem hf
  exact(key i (by rw[h2];rwa[Qr2]at hi) hi).2.2
 ·obtain⟨i,hi,rfl⟩:=List.getElem_of_mem hx
  have:=key i hi (by rw[Qr2];omega)
  exact⟨this.1,this.2.1⟩
 ·obtain⟨i,hi,rfl⟩:=List.getElem_of_mem hx
  have hz:((tms c.fs).zip c.ps).length=min (tms c.fs).length c.ps.length:=List.length_zip
  rw[List.getElem_zip]
  have:=key i (by omega) (by omega)
  exact⟨q1 _ (List.getElem_mem _),this.2.2,this.1,this.2.1⟩
theorem Qapy{l:List (List Tm)}{j:Nat}(h:∀c∈l,Cf j c)(hj:j<=20)(hl:l.length<=8):Qhw l:=⟨fun c hc=>(h c hc).pb hj,by omega⟩
theorem Q3j(fs:List (List Tm))(ps:List Int)(n:Int)(cs:List (List Tm)):Qdi fs ps n cs fs ps n cs=true:=decide_eq_true ⟨rfl,rfl,rfl,rfl⟩
theorem Qr3{c d:Qfl}{k:Nat}(hc:RC k c)(hd:RC k d)(hk1:1<=k)(hk:k<2^36):Qe Tryz.prog 12 [PV.rcert c,PV.rcert d] (· = .bool true):=by
 have hfa:=Q93 hc hk1 hk
 have hsm:=Qph hd hk1 hk
 refine Qf Qj Tryz.func12 rfl Qao8 (by simp[c12]) fun C hP=> ?_;simp only[c12,Zo,Zg,Zm,Zc,Zf,Zl,Zh,Zs,Zi,Zb,Zk,Zn,Zu,Zq,Zr,Zz]
 simp+decide (disch:=first|exact D0|fail) only[go_sem,↓reduceIte]
 refine Qa hP hfa rfl rfl rfl ?_
 cases h1:Qjr c
 ·simp+decide (disch:=first|exact D0|fail) only[go_sem,↓reduceIte]
  refine Qa hP Qc0 rfl rfl rfl ?_
  simp+decide (disch:=first|exact D0|fail) only[go_sem,↓reduceIte]
  exact Qc rfl rfl
 obtain⟨h2,hl,hne,hpi,hF⟩:=Q65 hc h1
 obtain⟨he,f4,fl4,c4,cl4,p6⟩:=Qmu hc h2
 have he':PV.agg [PV.sl 1 (List.map PV.rpoly c.fs),PV.mono c.ps,PV.int .i64 c.n,PV.sl 1 (List.map PV.rpoly c.cs)]=PV.cert (tms c.fs) c.ps c.n (tms c.cs):=he
 simp+decide (disch:=first|exact D0|fail) only[go_sem,↓reduceIte]
 refine Qa hP hsm rfl rfl rfl ?_
 cases h3:Ql5 d
 ·simp+decide (disch:=first|exact D0|fail) only[go_sem,↓reduceIte]
  refine Qa hP Qc0 rfl rfl rfl ?_
  simp+decide (disch:=first|exact D0|fail) only[go_sem,↓reduceIte]
  exact Qc rfl rfl
 obtain⟨ge,g4,gl4,e4,el4,r6⟩:=Qmu hd h3
 have ge':PV.agg [PV.sl 1 (List.map PV.rpoly d.fs),PV.mono d.ps,PV.int .i64 d.n,PV.sl 1 (List.map PV.rpoly d.cs)]=PV.cert (tms d.fs) d.ps d.n (tms d.cs):=ge
 rw[he',ge']
 obtain⟨q1,q2,q3,q4⟩:=Qje f4 fl4
 obtain⟨r1,r2,r3,r4⟩:=Qje c4 cl4
 obtain⟨t1,t2,t3,t4⟩:=Qje g4 gl4
 obtain⟨u1,u2,u3,u4⟩:=Qje e4 el4
 obtain⟨fs,ps,n,ds⟩:=c
 obtain⟨fs2,ps2,n2,ds2⟩:=d
 simp only at *
 generalize tms fs=F at *
 generalize tms ds=D at *
 generalize tms fs2=F2 at *
 generalize tms ds2=D2 at *
 have hsp:=Q4u (ps:=ps) fun x hx=>(hpi x hx).2
 have hm:=Qw9 hl hF (by omega) c4 (by omega) (by omega)
 obtain⟨gs,qs,es,hR⟩:=Qvs _ (i:=0) hm (Nat.le_refl _)
 obtain⟨j',hm2⟩:=hR.mn hm
 have hj:=hm2.s
 have k1:Qhw gs:=⟨fun f h=>Qk9 (hm2.f f h).1,by have:=hm2.fl;omega⟩
 have k2:=Qapy hm2.c (by omega) hm2.cl
 have k3:qs.length<2^40:=by have:=hm2.fl;have:=hm2.l;omega
 have c1:=Qn4 (n:=n) hl hF (by omega) c4 (by omega) (by omega) hR
 have c2:=Qxa (n:=n) hl hF (by omega) c4 (by omega) (by omega) hR
 have d1:=Qs1 (n:=n) (n':=n) k1 k1 k2 k2 k3 k3
 have d2:=Qs0 (ps:=ps) (ps':=ps2) (n:=n) (n':=n2) q3 t3 r3 u3 (by omega) (by omega)
 have d3:=Qs1 (ps:=ps) (ps':=ps2) (n:=n) (n':=n2) q3 t3 r3 u3 (by omega) (by omega)
 have d4:=Qs0 (ps:=ps) (ps':=ps) (n:=n) (n':=n) q3 q3 r3 r3 (by omega) (by omega)
 rw[Q3j]at d1 d4
 generalize Qdi F ps n D F2 ps2 n2 D2=b at *
 simp+decide (disch:=first|exact D0|fail) only[go_sem,↓reduceIte]
 refine Qa hP c1 rfl rfl rfl ?_
 simp+decide (disch:=first|exact D0|fail) only[go_sem,↓reduceIte]
 refine Qa hP c2 rfl rfl rfl ?_
 simp+decide (disch:=first|exact D0|fail) only[go_sem,↓reduceIte]
 refine Qa hP d1 rfl rfl rfl ?_
 simp+decide (disch:=first|exact D0|fail) only[go_sem,↓reduceIte]
 refine Qa hP d2 rfl rfl rfl ?_
 simp+decide (disch:=first|exact D0|fail) only[go_sem,↓reduceIte]
 refine Qa hP d3 rfl rfl rfl ?_
 simp+decide (disch:=first|omega|rfl|(simp+decide only[go_sem,↓reduceIte,beq_self_eq_true]<;>rfl)|fail) only[go_sem,↓reduceIte,beq_self_eq_true]
 refine Qa hP d4 rfl rfl rfl ?_
 simp+decide (disch:=first|exact D0|fail) only[go_sem,↓reduceIte]
 refine Qa hP Qc0 rfl rfl rfl ?_
 simp+decide (disch:=first|exact D0|fail) only[go_sem,↓reduceIte]
 exact Qc rfl rfl
end Go.Proofs.YtonfajmchebkeaaGreat
namespace Go.Proofs.YtonfajmchebkeaaGreat
open Go Go.FW
set_option linter.unusedSimpArgs false
set_option linter.unusedVariables false
set_option maxRecDepth 100000
theorem Qy9(n:Nat):∀(a:Rat),rs a*n<=2^32->n<=2^40->Qe Tryz.prog 70 [PV.rat a,.int .i64 n] (· =PV.rat (Qb7 a n)):=by
 have h1:=Qth
 have h1':((1:Int):Rat)=1:=rfl
 induction n using Nat.strongRecOn with
 | ind n ih=>
  intro a hB hn
  have e2:(2:Int)=((2:Nat):Int):=rfl
  have hrem:∀d fr hp K,Qaz .rem false (.int .i64 (n:Int)) (.int .i64 2) d fr hp K=K (upd fr d (.int .i64 ((n%2:Nat):Int))) hp:=fun d fr hp K=>by
   rw[e2,Qdp (by omega)]
  have hquo:∀d fr hp K,Qaz .quo false (.int .i64 (n:Int)) (.int .i64 2) d fr hp K=K (upd fr d (.int .i64 ((n/2:Nat):Int))) hp:=fun d fr hp K=>by
   rw[e2,Qrk (by omega) (by omega)]
  refine Qf Qj Tryz.func70 rfl Qanz (by simp[c70]) fun C hP=> ?_;simp only[c70,Zo,Zg,Zm,Zc,Zf,Zl,Zh,Zs,Zi,Zb,Zk,Zn,Zu,Zq,Zr,Zz]
  simp+decide (disch:=first|exact D0|fail) only[go_sem,↓reduceIte]
  refine Qb (fun h0=> ?_) (fun h0=> ?_)
  ·obtain rfl:n=0:=by omega
   simp+decide (disch:=first|exact D0|fail) only[go_sem,↓reduceIte]
   refine Qa hP (Qcn (x:=1) (by omega) (by omega)) rfl rfl rfl ?_
   simp+decide (disch:=first|exact D0|fail) only[go_sem,↓reduceIte]
   refine Qa2 ?_
   simp+decide (disch:=first|exact D0|fail) only[go_sem,↓reduceIte]
   exact Qc rfl rfl
  have ha:rs a<=rs a*n:=Nat.le_mul_of_pos_right _ (by omega)
  have hmm:=Qlr a a
  have hd2:rs (a*a)*(n/2)<=rs a*(2*(n/2)):=by
   rw[<-Nat.mul_assoc];exact Nat.mul_le_mul_right _ (by omega)
  have hd3:rs a*(2*(n/2))<=rs a*n:=Nat.mul_le_mul_left _ (by omega)
  have hqr:=Qrs (a*a) (n/2)
  simp+decide (disch:=first|exact D2 hrem hquo|fail) only[go_sem,↓reduceIte,hrem,hquo]
  refine Qa hP (Qly (a:=a) (b:=a) (k:=2^33) (by omega) (by omega) (by omega)) rfl rfl rfl ?_
  simp+decide (disch:=first|exact D2 hrem hquo|fail) only[go_sem,↓reduceIte,hrem,hquo]
  refine Qa hP (ih (n/2) (by omega) (a*a) (by omega) (by omega)) rfl rfl rfl ?_
  simp+decide (disch:=first|exact D2 hrem hquo|fail) only[go_sem,↓reduceIte,hrem,hquo]
  refine Qb (fun h2=> ?_) (fun h2=> ?_)
  ·simp+decide (disch:=first|exact D0|fail) only[go_sem,↓reduceIte]
   refine Qa hP (Qly (a:=Qb7 (a*a) (n/2)) (b:=a) (k:=2^33) (by omega) (by omega) (by omega)) rfl rfl rfl ?_
   simp+decide (disch:=first|exact D0|fail) only[go_sem,↓reduceIte]
   refine Qa2 ?_
   simp+decide (disch:=first|exact D0|fail) only[go_sem,↓reduceIte]
   exact Qc (by rw[Qyx (by omega)]) rfl
  ·simp+decide (disch:=first|exact D0|fail) only[go_sem,↓reduceIte]
   refine Qa2 ?_
   simp+decide (disch:=first|exact D0|fail) only[go_sem,↓reduceIte]
   exact Qc (by rw[Qwq (by omega)]) rfl
theorem Q2e{p:List Tm}{vs:List Rat}{K E W:Nat}(hp:PB K E p)(hv:∀v∈vs,rs v<=W)(hW:1<=W)(hB:1+p.length*(K+64*(1+W*E))+(K+64*(1+W*E))<=2^31)(hE:E<=2^38)(hlp:p.length<=2^36)(hlv:vs.length<=2^36):
  Qe Tryz.prog 26 [PV.poly p,PV.rats vs] (· =evR vs p):=by
 have h0:((0:Int):Rat)=0:=rfl
 refine Qf Qj Tryz.func26 rfl Qanw (by simp[c26]) fun C hP=> ?_;simp only[c26,Zo,Zg,Zm,Zc,Zf,Zl,Zh,Zs,Zi,Zb,Zk,Zn,Zu,Zq,Zr,Zz]
 simp+decide (disch:=first|exact D0|fail) only[go_sem,↓reduceIte]
 refine Qa hP (Qcn (x:=0) (by omega) (by omega)) rfl rfl rfl ?_
 simp+decide (disch:=first|exact D0|fail) only[go_sem,↓reduceIte]
 refine Qx (by repeat (first|exact Qt|exact Qm|exact Qn|exact Qo|exact Qp|apply Ql|apply Qr|apply Qy|apply Q3|apply Q4|apply Qi|apply Qw)) [(5,5),(7,7),(12,27)] [] (fun n J hp=>∃i,n=p.length-i/\i<=p.length/\(∀t∈p.take i,¬vs.length<t.2.length)/\J 7= .int .i64 (i:Nat)/\hp 4=some ⟨3,32,[.agg [.bool false,.nilS,.nilS]],false⟩/\hp 6=some ⟨3,32,[PV.rat 0],false⟩) p.length ?_ ?_
 ·refine⟨0,rfl,by omega,by simp,?_⟩
  simp+decide (disch:=first|exact D0|fail) only[go_sem,↓reduceIte]
  exact⟨rfl,rfl⟩
 rintro _ J h ⟨i,rfl,hi,h1,h7,hh4,hh6⟩
 simp+decide (disch:=first|exact D1 h7|fail) only[go_sem,↓reduceIte,h7]
 refine Qb (fun hg=> ?_) (fun hg=> ?_)
 ·have hi':i<p.length:=by omega
  have htp:=hp.get hi'
  have hmem:=List.getElem_mem hi'
  have htk:p.take (i+1)=p.take i++[p[i]]:=List.take_succ_eq_append_getElem hi'
  generalize hx:p[i]=x at *
  have hml:=htp.m.len
  simp+decide (disch:=first|exact D2 h7 hx|fail) only[go_sem,↓reduceIte,h7,hx]
  refine Qb (fun hc=> ?_) (fun hc=> ?_)
  ·have ho:Qtn vs p=true:=by
    unfold Qtn;rw[List.any_eq_true];exact⟨x,hmem,decide_eq_true (by omega)⟩
   simp+decide (disch:=first|exact D1 hh4|fail) only[go_sem,↓reduceIte,hh4]
   refine Qdh ?_
   simp+decide (disch:=first|exact D0|fail) only[go_sem,↓reduceIte]
   exact Qbh (p':=PV.rr false [] []) (q':= .int .i64 2) (by rw[evR,if_pos ho]) rfl rfl ⟨rfl,trivial,trivial,trivial⟩ (Qv _)
  ·simp+decide (disch:=first|exact D1 h7|fail) only[go_sem,↓reduceIte,h7]
   refine Qg (p.length-(i+1)) (by omega) ⟨i+1,rfl,by omega,?_,?_⟩
   ·rw[htk]
    intro z hz
    rcases List.mem_append.1 hz with hz|hz
    ·exact h1 z hz
    ·simp only[List.mem_singleton]at hz;subst hz;omega
   ·simp+decide (disch:=first|exact D2 hh4 hh6|fail) only[go_sem,↓reduceIte,hh4,hh6]
 ·obtain rfl:i=p.length:=by omega
  rw[List.take_length]at h1
  have ho:Qtn vs p=false:=by
   unfold Qtn;rw[List.any_eq_false];intro t ht;simpa using h1 t ht
  simp+decide (disch:=first|exact D2 hh4 hh6|fail) only[go_sem,↓reduceIte,hh4,hh6]
  refine Qx (by repeat (first|exact Qt|exact Qm|exact Qn|exact Qo|exact Qp|apply Ql|apply Qr|apply Qy|apply Q3|apply Q4|apply Qi|apply Qw)) [(8,10),(28,66)] [9] (fun n J hp=>∃i,n=p.length-i/\i<=p.length/\J 8= .int .i64 (i:Nat)/\hp 4=some ⟨3,32,[.agg [.bool false,.nilS,.nilS]],false⟩/\hp 6=some ⟨3,32,[PV.rat (Qat vs (p.take i))],false⟩) p.length ?_ ?_
  ·refine⟨0,rfl,by omega,?_⟩
   simp+decide (disch:=first|exact D2 hh4 hh6|fail) only[go_sem,↓reduceIte,hh4,hh6]
   exact⟨rfl,rfl⟩
  rintro _ J1 h1' ⟨i,rfl,hi1,h8,hk4,hk8⟩
  simp+decide (disch:=first|exact D1 h8|fail) only[go_sem,↓reduceIte,h8]
  refine Qb (fun hg1=> ?_) (fun hg1=> ?_)
  ·have hi':i<p.length:=by omega
   have htp:=hp.get hi'
   have hxl:=h1 _ (List.getElem_mem hi')
   have htk:=Qu3 (vs:=vs) hi'
   have hrp:=Qto hp hv hW i (by omega)
   generalize hx:p[i]=x at *
   have hml:=htp.m.len
   have hxc:=htp.c
   have hmono:i*(K+64*(1+W*E))<=p.length*(K+64*(1+W*E)):=Nat.mul_le_mul_right _ hi1
   have hme:=fun j=>Qws (vs:=vs) htp.m hv hW x.1 j
   have hjm:∀j,j<=x.2.length->j*(1+W*E)<=64*(1+W*E):=fun j hj=>Nat.mul_le_mul_right _ (by omega)
   simp+decide (disch:=first|exact D2 h8 hx|fail) only[go_sem,↓reduceIte,h8,hx]
   refine Qx (by repeat (first|exact Qt|exact Qm|exact Qn|exact Qo|exact Qp|apply Ql|apply Qr|apply Qy|apply Q3|apply Q4|apply Qi|apply Qw)) [(10,10),(39,63)] [] (fun n J hp=>∃j,n=x.2.length-j/\j<=x.2.length/\J 10= .int .i64 (j:Nat)/\hp 4=some ⟨3,32,[.agg [.bool false,.nilS,.nilS]],false⟩/\hp 6=some ⟨3,32,[PV.rat (Qat vs (p.take i))],false⟩/\hp 9=some ⟨3,32,[PV.rat (x.1*Qez vs x.2 j)],false⟩) x.2.length ?_ ?_
   ·refine⟨0,rfl,by omega,?_⟩
    have e0:x.1*Qez vs x.2 0=x.1:=by show x.1*1=x.1;grind
    rw[e0]
    simp+decide (disch:=first|exact D2 hk4 hk8|fail) only[go_sem,↓reduceIte,hk4,hk8]
    rfl
   rintro _ J2 h2 ⟨j,rfl,hj,h10,hl4,hl8,hl11⟩
   simp+decide (disch:=first|exact D3 h8 h10 hx|fail) only[go_sem,↓reduceIte,h8,h10,hx]
   refine Qb (fun hg2=> ?_) (fun hg2=> ?_)
   ·have hj':j<x.2.length:=by omega
    have hje:=Qch hj'
    have hjb:=htp.m.eN j
    have hms:Qez vs x.2 (j+1)=Qez vs x.2 j*Qb7 (vs.getD j 0) (eN x.2 j).toNat:=rfl
    generalize hy:x.2[j]=y at *
    obtain⟨m,rfl⟩:∃m:Nat,y=m:=⟨y.toNat,by omega⟩
    rw[hje,Int.toNat_natCast]at hms
    rw[hje]at hjb
    have hjv:j<vs.length:=by omega
    have hvg:vs.getD j 0=vs[j]:=by simp[List.getD_eq_getElem?_getD,hjv]
    have hvw:=hv _ (List.getElem_mem hjv)
    rw[hvg]at hms
    generalize hvj:vs[j]=v at *
    have hwe:rs v*m<=W*E:=Nat.mul_le_mul hvw (by omega)
    have hqp:=Qrs v m
    have hm1:=hme j
    have hm2:=hjm j hj
    simp+decide (disch:=first|exact D6 h8 h10 hx hy hl11 hvj|fail) only[go_sem,↓reduceIte,h8,h10,hx,hy,hl11,hvj]
    refine Qa hP (Qy9 m v (by omega) (by omega)) rfl rfl rfl ?_
    simp+decide (disch:=first|exact D6 h8 h10 hx hy hl11 hvj|fail) only[go_sem,↓reduceIte,h8,h10,hx,hy,hl11,hvj]
    refine Qa hP (Qly (a:=x.1*Qez vs x.2 j) (b:=Qb7 v m) (k:=2^33) (by omega) (by omega) (by omega)) rfl rfl rfl ?_
    simp+decide (disch:=first|exact D6 h8 h10 hx hy hl11 hvj|fail) only[go_sem,↓reduceIte,h8,h10,hx,hy,hl11,hvj]
    refine Qg (x.2.length-(j+1)) (by omega) ⟨j+1,rfl,by omega,?_⟩
    have e1:x.1*Qez vs x.2 (j+1)=x.1*Qez vs x.2 j*Qb7 v m:=by rw[hms];grind
    rw[e1]
    simp+decide (disch:=first|exact D2 hl4 hl8|fail) only[go_sem,↓reduceIte,hl4,hl8]
   ·obtain rfl:j=x.2.length:=by omega
    have hm1:=hme x.2.length
    have hm2:=hjm x.2.length (Nat.le_refl _)
    have hra:=Qnp (Qat vs (p.take i)) (x.1*mev vs x.2)
    rw[show Qez vs x.2 x.2.length=mev vs x.2 from rfl]at hl11 hm1
    simp+decide (disch:=first|exact D4 h8 h10 hl8 hl11|fail) only[go_sem,↓reduceIte,h8,h10,hl8,hl11]
    refine Qa hP (Q1m (a:=Qat vs (p.take i)) (b:=x.1*mev vs x.2) (k:=2^33) (by omega) (by omega) (by omega)) rfl rfl rfl ?_
    simp+decide (disch:=first|exact D4 h8 h10 hl8 hl11|fail) only[go_sem,↓reduceIte,h8,h10,hl8,hl11]
    simp (disch:=decide) only[Qbw,Qf8]
    refine Qg (p.length-(i+1)) (by omega) ⟨i+1,rfl,by omega,?_⟩
    rw[htk]
    simp+decide (disch:=first|exact D1 hl4|fail) only[go_sem,↓reduceIte,hl4]
  ·obtain rfl:i=p.length:=by omega
   rw[List.take_length]at hk8
   simp+decide (disch:=first|exact D2 hk4 hk8|fail) only[go_sem,↓reduceIte,hk4,hk8]
   refine Qdh ?_
   simp+decide (disch:=first|exact D0|fail) only[go_sem,↓reduceIte]
   exact Qbh (by rw[evR,if_neg (by simp[ho])]) rfl rfl (Qv _) (Qv _)
end Go.Proofs.YtonfajmchebkeaaGreat
namespace Go.FW
open Go
set_option maxRecDepth 100000
theorem Qs3:∀ {l:List (List Tm×Nat)} {p r:List Tm},Qf6 l p=some r->r=Qrv l p
 | [],p,r,h=>(Option.some.inj h).symm
 | x::l,p,r,h=>by
  unfold Qf6 at h
  cases hr:Qcu x.1 x.2 p with
  |none=>rw[hr]at h;cases h
  |some s=>
   rw[hr]at h
   rw[Qs3 h,Ql1 hr];rfl
theorem Qal0{o:Option (List Tm)}(h:(Qhs o).2=0):o=some (Qhs o).1:=by
 cases o with
 |none=>cases h
 |some r=>rfl
theorem Q66{fs:List (List Tm)}{ps:List Int}(h:(Qde fs ps).2=0):fs.length=ps.length/\Qjq ps=true/\(Qde fs ps).1=Qrv (Qht fs ps) (Qbk 1):=by
 unfold Qde at h⊢
 split at h
 ·rename_i h1
  rw[if_pos h1]
  split at h
  ·rename_i h2
   rw[if_pos h2]
   exact⟨h1,h2,Qs3 (Qal0 h)⟩
  ·cases h
 ·cases h
theorem Q2f {fs:List (List Tm)} {ps:List Int} {n:Int} {cs hs:List (List Tm)} {g:List Tm} (h:Qgt fs ps n cs hs g=0):
  fs.length=ps.length/\Qjq ps=true/\cs.length=hs.length/\1<=n/\n<=64/\(∀f∈fs,f≠[])/\Qeo g (Qrv (Qht fs ps) (Qbk 1)) n.toNat=Qco (cs.zip hs) (cs.zip hs).length:=by
 unfold Qgt at h
 split at h
 ·rename_i h0
  obtain⟨a1,a2,a3⟩:=Q66 h0
  split at h
  ·cases h
  ·rename_i h1
   split at h
   ·cases h
   ·rename_i h2
    split at h
    ·rename_i h3
     split at h
     ·cases h
     ·rename_i l hr
      split at h
      ·rename_i h4
       split at h
       ·rename_i h5
        obtain⟨_,_,b3,_⟩:=Q15 h4
        refine⟨a1,a2,h3,by omega,by omega,fun f hf e=>h1 (List.any_eq_true.2 ⟨f,hf,by rw[e];rfl⟩),?_⟩
        rw[<-a3,<-Ql1 hr,h5,b3]
       ·cases h
      ·rename_i h4;exact absurd h h4
    ·cases h
 ·rename_i h0;exact absurd h h0
theorem Q3k(vs:List Rat)(a:Rat):Qat vs (Qbk a)=a:=by
 unfold Qat
 rw[Q57]
 exact Rat.mul_one a
theorem Q3l{vs:List Rat}{fs:List (List Tm)}{ps:List Int}{n:Int}{cs hs:List (List Tm)}{g:List Tm}(h:Qgt fs ps n cs hs g=0)(hf:∀f∈fs,Sml f)(hc:∀c∈cs,Big c)(hh:∀c∈hs,Sml c)(hg:Sml g)
  (h0:∀p∈hs,Qat vs p=0) (hn:∀i (h1:i<fs.length) (h2:i<ps.length),0<ps[i]->Qat vs fs[i]≠0):Qat vs g=0:=by
 obtain⟨a1,a2,a3,_,_,_,a4⟩:=Q2f h
 have hz:=Q4n (P:=Big) (Q:=Sml) hc hh
 refine Q6o (K:=8388608) (E:=16384) (c:=cs.zip hs) (f:=Qht fs ps) (one:=Qbk 1) (n:=n.toNat) (fun x hx=>⟨(hz x hx).1.n,(hz x hx).2.n⟩) (fun x hx=>⟨(hz x hx).1.PB,(hz x hx).2.PB.mono (by omega) (by omega)⟩) (fun x hx=> ?_) SZ.one.x ?_ ?_ (fun x hx=> ?_) (fun x hx hx2=> ?_) a4
 ·obtain⟨i,hi,rfl⟩:=List.getElem_of_mem hx
  have hi':i<fs.length:=by rwa[Qhu a1]at hi
  rw[Qpg a1 hi']
  exact⟨64,(hf _ (List.getElem_mem hi')).z.x⟩
 ·rw[Q3k];decide
 ·obtain⟨K,hK⟩:=hg.z.x
  exact⟨K,hK.mono (Nat.le_refl _) (by omega)⟩
 ·obtain⟨i,hi,rfl⟩:=List.getElem_of_mem hx
  rw[List.getElem_zip]
  exact h0 _ (List.getElem_mem _)
 ·obtain⟨i,hi,rfl⟩:=List.getElem_of_mem hx
  have hi':i<fs.length:=by rwa[Qhu a1]at hi
  rw[Qpg a1 hi']at hx2⊢
  exact hn i hi' (by omega) (by simp only at hx2;omega)
end Go.FW
