/- Part 12 of the proof of IdealMore: G12, G13, G14, L2, FwNK. Own lemmas; no conditions. -/
import Derived.Test.YtonfajmchebkeaaGreatIdealMorePart11
set_option linter.unusedSimpArgs false
set_option linter.unnecessarySimpa false
set_option linter.unusedVariables false
namespace Go.Proofs.YtonfajmchebkeaaGreat
open Go Go.FW
set_option linter.unusedSimpArgs false
set_option linter.unusedVariables false
set_option maxRecDepth 100000
theorem Q9e{v:Nat}(hv:v<64):Qd Tryz.prog 73 [.int .i64 v] (· =PV.poly (Q9 v)):=by
 refine Qf Qk Tryz.func73 rfl Qam0 (by simp[c73]) fun C hP=> ?_;simp only[c73,Zo,Zg,Zm,Zc,Zf,Zl,Zh,Zs,Zi,Zb,Zk,Zn,Zu,Zq,Zr,Zz]
 simp+decide (disch:=first|exact D0|fail) only[go_sem,↓reduceIte]
 refine Qa hP (Q12 hv) rfl rfl rfl ?_
 simp+decide (disch:=first|exact D0|fail) only[go_sem,↓reduceIte]
 exact Qc rfl rfl
theorem Q5o:Qd Tryz.prog 74 [] (· =PV.poly (Qbj 1)):=by
 have hone:=Qzn
 refine Qf Qk Tryz.func74 rfl Qam1 (by simp[c74]) fun C hP=> ?_;simp only[c74,Zo,Zg,Zm,Zc,Zf,Zl,Zh,Zs,Zi,Zb,Zk,Zn,Zu,Zq,Zr,Zz]
 simp+decide (disch:=first|exact D0|fail) only[go_sem,↓reduceIte]
 refine Qa hP Qam8 rfl rfl rfl ?_
 simp+decide (disch:=first|exact D0|fail) only[go_sem,↓reduceIte]
 refine Qa hP (Q5c (k:=4) (by omega) (by omega)) rfl rfl rfl ?_
 simp+decide (disch:=first|exact D0|fail) only[go_sem,↓reduceIte]
 exact Qc rfl rfl
theorem Qni{p:List Tm}(h:Sm4 p):PB 1073741824 1048576 p/\p.length<=8589934592:=⟨h.b.mono (by omega) (by omega),by have:=h.l;omega⟩
theorem Qdn:Qd Tryz.prog 30 [] (· = .bool true):=by
 have s0:Sm4 (Q9 0):=Qnh (by decide+kernel)
 have s1:Sm4 (Q9 1):=Qnh (by decide+kernel)
 have s2:Sm4 (Qbj 1):=Qnh (by decide+kernel)
 have s3:Sm4 (Qu (Q9 0) (Q9 0)):=Qnh (by decide+kernel)
 have s4:Sm4 (Qu (Q9 0) (Q9 1)):=Qnh (by decide+kernel)
 have s5:Sm4 (Qy (Qu (Q9 0) (Q9 1)) (Q9 0)):=Qnh (by decide+kernel)
 have n0:Q9 0≠[]:=by decide+kernel
 have hv0:Qd Tryz.prog 73 [.int .i64 0] (· =PV.poly (Q9 0)):=Q9e (v:=0) (by omega)
 have hv1:Qd Tryz.prog 73 [.int .i64 1] (· =PV.poly (Q9 1)):=Q9e (v:=1) (by omega)
 have hm0:=Q5d (m:=4) (P:=Q9 0) (q:=Q9 0) ⟨s0.sml.z.mono (by omega) (by omega) (by omega),s0.n,by have:=s0.l;omega⟩ s0.sml (by omega)
 have hm1:=Q5d (m:=4) (P:=Q9 0) (q:=Q9 1) ⟨s0.sml.z.mono (by omega) (by omega) (by omega),s0.n,by have:=s0.l;omega⟩ s1.sml (by omega)
 have hcb:=Qnd (cs:=[Q9 1,Q9 0]) (ls:=[Q9 0,Qbj 1]) (by simp;exact⟨s1.sml.big,s0.sml.big⟩) (by simp;exact⟨s0.sml,s2.sml⟩) (by simp) (by simp)
 have hpr:=Qne (fs:=[Q9 0,Q9 1]) (ps:=[2,0]) (by simp;exact⟨s0.sml,s1.sml⟩) (by simp) (by simp)
 have hck:=fun(g:List Tm) (hg:Sml g)=>Qih (fs:=[Q9 0]) (ps:=[1]) (n:=1) (cs:=[Qbj 1]) (hs:=[Qu (Q9 0) (Q9 1)]) (g:=g) (by simp;exact s0.sml) (by simp) (by simp) (by simp;exact s2.sml.big) (by simp) (by simp;exact s4.sml) (by simp) hg
 have hc1:=hck (Q9 1) s1.sml
 have hc2:=hck (Q9 0) s0.sml
 have hmn:=Qng (fs:=[Q9 0]) (ps:=[2]) (n:=1) (cs:=[Qu (Q9 0) (Q9 0),Qu (Q9 0) (Q9 1)]) rfl (by simp;exact⟨s0,n0,by omega,by omega⟩) (by simp) (by simp;exact⟨s3,s4⟩) (by simp) (by simp[Qd9]) Qanq
 have had:=Qrt (p:=Qu (Q9 0) (Q9 1)) (q:=Q9 0) s4.b s0.b (by omega) (by omega) (by have:=s4.l;omega) (by have:=s0.l;omega)
 have he1:=Qj3 s5.b s5.b (by omega) (by omega) (by have:=s5.l;omega) (by have:=s5.l;omega)
 have he2:=Qj3 s3.b s3.b (by omega) (by omega) (by have:=s3.l;omega) (by have:=s3.l;omega)
 have hsl:=Q5e (a:=[Q9 0,Q9 1]) (b:=[Q9 0,Q9 1]) ⟨by simp;exact⟨Qni s0,Qni s1⟩,by simp⟩ ⟨by simp;exact⟨Qni s0,Qni s1⟩,by simp⟩
 rw[Qaju]at hcb
 rw[Qajv]at hpr
 rw[Qaox]at hc1
 rw[Qaoy]at hc2
 rw[decide_eq_true rfl]at he1 he2 hsl
 have hone:=Q5o
 clear s0 s1 s2 s3 s4 s5 n0 hck
 generalize Qy (Qu (Q9 0) (Q9 1)) (Q9 0)=A at *
 generalize Qu (Q9 0) (Q9 0)=M0 at *
 generalize Qu (Q9 0) (Q9 1)=M1 at *
 generalize Qbj 1=O at *
 generalize Q9 0=V0 at *
 generalize Q9 1=V1 at *
 refine Qf Qk Tryz.func30 rfl Qamz (by simp[c30]) fun C hP=> ?_;simp only[c30,Zo,Zg,Zm,Zc,Zf,Zl,Zh,Zs,Zi,Zb,Zk,Zn,Zu,Zq,Zr,Zz]
 simp+decide (disch:=first|exact D0|fail) only[go_sem,↓reduceIte]
 refine Qa hP hv0 rfl rfl rfl ?_
 simp+decide (disch:=first|exact D0|fail) only[go_sem,↓reduceIte]
 refine Qa hP hone rfl rfl rfl ?_
 simp+decide (disch:=first|exact D0|fail) only[go_sem,↓reduceIte]
 rw[Q5l (Qcy.own (m:=1) (e:=1) (ty:=51) (xs:=[PV.poly V0]) (fz:=false) T0 rfl) (Qcy.own (m:=1) (e:=1) (ty:=3) (xs:=[PV.int .i64 1]) (fz:=false) T0 rfl) (Qcy.flat rfl) (Qcy.own (m:=1) (e:=1) (ty:=51) (xs:=[PV.poly O]) (fz:=false) T0 rfl)]
 refine⟨⟨rfl,by simp⟩,⟨rfl,by simp⟩,⟨rfl,by simp⟩,⟨rfl,by simp⟩,?_⟩
 simp+decide (disch:=first|exact E0|fail) only[go_sem,↓reduceIte,Q7,List.contains_cons,List.contains_nil,List.flatMap_cons,List.flatMap_nil,List.append_nil]
 refine Qa hP hv0 rfl rfl rfl ?_
 simp+decide (disch:=first|exact D0|fail) only[go_sem,↓reduceIte]
 refine Qa hP hv1 rfl rfl rfl ?_
 simp+decide (disch:=first|exact D0|fail) only[go_sem,↓reduceIte]
 refine Qa hP hm1 rfl rfl rfl ?_
 simp+decide (disch:=first|exact D0|fail) only[go_sem,↓reduceIte]
 refine Qa hP hv1 rfl rfl rfl ?_
 simp+decide (disch:=first|exact D0|fail) only[go_sem,↓reduceIte]
 refine Qa hP hv0 rfl rfl rfl ?_
 simp+decide (disch:=first|exact D0|fail) only[go_sem,↓reduceIte]
 refine Qa hP hv0 rfl rfl rfl ?_
 simp+decide (disch:=first|exact D0|fail) only[go_sem,↓reduceIte]
 refine Qa hP hone rfl rfl rfl ?_
 simp+decide (disch:=first|exact D0|fail) only[go_sem,↓reduceIte]
 refine Qcj hP hcb Ur0 rfl ?_
 simp+decide (disch:=first|exact D0|fail) only[go_sem,↓reduceIte]
 refine Qa hP hv0 rfl rfl rfl ?_
 simp+decide (disch:=first|exact D0|fail) only[go_sem,↓reduceIte]
 refine Qa hP hv1 rfl rfl rfl ?_
 simp+decide (disch:=first|exact D0|fail) only[go_sem,↓reduceIte]
 refine Qcj hP hpr Ur0 rfl ?_
 simp+decide (disch:=first|exact D0|fail) only[go_sem,↓reduceIte]
 refine Qa hP hv0 rfl rfl rfl ?_
 simp+decide (disch:=first|exact D0|fail) only[go_sem,↓reduceIte]
 refine Qa hP hv0 rfl rfl rfl ?_
 simp+decide (disch:=first|exact D0|fail) only[go_sem,↓reduceIte]
 refine Qa hP hv0 rfl rfl rfl ?_
 simp+decide (disch:=first|exact D0|fail) only[go_sem,↓reduceIte]
 refine Qa hP hm0 rfl rfl rfl ?_
 simp+decide (disch:=first|exact D0|fail) only[go_sem,↓reduceIte]
 refine Qa hP hv0 rfl rfl rfl ?_
 simp+decide (disch:=first|exact D0|fail) only[go_sem,↓reduceIte]
 refine Qa hP hv1 rfl rfl rfl ?_
 simp+decide (disch:=first|exact D0|fail) only[go_sem,↓reduceIte]
 refine Qa hP hm1 rfl rfl rfl ?_
 simp+decide (disch:=first|exact D0|fail) only[go_sem,↓reduceIte]
 rw[Q5l (Qcy.own (m:=1) (e:=1) (ty:=51) (xs:=[PV.poly V0]) (fz:=false) T0 rfl) (Qcy.own (m:=1) (e:=1) (ty:=3) (xs:=[PV.int .i64 2]) (fz:=false) T0 rfl) (Qcy.flat rfl) (Qcy.own (m:=2) (e:=1) (ty:=51) (xs:=[PV.poly M0,PV.poly M1]) (fz:=false) T0 rfl)]
 refine⟨⟨rfl,by simp⟩,⟨rfl,by simp⟩,⟨rfl,by simp⟩,⟨rfl,by simp⟩,?_⟩
 simp+decide (disch:=first|exact E0|fail) only[go_sem,↓reduceIte,Q7,List.contains_cons,List.contains_nil,List.flatMap_cons,List.flatMap_nil,List.append_nil]
 refine Qa hP hmn rfl rfl rfl ?_
 simp+decide (disch:=first|exact E0|fail) only[go_sem,↓reduceIte,Q7,List.contains_cons,List.contains_nil,List.flatMap_cons,List.flatMap_nil,List.append_nil]
 rw[Qaeq (ty:=51) (xs:=[PV.poly M1]) (fz:=false) U0 (by omega)]
 simp+decide (disch:=first|exact E0|fail) only[go_sem,↓reduceIte,Q7,List.contains_cons,List.contains_nil,List.flatMap_cons,List.flatMap_nil,List.append_nil]
 refine Qa hP hv0 rfl rfl rfl ?_
 simp+decide (disch:=first|exact E0|fail) only[go_sem,↓reduceIte,Q7,List.contains_cons,List.contains_nil,List.flatMap_cons,List.flatMap_nil,List.append_nil]
 refine Qa hP had rfl rfl rfl ?_
 simp+decide (disch:=first|exact E0|fail) only[go_sem,↓reduceIte,Q7,List.contains_cons,List.contains_nil,List.flatMap_cons,List.flatMap_nil,List.append_nil]
 refine Qa hP he1 rfl rfl rfl ?_
 simp+decide (disch:=first|exact E0|fail) only[go_sem,↓reduceIte,Q7,List.contains_cons,List.contains_nil,List.flatMap_cons,List.flatMap_nil,List.append_nil]
 refine Qa hP hv0 rfl rfl rfl ?_
 simp+decide (disch:=first|exact E0|fail) only[go_sem,↓reduceIte,Q7,List.contains_cons,List.contains_nil,List.flatMap_cons,List.flatMap_nil,List.append_nil]
 refine Qa hP hv0 rfl rfl rfl ?_
 simp+decide (disch:=first|exact E0|fail) only[go_sem,↓reduceIte,Q7,List.contains_cons,List.contains_nil,List.flatMap_cons,List.flatMap_nil,List.append_nil]
 refine Qa hP hm0 rfl rfl rfl ?_
 simp+decide (disch:=first|exact E0|fail) only[go_sem,↓reduceIte,Q7,List.contains_cons,List.contains_nil,List.flatMap_cons,List.flatMap_nil,List.append_nil]
 refine Qa hP he2 rfl rfl rfl ?_
 simp+decide (disch:=first|exact E0|fail) only[go_sem,↓reduceIte,Q7,List.contains_cons,List.contains_nil,List.flatMap_cons,List.flatMap_nil,List.append_nil]
 refine Qa hP hv1 rfl rfl rfl ?_
 simp+decide (disch:=first|exact E0|fail) only[go_sem,↓reduceIte,Q7,List.contains_cons,List.contains_nil,List.flatMap_cons,List.flatMap_nil,List.append_nil]
 refine Qcj hP hc1 Ur0 rfl ?_
 simp+decide (disch:=first|exact E0|fail) only[go_sem,↓reduceIte,Q7,List.contains_cons,List.contains_nil,List.flatMap_cons,List.flatMap_nil,List.append_nil]
 refine Qa hP hv0 rfl rfl rfl ?_
 simp+decide (disch:=first|exact E0|fail) only[go_sem,↓reduceIte,Q7,List.contains_cons,List.contains_nil,List.flatMap_cons,List.flatMap_nil,List.append_nil]
 refine Qcj hP hc2 Ur0 rfl ?_
 simp+decide (disch:=first|exact E0|fail) only[go_sem,↓reduceIte,Q7,List.contains_cons,List.contains_nil,List.flatMap_cons,List.flatMap_nil,List.append_nil]
 refine Qa hP hv0 rfl rfl rfl ?_
 simp+decide (disch:=first|exact E0|fail) only[go_sem,↓reduceIte,Q7,List.contains_cons,List.contains_nil,List.flatMap_cons,List.flatMap_nil,List.append_nil]
 refine Qa hP hv1 rfl rfl rfl ?_
 simp+decide (disch:=first|exact E0|fail) only[go_sem,↓reduceIte,Q7,List.contains_cons,List.contains_nil,List.flatMap_cons,List.flatMap_nil,List.append_nil]
 refine Qcj hP hsl Ur0 rfl ?_
 simp+decide (disch:=first|exact E0|fail) only[go_sem,↓reduceIte,Q7,List.contains_cons,List.contains_nil,List.flatMap_cons,List.flatMap_nil,List.append_nil]
 exact Qc rfl rfl
end Go.Proofs.YtonfajmchebkeaaGreat
namespace Go.Proofs.YtonfajmchebkeaaGreat
open Go Go.FW
set_option linter.unusedSimpArgs false
set_option linter.unusedVariables false
set_option maxRecDepth 100000
theorem Qmc{l:List RTm}{k:Nat}(hb:∀t∈l,RB k t)(h:Qg4 l=true):PV.rpoly l=PV.poly (l.map RTm.tm)/\Sm4 (l.map RTm.tm):=by
 simp only[Qg4,Bool.and_eq_true,decide_eq_true_eq,List.all_eq_true]at h
 obtain⟨h1,h2,h3⟩:=h
 obtain⟨e1,e2⟩:=Q7r hb h3
 refine⟨e1,e2.nrm,fun t ht=> ?_,fun t ht=> ?_,by simpa using h1⟩
 ·obtain⟨x,hx,rfl⟩:=List.mem_map.1 ht
  have hs:=h2 x hx
  simp only[smK,Bool.and_eq_true,decide_eq_true_eq,List.all_eq_true]at hs
  have hv:=e2.t _ ht
  have hr:=(show Raw 2 x.n x.a x.d from⟨(hb x hx).r.1,(hb x hx).r.2.1,hs.2.1,hs.2.2.1,by omega⟩).rs
  have hm:=MB.ofOk hv.m
  refine⟨?_,⟨hm.len,hm.lo,fun y hy=>hs.2.2.2 y hy⟩,Qri hv.m⟩
  show rs (rv x.n x.a x.d)+1<=3
  omega
 ·obtain⟨x,hx,rfl⟩:=List.mem_map.1 ht
  have hs:=h2 x hx
  simp only[smK,Bool.and_eq_true,decide_eq_true_eq,List.all_eq_true]at hs
  exact hs.1
def tms(ls:List (List RTm)):List (List Tm):=ls.map fun l=>l.map RTm.tm
theorem Qqb{ls:List (List RTm)}{k:Nat}(hb:∀l∈ls,(∀t∈l,RB k t)/\l.length<2^40)(h:Qll ls=true):PV.sl 1 (ls.map PV.rpoly)=PV.polys (tms ls)/\(∀f∈tms ls,Sm4 f)/\(tms ls).length<=4:=by
 simp only[Qll,Bool.and_eq_true,decide_eq_true_eq,List.all_eq_true]at h
 refine⟨?_,fun f hf=> ?_,by unfold tms;rw[List.length_map];exact h.1⟩
 ·unfold tms PV.polys
  rw[List.map_map]
  exact congrArg _ (List.map_congr_left fun l hl=>(Qmc (hb l hl).1 (h.2 l hl)).1)
 ·obtain⟨l,hl,rfl⟩:=List.mem_map.1 hf
  exact(Qmc (hb l hl).1 (h.2 l hl)).2
theorem Qxe{c:Qgi}{k:Nat}(hb:RC k c)(h:Qo2 c=true):PV.rcert c=PV.cert (tms c.fs) c.ps c.n (tms c.cs)/\(∀f∈tms c.fs,Sm4 f)/\(tms c.fs).length<=4/\(∀f∈tms c.cs,Sm4 f)/\(tms c.cs).length<=4/\c.ps.length<=6:=by
 simp only[Qo2,Bool.and_eq_true,decide_eq_true_eq]at h
 obtain⟨h1,h2,h3⟩:=h
 obtain⟨a1,a2,a3⟩:=Qqb hb.f h1
 obtain⟨b1,b2,b3⟩:=Qqb hb.g h2
 refine⟨?_,a2,a3,b2,b3,h3⟩
 unfold PV.rcert
 rw[a1,b1]
theorem Q5p {fs :List (List Tm)} {ps:List Int} (hl:fs.length<2^40) (hl2:ps.length<2^40) (hf:∀f∈fs,f.length<2^40):Qd Tryz.prog 29 [PV.polys fs,PV.mono ps] (fun r=>∃b,r= .bool b):=by
  refine Qf Qk Tryz.func29 rfl Qam2 (by simp[c29]) fun C hP=> ?_;simp only[c29,Zo,Zg,Zm,Zc,Zf,Zl,Zh,Zs,Zi,Zb,Zk,Zn,Zu,Zq,Zr,Zz]
  simp+decide (disch:=first|exact D0|fail) only[go_sem,↓reduceIte]
  refine Q6 (by repeat (first|exact Qx|exact Qp|exact Qq|exact Qr|exact Qt|apply Qo|apply Qw|apply Q4|apply Qac|apply Qad|apply Qm|apply Q5)) [(4,56)] [] (fun m J hp=>∃(i:Nat)(z:Int),m=ps.length-i/\i<=ps.length/\J 5= .int .i64 z/\J 6= .int .i64 (i:Nat)) ps.length ?_ ?_
  · refine⟨0,0,rfl,by omega,?_⟩
    simp+decide (disch:=first|exact D0|fail) only[go_sem,↓reduceIte]
    rfl
  rintro _ J h ⟨i,z,rfl,hi,h5,h6⟩
  simp+decide (disch:=first|exact D1 h6|fail) only[go_sem,↓reduceIte,h6]
  refine Qb (fun hg=> ?_) (fun hg=> ?_)
  · have hi' : i < ps.length:=by omega
    generalize hx:ps[i]=x at *
    simp+decide (disch:=first|exact D2 h6 hx|fail) only[go_sem,↓reduceIte,h6,hx]
    refine Qan (fun h1=> ?_) (fun h1=> ?_)
    · simp +decide (disch:=first|exact D2 h6 hx|fail) only[go_sem,↓reduceIte,h6,hx]
      refine Qb (fun h2=> ?_) (fun h2=> ?_)
      · simp+decide (disch:=first|exact D0|fail) only[go_sem,↓reduceIte]
        exact⟨rfl,_,Qz _,⟨_,rfl⟩⟩
      simp+decide (disch:=first|exact D2 h6 hx|fail) only[go_sem,↓reduceIte,h6,hx]
      refine Qan (fun h2=> ?_) (fun h2=> ?_)
      · simp+decide (disch:=first|exact D2 h6 hx|fail) only[go_sem,↓reduceIte,h6,hx]
        refine Qan (fun h3=> ?_) (fun h3=> ?_)
        · simp+decide (disch:=first|exact D2 h6 hx|fail) only[go_sem,↓reduceIte,h6,hx]
          refine Qan (fun h4=> ?_) (fun h4=> ?_)
          · have hif:i<fs.length:=by omega
            have hfl:=hf _ (List.getElem_mem hif)
            generalize hy:fs[i]=y at *
            simp+decide (disch:=first|exact D3 h6 hx hy|fail) only[go_sem,↓reduceIte,h6,hx,hy]
            refine Qb (fun h7=> ?_) (fun h7=> ?_)
            · simp +decide (disch:=first|exact D3 h6 hx h5|fail) only[go_sem,↓reduceIte,h6,hx,h5]
              first
                | (refine Qi (ps.length-(i+1)) (by omega) ⟨i+1,z+x,rfl,by omega,?_⟩
                   simp+decide (disch:=first|exact D0|fail) only[go_sem,↓reduceIte]
                   done)
                | (refine Qi (ps.length-(i+1)) (by omega) ⟨i+1,IntKind.i64.wrap (z+x),rfl,by omega,?_⟩
                   simp+decide (disch:=first|exact D0|fail) only[go_sem,↓reduceIte])
            · simp+decide (disch:=first|exact D2 h6 hx|fail) only[go_sem,↓reduceIte,h6,hx]
              refine Qi (ps.length-(i+1)) (by omega) ⟨i+1,z,rfl,by omega,?_⟩
              simp+decide (disch:=first|exact D1 h5|fail) only[go_sem,↓reduceIte,h5]
          · simp+decide (disch:=first|exact D2 h6 hx|fail) only[go_sem,↓reduceIte,h6,hx]
            refine Qi (ps.length-(i+1)) (by omega) ⟨i+1,z,rfl,by omega,?_⟩
            simp+decide (disch:=first|exact D1 h5|fail) only[go_sem,↓reduceIte,h5]
        · simp+decide (disch:=first|exact D2 h6 hx|fail) only[go_sem,↓reduceIte,h6,hx]
          refine Qi (ps.length-(i+1)) (by omega) ⟨i+1,z,rfl,by omega,?_⟩
          simp+decide (disch:=first|exact D1 h5|fail) only[go_sem,↓reduceIte,h5]
      · simp+decide (disch:=first|exact D2 h6 hx|fail) only[go_sem,↓reduceIte,h6,hx]
        refine Qi (ps.length-(i+1)) (by omega) ⟨i+1,z,rfl,by omega,?_⟩
        simp+decide (disch:=first|exact D1 h5|fail) only[go_sem,↓reduceIte,h5]
    simp+decide (disch:=first|exact D2 h6 hx|fail) only[go_sem,↓reduceIte,h6,hx]
    refine Qan (fun h2=> ?_) (fun h2=> ?_)
    · simp+decide (disch:=first|exact D2 h6 hx|fail) only[go_sem,↓reduceIte,h6,hx]
      refine Qan (fun h3=> ?_) (fun h3=> ?_)
      · simp+decide (disch:=first|exact D2 h6 hx|fail) only[go_sem,↓reduceIte,h6,hx]
        refine Qan (fun h4=> ?_) (fun h4=> ?_)
        · have hif:i<fs.length:=by omega
          have hfl:=hf _ (List.getElem_mem hif)
          generalize hy:fs[i]=y at *
          simp+decide (disch:=first|exact D3 h6 hx hy|fail) only[go_sem,↓reduceIte,h6,hx,hy]
          refine Qb (fun h7=> ?_) (fun h7=> ?_)
          · simp +decide (disch:=first|exact D3 h6 hx h5|fail) only[go_sem,↓reduceIte,h6,hx,h5]
            first
              | (refine Qi (ps.length-(i+1)) (by omega) ⟨i+1,z+x,rfl,by omega,?_⟩
                 simp+decide (disch:=first|exact D0|fail) only[go_sem,↓reduceIte]
                 done)
              | (refine Qi (ps.length-(i+1)) (by omega) ⟨i+1,IntKind.i64.wrap (z+x),rfl,by omega,?_⟩
                 simp+decide (disch:=first|exact D0|fail) only[go_sem,↓reduceIte])
          · simp+decide (disch:=first|exact D2 h6 hx|fail) only[go_sem,↓reduceIte,h6,hx]
            refine Qi (ps.length-(i+1)) (by omega) ⟨i+1,z,rfl,by omega,?_⟩
            simp+decide (disch:=first|exact D1 h5|fail) only[go_sem,↓reduceIte,h5]
        · simp+decide (disch:=first|exact D2 h6 hx|fail) only[go_sem,↓reduceIte,h6,hx]
          refine Qi (ps.length-(i+1)) (by omega) ⟨i+1,z,rfl,by omega,?_⟩
          simp+decide (disch:=first|exact D1 h5|fail) only[go_sem,↓reduceIte,h5]
      · simp+decide (disch:=first|exact D2 h6 hx|fail) only[go_sem,↓reduceIte,h6,hx]
        refine Qi (ps.length-(i+1)) (by omega) ⟨i+1,z,rfl,by omega,?_⟩
        simp+decide (disch:=first|exact D1 h5|fail) only[go_sem,↓reduceIte,h5]
    · simp+decide (disch:=first|exact D2 h6 hx|fail) only[go_sem,↓reduceIte,h6,hx]
      refine Qi (ps.length-(i+1)) (by omega) ⟨i+1,z,rfl,by omega,?_⟩
      simp+decide (disch:=first|exact D1 h5|fail) only[go_sem,↓reduceIte,h5]
  · simp+decide (disch:=first|exact D1 h5|fail) only[go_sem,↓reduceIte,h5]
    exact⟨rfl,_,Qz _,⟨_,rfl⟩⟩
end Go.Proofs.YtonfajmchebkeaaGreat
namespace Go.Proofs.YtonfajmchebkeaaGreat
open Go Go.FW
set_option linter.unusedSimpArgs false
set_option linter.unusedVariables false
set_option maxRecDepth 100000
theorem Qv1{l:List (List Tm)}(h:∀f∈l,Sm4 f)(hl:l.length<=4):(∀f∈l,Sml f)/\(∀f∈l,Big f)/\PolL l/\∀f∈l,f.length<2^40:=
 ⟨fun f hf=>(h f hf).sml,fun f hf=>(h f hf).sml.big,⟨fun f hf=>Qni (h f hf),by omega⟩,fun f hf=>by have:=(h f hf).l;omega⟩
end Go.Proofs.YtonfajmchebkeaaGreat
namespace Go.Proofs.YtonfajmchebkeaaGreat
open Go Go.FW Go.ChangeShapes Go.WideShapes Go.ChangeAt Go.RowKit
set_option linter.unusedSimpArgs false
set_option linter.unusedVariables false
set_option maxRecDepth 100000
variable {H : Type} {enc : TypeId × Value -> H}
def Q5q(l:List Int):Prop:=l.length<=1048576/\∀x∈l,-9223372036854775808<=x/\x<=9223372036854775807
theorem Qajw:Rd enc 26 fun ps=>∃l:List Int,ps=[PV.mono l]/\Q5q l:=by
 refine(Qg7 (α:=Int) (f:=fun(x:Int)=> .int .i64 x) Qbi Tryz.underlying26 (by rw[Qjm];omega) (Qpu Tryz.underlying3)).mono ?_
 rintro ps ⟨l,rfl,h1,h2⟩
 exact⟨l,by rw[Qjm],h1,h2⟩
def Qx8(c:Qgi):Prop:=Qjt c.fs/\Q5q c.ps/\(-9223372036854775808<=c.n/\c.n<=9223372036854775807)/\Qjt c.cs
theorem Qajx:Rd enc 79 fun ps=>∃c:Qgi,ps=(PV.rcert c).cells/\Qx8 c:=by
 refine(Qz7 (Qs:=[fun ps=>∃ls:List (List RTm),ps=[.sl 1 (ls.map PV.rpoly)]/\Qjt ls,fun ps=>∃l:List Int,ps=[PV.mono l]/\Q5q l,fun ps=>∃n:Int,ps=[.int .i64 n]/\ -9223372036854775808<=n/\n<=9223372036854775807,fun ps=>∃ls:List (List RTm),ps=[.sl 1 (ls.map PV.rpoly)]/\Qjt ls]) Qbi Tryz.underlying79 (by kernel_rfl) ⟨rfl,Qsl,by kernel_rfl,Qajw,by kernel_rfl,Qpu Tryz.underlying3,by kernel_rfl,Qsl,trivial⟩).mono ?_
 rintro ps ⟨p,q,rfl,⟨f,rfl,h1⟩,p2,q2,rfl,⟨l,rfl,h2⟩,p3,q3,rfl,⟨n,rfl,h3⟩,p4,q4,rfl,⟨c,rfl,h4⟩,rfl⟩
 exact⟨⟨f,l,n,c⟩,rfl,h1,h2,h3,h4⟩
variable {w : World} {base : Nat} {spare : Nat -> Bool} {held : Bool} {r : Reach} {b0 : Nat} {v : Value} {d : DataW H} {ps : List MemPlace}
theorem Qaev(Qco:Value.okWide Tryz.prog w r b0 79 v)(hd:DataW.Trod enc Tryz.prog w base spare held 79 v d ps)(hn:Rows.uptoBulk d<=1048576):∃c,Qai w Qbf (PV.rcert c) v/\Qx8 c:=by
 obtain⟨p,⟨c,rfl,h⟩,h2⟩:=Q4m Tryz.underlying79 Qco Qajx hd hn
 exact⟨c,h2,h⟩
theorem Qq2{ls:List (List RTm)}(h:Qjt ls):(∀l∈ls,(∀t∈l,RB 1048576 t)/\l.length<2^40)/\ls.length<2^40:=⟨fun l hl=>⟨fun t ht=>((h.2 l hl).2 t ht).1,by have:=(h.2 l hl).1;omega⟩,by have:=h.1;omega⟩
theorem Qaoz{c:Qgi}(h:Qx8 c):RC 1048576 c:=by
 obtain⟨h1,h2,h3,h4⟩:=h
 exact⟨(Qq2 h1).1,(Qq2 h4).1,(Qq2 h1).2,(Qq2 h4).2,by have:=h2.1;omega⟩
end Go.Proofs.YtonfajmchebkeaaGreat
namespace Go.FW
open Go
section
variable {C : Ctx} {fr : Fr} {hp : HP} {w : World} {a : Act} {R : Qg}
def unl:List Bool->Nat
 | []=>0
 |true::l=>unl l
 |false::l=>unl l+1
theorem Q3g:∀ {l:List Bool} {i:Nat},l[i]? =some false->unl (l.set i true)+1=unl l
 | [],i,h=>by simp at h
 |b::l,0,h=>by simp at h;subst h;simp[unl]
 |b::l,i+1,h=>by
  simp at h
  have:=Q3g h
  cases b<;>simp[unl]<;>omega
theorem Q3h:∀(n:Nat),unl (List.replicate n false)=n
 |0=>rfl
 |n+1=>by simp[List.replicate_succ,unl,Q3h n]
theorem Q0x:∀ {l:List Bool} {i:Nat},unl l=0->l[i]? ≠some false
 | [],i,_=>by simp
 |true::l,0,_=>by simp
 |true::l,i+1,h=>by simpa using Q0x (l:=l) (i:=i) (by simpa[unl]using h)
 |false::l,_,h=>by simp[unl]at h
theorem Qr1{md:Region.Mode}{ops:Array Oper}{l:Array Bool}{i:Nat}(h:i∈Region.ready .any ops l):l.toList[i]? =some false:=by
 obtain⟨h1,_⟩:=mem_ready.1 h
 rcases Nat.lt_or_ge i l.size with h'|h'
 ·simp[h']at h1 ⊢;exact h1
 ·simp[Array.getElem?_eq_none h']at h1
def lst(l:Array Bool):Nat->Bool:=fun i=>l.getD i false
theorem Qajy{l:Array Bool}{i:Nat}(h:l.getD i true=false):lst (l.setIfInBounds i true)=fun k=>k==i||lst l k:=by
 funext k
 unfold lst
 have hi:i<l.size:=by
  rcases Nat.lt_or_ge i l.size with h'|h'
  ·exact h'
  ·simp[Array.getElem?_eq_none h']at h
 by_cases hk:i=k
 ·subst hk;simp[hi]
 ·rw[getD_set_ne false hk];simp[Ne.symm hk]
theorem Q9f(n:Nat):lst (Array.replicate n false)=fun _=>false:=by
 funext k;unfold lst;simp[Array.getD]
theorem Qajz{sk:List It}{ops:Array Oper}{Q:Exit->Act->World->Prop}(I:(Nat->Bool)->Qg)
  (hstep:∀l i,Qhg ops l->i∈Region.ready .any ops l->∃o g,ops[i]? =some o/\Qcv C.P C.N true ops o=some g/\∀fr hp,I (lst l) fr hp->Qcp C g.g g.o fr hp (fun fr hp=>∃fr0 hp0,Wk fr hp fr0 hp0/\I (fun k=>k==i||lst l k) fr0 hp0))
  (hend:∀l fr hp,Region.ready .any ops l=[]->l.size=ops.size->I (lst l) fr hp->∃fr0 hp0,Wk fr hp fr0 hp0/\vc C R sk fr0 hp0)
  (hQ:∀fr' hp' tmps' w',Sim C fr' hp' tmps' w'->vc C R sk fr' hp'->Q .normal { tmps:=tmps',defers:=[] } w'):
  ∀(n:Nat)(l:Array Bool)(fr:Fr)(hp:HP)(a:Act)(w:World),unl l.toList=n->l.size=ops.size->Qhg ops l->a.defers=[]->Sim C fr hp a.tmps w->I (lst l) fr hp->wpAny C.P .any ops (NoPanic Q) n l a w:=by
 intro n
 have fin:∀(l:Array Bool)(fr:Fr)(hp:HP)(a:Act)(w:World),Region.ready .any ops l=[]->l.size=ops.size->a.defers=[]->Sim C fr hp a.tmps w->I (lst l) fr hp->NoPanic Q .normal a w:=by
  intro l fr hp a w hr hz hd hs hI
  obtain⟨tmps,defers⟩:=a
  simp only at hd hs
  subst hd
  obtain⟨fr0,hp0,hw,hv⟩:=hend l fr hp hr hz hI
  exact hQ fr0 hp0 tmps w (hw _ _ _ hs) hv
 induction n with
 | zero=>
  intro l fr hp a w hn hz hdn hd hs hI
  have hr:Region.ready .any ops l=[]:=by
   cases h:Region.ready .any ops l with
   |nil=>rfl
   |cons i is=>exact absurd (Qr1 (md:= .any) (by rw[h];exact List.mem_cons_self)) (Q0x hn)
  exact⟨hr,fin l fr hp a w hr hz hd hs hI⟩
 |succ n ih=>
  intro l fr hp a w hn hz hdn hd hs hI
  refine⟨fun hr=>fin l fr hp a w hr hz hd hs hI,fun i hi=> ?_⟩
  obtain⟨o,g,ho,hg,hv⟩:=hstep l i hdn hi
  obtain⟨ρ,hsr⟩:=hs
  refine wpOp_mono (fun a' w' hA=> ?_) (Qnl ho hd hsr hg (hv fr hp hI))
  obtain⟨hd',⟨fr',hp',hs',fr0,hp0,hw,hv2⟩,_⟩:=hA
  have:=Q3g (Qr1 (md:= .any) hi)
  exact ih _ fr0 hp0 a' w' (by rw[Array.toList_setIfInBounds];omega) (by simpa using hz) (hdn.step hi) hd' (hw _ _ _ hs') (by rw[Qajy (mem_ready.1 hi).1];exact hv2)
theorem Qanr{id:Nat}{sk:List It}{ops:Array Oper}(gs:List GOp)(af:List (List Nat))(hm:C.P.follows .mixedOrders=true)
  (hg:ops.toList.map (Qcv C.P C.N true ops)=gs.map some) (ha:ops.toList.map (fun o=>(o.after.toList.filter (Region.binds .any)).map (·.on))=af)
  (hlt:∀i,i<af.length->∀k∈af.getD i [],k<i) (I:(Nat->Bool)->Qg) (h0:I (fun _=>false) fr hp)
  (hstep:∀l i g,gs[i]? =some g->l i=false->(∀k∈af.getD i [],l k=true)->(∀j,l j=true->∀k∈af.getD j [],l k=true)->
   ∀fr hp,I l fr hp->Qcp C g.g g.o fr hp (fun fr hp=>∃fr0 hp0,Wk fr hp fr0 hp0/\I (fun k=>k==i||l k) fr0 hp0))
  (hend:∀l fr hp,(∀i,i<gs.length->l i=true)->I l fr hp->∃fr0 hp0,Wk fr hp fr0 hp0/\vc C R sk fr0 hp0):vc C R (.c (.raw id ops)::sk) fr hp:=by
 have gsAt:∀(i:Nat)(o:Oper),ops[i]? =some o->∃g,gs[i]? =some g/\Qcv C.P C.N true ops o=some g:=by
  intro i o ho
  have h1:(ops.toList.map (Qcv C.P C.N true ops))[i]? =some (Qcv C.P C.N true ops o):=by simp[ho]
  rw[hg,List.getElem?_map]at h1
  cases h2:gs[i]? with
  |none=>simp[h2]at h1
  |some g=>rw[h2]at h1;exact⟨g,rfl,(Option.some.inj h1).symm⟩
 have afAt:∀(i:Nat)(o:Oper),ops[i]? =some o->af.getD i []=(o.after.toList.filter (Region.binds .any)).map (·.on):=by
  intro i o ho
  rw[<-ha]
  simp[ho]
 have opAt:∀i,i<gs.length->∃o,ops[i]? =some o:=by
  intro i hi
  have h1:=congrArg List.length hg
  simp only[List.length_map,Array.length_toList]at h1
  exact⟨ops[i]'(by omega),by simp⟩
 have down:∀l,Qhg ops l->∀j,lst l j=true->∀k∈af.getD j [],lst l k=true:=by
  intro l hd j hj k hk
  rcases Nat.lt_or_ge j ops.size with h'|h'
  ·have ho:ops[j]? =some ops[j]:=by simp[h']
   rw[afAt j _ ho]at hk
   obtain⟨e,he,rfl⟩:=List.mem_map.1 hk
   obtain⟨he,hb⟩:=List.mem_filter.1 he
   exact hd j _ ho hj e (by simpa using he) hb
  ·have:af.getD j []=[]:=by
    rw[<-ha];simp[Array.getElem?_eq_none h']
   rw[this]at hk;cases hk
 rw[vc]
 intro tmps w Q hs hQ
 refine wp_region_noPanic (wp_region_any hm (Qajz I ?_ ?_ hQ _ _ fr hp _ _ ?_ (by simp) (Qhg.start ops) rfl hs.drew (by rw[Q9f];exact h0)))
 ·intro l i hd hi
  obtain⟨h1,o,ho,h2⟩:=mem_ready.1 hi
  obtain⟨g,hgi,hco⟩:=gsAt i o ho
  refine⟨o,g,ho,hco,hstep (lst l) i g hgi ?_ ?_ (down l hd)⟩
  ·cases h:lst l i with
   |false=>rfl
   |true=>exact absurd h (Qv7 h1)
  ·intro k hk
   rw[afAt i o ho]at hk
   obtain⟨e,he,rfl⟩:=List.mem_map.1 hk
   obtain⟨he,hb⟩:=List.mem_filter.1 he
   exact h2 e (by simpa using he) hb
 ·intro l fr hp hr hz hI
  refine hend (lst l) fr hp ?_ hI
  intro i
  induction i using Nat.strongRecOn with
  | ind i ih=>
   intro hi
   cases h:lst l i with
   |true=>rfl
   | false=>
    exfalso
    obtain⟨o,ho⟩:=opAt i hi
    have hsz:i<ops.size:=(Array.getElem?_eq_some_iff.1 ho).1
    have:i∈Region.ready .any ops l:=by
     refine mem_ready.2 ⟨?_,o,ho,?_⟩
     ·unfold lst at h
      have hil:i<l.size:=by omega
      simp[hil]at h⊢
      exact h
     ·intro e he hb
      have hk:e.on∈af.getD i []:=by
       rw[afAt i o ho]
       exact List.mem_map.2 ⟨e,List.mem_filter.2 ⟨by simpa using he,hb⟩,rfl⟩
      have hil:i<af.length:=by rw[<-ha];simpa using hsz
      have hki:=hlt i hil _ hk
      exact ih e.on hki (by omega)
    rw[hr]at this;cases this
 ·rw[Array.toList_replicate,Q3h]
end
theorem wkx{C:Ctx}{R:Qg}{sk:List It}{fr fr1:Fr}{hp hp1:HP}(h:Wk fr hp fr1 hp1)(k:∃fr0 hp0,Wk fr1 hp1 fr0 hp0/\vc C R sk fr0 hp0):∃fr0 hp0,Wk fr hp fr0 hp0/\vc C R sk fr0 hp0:=
 k.elim fun a k=>k.elim fun b k=>⟨a,b,h.trans k.1,k.2⟩
theorem Qaj0{C:Ctx}{R:Qg}{sk:List It}{fr:Fr}{hp:HP}(h:vc C R sk fr hp):∃fr0 hp0,Wk fr hp fr0 hp0/\vc C R sk fr0 hp0:=⟨_,_,Wk.refl _ _,h⟩
theorem Qaj1{fr fr':Fr}{hp hp':HP}(hh:∀β,hp' β=hp β∨hp' β=none)(hf:∀s,fr' s= .undef∨(fr' s=rnP id (fr s)/\∀β∈(fr s).refs++(fr s).sref,hp' β=hp β)):Wk fr hp fr' hp':=by
 rintro C tmps w ⟨ρ,hs⟩
 have hk:∀β hb,hp' β=some hb->hp β=some hb:=fun β hb h=>by
  rcases hh β with e|e
  ·rw[<-e];exact h
  ·rw[e]at h;cases h
 have hX:∀b,Xof C ρ hp' b->Xof C ρ hp b:=by
  rintro b (hx|⟨γ,hg,g1,g2,g3⟩)
  ·exact .inl hx
  ·exact .inr ⟨γ,hg,hk _ _ g1,g2,g3⟩
 refine⟨ρ,hs.sz,hs.ext,hs.keep,fun γ hb hγ=> ?_,fun γ δ b g1 g2 g3 g4=> ?_,fun i=> ?_⟩
 ·obtain⟨q1,q2,q3,q4,q5⟩:=hs.own γ hb (hk _ _ hγ)
  refine⟨q1,q2,?_,q4,q5⟩
  cases hq:ρ γ with
  |none=>rw[hq]at q3;exact q3
  |some b=>
   rw[hq]at q3
   exact⟨q3.1,q3.2.1,q3.2.2.move rfl rfl rfl rfl fun q u hq=>Qv.sub hq hX⟩
 ·obtain⟨x1,k1⟩:=Option.ne_none_iff_exists'.1 g1
  obtain⟨x2,k2⟩:=Option.ne_none_iff_exists'.1 g2
  exact hs.inj γ δ b (by rw[hk _ _ k1];simp) (by rw[hk _ _ k2];simp) g3 g4
 ·rcases hf i with e|⟨e,hr⟩
  ·rw[e];trivial
  ·rw[e]
   exact(hs.slots i).ren hX fun β hβ=>⟨rfl,(fun hb hq=>⟨hb,by show hp' β=_;rw[hr β hβ];exact hq,rfl,rfl,rfl⟩),id⟩
def Qln(id:Nat):Code->Option (Array Oper)
 | .region i ops _=>if i=id then some ops else none
 | .seq a b=>(Qln id a).or (Qln id b)
 | .cond _ a b=>(Qln id a).or (Qln id b)
 | .block _ a=>Qln id a
 | .loop a=>Qln id a
 |_=>none
def Qao0(f:Func)(id:Nat):Array Oper:=((f.body.bind (Qln id)).getD #[])
end Go.FW
