/- Check accepts exactly the certificates of a goal, with the first error otherwise. -/
import Derived.Test.YtonfajmchebkeaaGreatIdealChecksPart11
set_option linter.unusedSimpArgs false
set_option linter.unnecessarySimpa false
set_option linter.unusedVariables false
namespace Go.Proofs.YtonfajmchebkeaaGreat
open Go Go.FW
set_option linter.unusedSimpArgs false
set_option linter.unusedVariables false
set_option maxRecDepth 100000
theorem Q7u{v:Nat}(hv:v<64):Qe Tryz.prog 73 [.int .i64 v] (· =PV.poly (Q9 v)):=by
 refine Qf Qk Tryz.func73 rfl Qalg (by simp[c73]) fun C hP=> ?_;simp only[c73,Zo,Zg,Zm,Zc,Zf,Zl,Zh,Zs,Zi,Zb,Zk,Zn,Zu,Zq,Zr,Zz]
 simp+decide (disch:=first|exact D0|fail) only[go_sem,↓reduceIte]
 refine Qa hP (Q0z hv) rfl rfl rfl ?_
 simp+decide (disch:=first|exact D0|fail) only[go_sem,↓reduceIte]
 exact Qc rfl rfl
theorem Q4i:Qe Tryz.prog 74 [] (· =PV.poly (Qbz 1)):=by
 have hone:=Quq
 refine Qf Qk Tryz.func74 rfl Qalh (by simp[c74]) fun C hP=> ?_;simp only[c74,Zo,Zg,Zm,Zc,Zf,Zl,Zh,Zs,Zi,Zb,Zk,Zn,Zu,Zq,Zr,Zz]
 simp+decide (disch:=first|exact D0|fail) only[go_sem,↓reduceIte]
 refine Qa hP Q7a rfl rfl rfl ?_
 simp+decide (disch:=first|exact D0|fail) only[go_sem,↓reduceIte]
 refine Qa hP (Qtu (k:=4) (by omega) (by omega)) rfl rfl rfl ?_
 simp+decide (disch:=first|exact D0|fail) only[go_sem,↓reduceIte]
 exact Qc rfl rfl
theorem Qm0{p:List Tm}(h:Sm4 p):PB 1073741824 1048576 p/\p.length<=1048576:=⟨h.b.mono (by omega) (by omega),by have:=h.l;omega⟩
theorem Qbt:Qe Tryz.prog 30 [] (· = .bool true):=by
 have s0:Sm4 (Q9 0):=Qmz (by decide+kernel)
 have s1:Sm4 (Q9 1):=Qmz (by decide+kernel)
 have s2:Sm4 (Qbz 1):=Qmz (by decide+kernel)
 have s3:Sm4 (Qaf (Q9 0) (Q9 0)):=Qmz (by decide+kernel)
 have s4:Sm4 (Qaf (Q9 0) (Q9 1)):=Qmz (by decide+kernel)
 have s5:Sm4 (Qy (Qaf (Q9 0) (Q9 1)) (Q9 0)):=Qmz (by decide+kernel)
 have n0:Q9 0≠[]:=by decide+kernel
 have hv0:Qe Tryz.prog 73 [.int .i64 0] (· =PV.poly (Q9 0)):=Q7u (v:=0) (by omega)
 have hv1:Qe Tryz.prog 73 [.int .i64 1] (· =PV.poly (Q9 1)):=Q7u (v:=1) (by omega)
 have hm0:=Qxa (m:=4) (P:=Q9 0) (q:=Q9 0) ⟨s0.sml.z.mono (by omega) (by omega) (by omega),s0.n,by have:=s0.l;omega⟩ s0.sml (by omega)
 have hm1:=Qxa (m:=4) (P:=Q9 0) (q:=Q9 1) ⟨s0.sml.z.mono (by omega) (by omega) (by omega),s0.n,by have:=s0.l;omega⟩ s1.sml (by omega)
 have hcb:=Qgm (cs:=[Q9 1,Q9 0]) (ls:=[Q9 0,Qbz 1]) (by simp;exact⟨s1.sml.big,s0.sml.big⟩) (by simp;exact⟨s0.sml,s2.sml⟩) (by simp) (by simp)
 have hpr:=Qin (fs:=[Q9 0,Q9 1]) (ps:=[2,0]) (by simp;exact⟨s0.sml,s1.sml⟩) (by simp) (by simp)
 have hck:=fun(g:List Tm) (hg:Sml g)=>Qpp (fs:=[Q9 0]) (ps:=[1]) (n:=1) (cs:=[Qbz 1]) (hs:=[Qaf (Q9 0) (Q9 1)]) (g:=g) (by simp;exact s0.sml) (by simp) (by simp) (by simp;exact s2.sml.big) (by simp) (by simp;exact s4.sml) (by simp) hg
 have hc1:=hck (Q9 1) s1.sml
 have hc2:=hck (Q9 0) s0.sml
 have hmn:=Qvb (fs:=[Q9 0]) (ps:=[2]) (n:=1) (cs:=[Qaf (Q9 0) (Q9 0),Qaf (Q9 0) (Q9 1)]) rfl (by simp;exact⟨s0,n0,by omega,by omega⟩) (by simp) (by simp;exact⟨s3,s4⟩) (by simp) (by simp[Qe6]) Qal6
 have had:=Ql8 (p:=Qaf (Q9 0) (Q9 1)) (q:=Q9 0) s4.b s0.b (by omega) (by omega) (by have:=s4.l;omega) (by have:=s0.l;omega)
 have he1:=Qdi s5.b s5.b (by omega) (by omega) (by have:=s5.l;omega) (by have:=s5.l;omega)
 have he2:=Qdi s3.b s3.b (by omega) (by omega) (by have:=s3.l;omega) (by have:=s3.l;omega)
 have hsl:=Q35 (a:=[Q9 0,Q9 1]) (b:=[Q9 0,Q9 1]) ⟨by simp;exact⟨Qm0 s0,Qm0 s1⟩,by simp⟩ ⟨by simp;exact⟨Qm0 s0,Qm0 s1⟩,by simp⟩
 rw[Qaic]at hcb
 rw[Qaid]at hpr
 rw[Qanb]at hc1
 rw[Qanc]at hc2
 rw[decide_eq_true rfl]at he1 he2 hsl
 have hone:=Q4i
 clear s0 s1 s2 s3 s4 s5 n0 hck
 generalize Qy (Qaf (Q9 0) (Q9 1)) (Q9 0)=A at *
 generalize Qaf (Q9 0) (Q9 0)=M0 at *
 generalize Qaf (Q9 0) (Q9 1)=M1 at *
 generalize Qbz 1=O at *
 generalize Q9 0=V0 at *
 generalize Q9 1=V1 at *
 refine Qf Qk Tryz.func30 rfl Qalf (by simp[c30]) fun C hP=> ?_;simp only[c30,Zo,Zg,Zm,Zc,Zf,Zl,Zh,Zs,Zi,Zb,Zk,Zn,Zu,Zq,Zr,Zz]
 simp+decide (disch:=first|exact D0|fail) only[go_sem,↓reduceIte]
 refine Qa hP hv0 rfl rfl rfl ?_
 simp+decide (disch:=first|exact D0|fail) only[go_sem,↓reduceIte]
 refine Qa hP hone rfl rfl rfl ?_
 simp+decide (disch:=first|exact D0|fail) only[go_sem,↓reduceIte]
 rw[Q4c (Qct.own (m:=1) (e:=1) (ty:=51) (xs:=[PV.poly V0]) (fz:=false) T0 rfl) (Qct.own (m:=1) (e:=1) (ty:=3) (xs:=[PV.int .i64 1]) (fz:=false) T0 rfl) (Qct.flat rfl) (Qct.own (m:=1) (e:=1) (ty:=51) (xs:=[PV.poly O]) (fz:=false) T0 rfl)]
 refine⟨⟨rfl,by simp⟩,⟨rfl,by simp⟩,⟨rfl,by simp⟩,⟨rfl,by simp⟩,?_⟩
 simp+decide (disch:=first|exact E0|fail) only[go_sem,↓reduceIte,Q6,List.contains_cons,List.contains_nil,List.flatMap_cons,List.flatMap_nil,List.append_nil]
 refine Qa hP hv0 rfl rfl rfl ?_
 simp+decide (disch:=first|exact D0|fail) only[go_sem,↓reduceIte]
 refine Qa hP hv1 rfl rfl rfl ?_
 simp+decide (disch:=first|exact D0|fail) only[go_sem,↓reduceIte]
 refine Qa hP hm1 rfl rfl rfl ?_
 simp+decide (disch:=first|exact D0|fail) only[go_sem,↓reduceIte]
 refine Qa hP hv1 rfl rfl rfl ?_
 simp+decide (disch:=first|exact D0|fail) only[go_sem,↓reduceIte]
 refine Qa hP hv0 rfl rfl rfl ?_
 simp+decide (disch:=first|exact D0|fail) only[go_sem,↓reduceIte]
 refine Qa hP hv0 rfl rfl rfl ?_
 simp+decide (disch:=first|exact D0|fail) only[go_sem,↓reduceIte]
 refine Qa hP hone rfl rfl rfl ?_
 simp+decide (disch:=first|exact D0|fail) only[go_sem,↓reduceIte]
 refine Qch hP hcb Ur0 rfl ?_
 simp+decide (disch:=first|exact D0|fail) only[go_sem,↓reduceIte]
 refine Qa hP hv0 rfl rfl rfl ?_
 simp+decide (disch:=first|exact D0|fail) only[go_sem,↓reduceIte]
 refine Qa hP hv1 rfl rfl rfl ?_
 simp+decide (disch:=first|exact D0|fail) only[go_sem,↓reduceIte]
 refine Qch hP hpr Ur0 rfl ?_
 simp+decide (disch:=first|exact D0|fail) only[go_sem,↓reduceIte]
 refine Qa hP hv0 rfl rfl rfl ?_
 simp+decide (disch:=first|exact D0|fail) only[go_sem,↓reduceIte]
 refine Qa hP hv0 rfl rfl rfl ?_
 simp+decide (disch:=first|exact D0|fail) only[go_sem,↓reduceIte]
 refine Qa hP hv0 rfl rfl rfl ?_
 simp+decide (disch:=first|exact D0|fail) only[go_sem,↓reduceIte]
 refine Qa hP hm0 rfl rfl rfl ?_
 simp+decide (disch:=first|exact D0|fail) only[go_sem,↓reduceIte]
 refine Qa hP hv0 rfl rfl rfl ?_
 simp+decide (disch:=first|exact D0|fail) only[go_sem,↓reduceIte]
 refine Qa hP hv1 rfl rfl rfl ?_
 simp+decide (disch:=first|exact D0|fail) only[go_sem,↓reduceIte]
 refine Qa hP hm1 rfl rfl rfl ?_
 simp+decide (disch:=first|exact D0|fail) only[go_sem,↓reduceIte]
 rw[Q4c (Qct.own (m:=1) (e:=1) (ty:=51) (xs:=[PV.poly V0]) (fz:=false) T0 rfl) (Qct.own (m:=1) (e:=1) (ty:=3) (xs:=[PV.int .i64 2]) (fz:=false) T0 rfl) (Qct.flat rfl) (Qct.own (m:=2) (e:=1) (ty:=51) (xs:=[PV.poly M0,PV.poly M1]) (fz:=false) T0 rfl)]
 refine⟨⟨rfl,by simp⟩,⟨rfl,by simp⟩,⟨rfl,by simp⟩,⟨rfl,by simp⟩,?_⟩
 simp+decide (disch:=first|exact E0|fail) only[go_sem,↓reduceIte,Q6,List.contains_cons,List.contains_nil,List.flatMap_cons,List.flatMap_nil,List.append_nil]
 refine Qa hP hmn rfl rfl rfl ?_
 simp+decide (disch:=first|exact E0|fail) only[go_sem,↓reduceIte,Q6,List.contains_cons,List.contains_nil,List.flatMap_cons,List.flatMap_nil,List.append_nil]
 rw[Qac5 (ty:=51) (xs:=[PV.poly M1]) (fz:=false) U0 (by omega)]
 simp+decide (disch:=first|exact E0|fail) only[go_sem,↓reduceIte,Q6,List.contains_cons,List.contains_nil,List.flatMap_cons,List.flatMap_nil,List.append_nil]
 refine Qa hP hv0 rfl rfl rfl ?_
 simp+decide (disch:=first|exact E0|fail) only[go_sem,↓reduceIte,Q6,List.contains_cons,List.contains_nil,List.flatMap_cons,List.flatMap_nil,List.append_nil]
 refine Qa hP had rfl rfl rfl ?_
 simp+decide (disch:=first|exact E0|fail) only[go_sem,↓reduceIte,Q6,List.contains_cons,List.contains_nil,List.flatMap_cons,List.flatMap_nil,List.append_nil]
 refine Qa hP he1 rfl rfl rfl ?_
 simp+decide (disch:=first|exact E0|fail) only[go_sem,↓reduceIte,Q6,List.contains_cons,List.contains_nil,List.flatMap_cons,List.flatMap_nil,List.append_nil]
 refine Qa hP hv0 rfl rfl rfl ?_
 simp+decide (disch:=first|exact E0|fail) only[go_sem,↓reduceIte,Q6,List.contains_cons,List.contains_nil,List.flatMap_cons,List.flatMap_nil,List.append_nil]
 refine Qa hP hv0 rfl rfl rfl ?_
 simp+decide (disch:=first|exact E0|fail) only[go_sem,↓reduceIte,Q6,List.contains_cons,List.contains_nil,List.flatMap_cons,List.flatMap_nil,List.append_nil]
 refine Qa hP hm0 rfl rfl rfl ?_
 simp+decide (disch:=first|exact E0|fail) only[go_sem,↓reduceIte,Q6,List.contains_cons,List.contains_nil,List.flatMap_cons,List.flatMap_nil,List.append_nil]
 refine Qa hP he2 rfl rfl rfl ?_
 simp+decide (disch:=first|exact E0|fail) only[go_sem,↓reduceIte,Q6,List.contains_cons,List.contains_nil,List.flatMap_cons,List.flatMap_nil,List.append_nil]
 refine Qa hP hv1 rfl rfl rfl ?_
 simp+decide (disch:=first|exact E0|fail) only[go_sem,↓reduceIte,Q6,List.contains_cons,List.contains_nil,List.flatMap_cons,List.flatMap_nil,List.append_nil]
 refine Qch hP hc1 Ur0 rfl ?_
 simp+decide (disch:=first|exact E0|fail) only[go_sem,↓reduceIte,Q6,List.contains_cons,List.contains_nil,List.flatMap_cons,List.flatMap_nil,List.append_nil]
 refine Qa hP hv0 rfl rfl rfl ?_
 simp+decide (disch:=first|exact E0|fail) only[go_sem,↓reduceIte,Q6,List.contains_cons,List.contains_nil,List.flatMap_cons,List.flatMap_nil,List.append_nil]
 refine Qch hP hc2 Ur0 rfl ?_
 simp+decide (disch:=first|exact E0|fail) only[go_sem,↓reduceIte,Q6,List.contains_cons,List.contains_nil,List.flatMap_cons,List.flatMap_nil,List.append_nil]
 refine Qa hP hv0 rfl rfl rfl ?_
 simp+decide (disch:=first|exact E0|fail) only[go_sem,↓reduceIte,Q6,List.contains_cons,List.contains_nil,List.flatMap_cons,List.flatMap_nil,List.append_nil]
 refine Qa hP hv1 rfl rfl rfl ?_
 simp+decide (disch:=first|exact E0|fail) only[go_sem,↓reduceIte,Q6,List.contains_cons,List.contains_nil,List.flatMap_cons,List.flatMap_nil,List.append_nil]
 refine Qch hP hsl Ur0 rfl ?_
 simp+decide (disch:=first|exact E0|fail) only[go_sem,↓reduceIte,Q6,List.contains_cons,List.contains_nil,List.flatMap_cons,List.flatMap_nil,List.append_nil]
 exact Qc rfl rfl
end Go.Proofs.YtonfajmchebkeaaGreat
namespace Go.Proofs.YtonfajmchebkeaaGreat
open Go Go.FW
set_option linter.unusedSimpArgs false
set_option linter.unusedVariables false
set_option maxRecDepth 100000
theorem Qpq{l:List RTm}{k:Nat}(hb:∀t∈l,RB k t)(h:Qhb l=true):PV.rpoly l=PV.poly (l.map RTm.tm)/\Sm4 (l.map RTm.tm):=by
 simp only[Qhb,Bool.and_eq_true,decide_eq_true_eq,List.all_eq_true]at h
 obtain⟨h1,h2,h3⟩:=h
 obtain⟨e1,e2⟩:=Qvu hb h3
 refine⟨e1,e2.nrm,fun t ht=> ?_,fun t ht=> ?_,by simpa using h1⟩
 ·obtain⟨x,hx,rfl⟩:=List.mem_map.1 ht
  have hs:=h2 x hx
  simp only[smK,Bool.and_eq_true,decide_eq_true_eq,List.all_eq_true]at hs
  have hv:=e2.t _ ht
  have hr:=(show Raw 2 x.n x.a x.d from⟨(hb x hx).r.1,(hb x hx).r.2.1,hs.2.1,hs.2.2.1,by omega⟩).rs
  have hm:=MB.ofOk hv.m
  refine⟨?_,⟨hm.len,hm.lo,fun y hy=>hs.2.2.2 y hy⟩,Ql0 hv.m⟩
  show rs (rv x.n x.a x.d)+1<=3
  omega
 ·obtain⟨x,hx,rfl⟩:=List.mem_map.1 ht
  have hs:=h2 x hx
  simp only[smK,Bool.and_eq_true,decide_eq_true_eq,List.all_eq_true]at hs
  exact hs.1
def tms(ls:List (List RTm)):List (List Tm):=ls.map fun l=>l.map RTm.tm
theorem Qhh{ls:List (List RTm)}{k:Nat}(hb:∀l∈ls,(∀t∈l,RB k t)/\l.length<2^40)(h:Qh5 ls=true):PV.sl 1 (ls.map PV.rpoly)=PV.polys (tms ls)/\(∀f∈tms ls,Sm4 f)/\(tms ls).length<=4:=by
 simp only[Qh5,Bool.and_eq_true,decide_eq_true_eq,List.all_eq_true]at h
 refine⟨?_,fun f hf=> ?_,by unfold tms;rw[List.length_map];exact h.1⟩
 ·unfold tms PV.polys
  rw[List.map_map]
  exact congrArg _ (List.map_congr_left fun l hl=>(Qpq (hb l hl).1 (h.2 l hl)).1)
 ·obtain⟨l,hl,rfl⟩:=List.mem_map.1 hf
  exact(Qpq (hb l hl).1 (h.2 l hl)).2
theorem Q7v{c:Qiy}{k:Nat}(hb:RC k c)(h:Qr2 c=true):PV.rcert c=PV.cert (tms c.fs) c.ps c.n (tms c.cs)/\(∀f∈tms c.fs,Sm4 f)/\(tms c.fs).length<=4/\(∀f∈tms c.cs,Sm4 f)/\(tms c.cs).length<=4/\c.ps.length<=6:=by
 simp only[Qr2,Bool.and_eq_true,decide_eq_true_eq]at h
 obtain⟨h1,h2,h3⟩:=h
 obtain⟨a1,a2,a3⟩:=Qhh hb.f h1
 obtain⟨b1,b2,b3⟩:=Qhh hb.g h2
 refine⟨?_,a2,a3,b2,b3,h3⟩
 unfold PV.rcert
 rw[a1,b1]
theorem Qtx {fs :List (List Tm)} {ps:List Int} (hl:fs.length<2^40) (hl2:ps.length<2^40) (hf:∀f∈fs,f.length<2^40):Qe Tryz.prog 29 [PV.polys fs,PV.mono ps] (fun r=>∃b,r= .bool b):=by
  refine Qf Qk Tryz.func29 rfl Qali (by simp[c29]) fun C hP=> ?_;simp only[c29,Zo,Zg,Zm,Zc,Zf,Zl,Zh,Zs,Zi,Zb,Zk,Zn,Zu,Zq,Zr,Zz]
  simp+decide (disch:=first|exact D0|fail) only[go_sem,↓reduceIte]
  refine Qz (by repeat (first|exact Qv|exact Qo|exact Qp|exact Qq|exact Qr|apply Qn|apply Qu|apply Q3|apply Q7|apply Q8|apply Ql|apply Q2)) [(4,56)] [] (fun m J hp=>∃(i:Nat)(z:Int),m=ps.length-i/\i<=ps.length/\J 5= .int .i64 z/\J 6= .int .i64 (i:Nat)) ps.length ?_ ?_
  · refine⟨0,0,rfl,by omega,?_⟩
    simp+decide (disch:=first|exact D0|fail) only[go_sem,↓reduceIte]
    rfl
  rintro _ J h ⟨i,z,rfl,hi,h5,h6⟩
  simp+decide (disch:=first|exact D1 h6|fail) only[go_sem,↓reduceIte,h6]
  refine Qb (fun hg=> ?_) (fun hg=> ?_)
  · have hi' : i < ps.length:=by omega
    generalize hx:ps[i]=x at *
    simp+decide (disch:=first|exact D2 h6 hx|fail) only[go_sem,↓reduceIte,h6,hx]
    refine Qag (fun h1=> ?_) (fun h1=> ?_)
    · simp +decide (disch:=first|exact D2 h6 hx|fail) only[go_sem,↓reduceIte,h6,hx]
      refine Qb (fun h2=> ?_) (fun h2=> ?_)
      · simp+decide (disch:=first|exact D0|fail) only[go_sem,↓reduceIte]
        exact⟨rfl,_,Qw _,⟨_,rfl⟩⟩
      simp+decide (disch:=first|exact D2 h6 hx|fail) only[go_sem,↓reduceIte,h6,hx]
      refine Qag (fun h2=> ?_) (fun h2=> ?_)
      · simp+decide (disch:=first|exact D2 h6 hx|fail) only[go_sem,↓reduceIte,h6,hx]
        refine Qag (fun h3=> ?_) (fun h3=> ?_)
        · simp+decide (disch:=first|exact D2 h6 hx|fail) only[go_sem,↓reduceIte,h6,hx]
          refine Qag (fun h4=> ?_) (fun h4=> ?_)
          · have hif:i<fs.length:=by omega
            have hfl:=hf _ (List.getElem_mem hif)
            generalize hy:fs[i]=y at *
            simp+decide (disch:=first|exact D3 h6 hx hy|fail) only[go_sem,↓reduceIte,h6,hx,hy]
            refine Qb (fun h7=> ?_) (fun h7=> ?_)
            · simp +decide (disch:=first|exact D3 h6 hx h5|fail) only[go_sem,↓reduceIte,h6,hx,h5]
              first
                | (refine Qh (ps.length-(i+1)) (by omega) ⟨i+1,z+x,rfl,by omega,?_⟩
                   simp+decide (disch:=first|exact D0|fail) only[go_sem,↓reduceIte]
                   done)
                | (refine Qh (ps.length-(i+1)) (by omega) ⟨i+1,IntKind.i64.wrap (z+x),rfl,by omega,?_⟩
                   simp+decide (disch:=first|exact D0|fail) only[go_sem,↓reduceIte])
            · simp+decide (disch:=first|exact D2 h6 hx|fail) only[go_sem,↓reduceIte,h6,hx]
              refine Qh (ps.length-(i+1)) (by omega) ⟨i+1,z,rfl,by omega,?_⟩
              simp+decide (disch:=first|exact D1 h5|fail) only[go_sem,↓reduceIte,h5]
          · simp+decide (disch:=first|exact D2 h6 hx|fail) only[go_sem,↓reduceIte,h6,hx]
            refine Qh (ps.length-(i+1)) (by omega) ⟨i+1,z,rfl,by omega,?_⟩
            simp+decide (disch:=first|exact D1 h5|fail) only[go_sem,↓reduceIte,h5]
        · simp+decide (disch:=first|exact D2 h6 hx|fail) only[go_sem,↓reduceIte,h6,hx]
          refine Qh (ps.length-(i+1)) (by omega) ⟨i+1,z,rfl,by omega,?_⟩
          simp+decide (disch:=first|exact D1 h5|fail) only[go_sem,↓reduceIte,h5]
      · simp+decide (disch:=first|exact D2 h6 hx|fail) only[go_sem,↓reduceIte,h6,hx]
        refine Qh (ps.length-(i+1)) (by omega) ⟨i+1,z,rfl,by omega,?_⟩
        simp+decide (disch:=first|exact D1 h5|fail) only[go_sem,↓reduceIte,h5]
    simp+decide (disch:=first|exact D2 h6 hx|fail) only[go_sem,↓reduceIte,h6,hx]
    refine Qag (fun h2=> ?_) (fun h2=> ?_)
    · simp+decide (disch:=first|exact D2 h6 hx|fail) only[go_sem,↓reduceIte,h6,hx]
      refine Qag (fun h3=> ?_) (fun h3=> ?_)
      · simp+decide (disch:=first|exact D2 h6 hx|fail) only[go_sem,↓reduceIte,h6,hx]
        refine Qag (fun h4=> ?_) (fun h4=> ?_)
        · have hif:i<fs.length:=by omega
          have hfl:=hf _ (List.getElem_mem hif)
          generalize hy:fs[i]=y at *
          simp+decide (disch:=first|exact D3 h6 hx hy|fail) only[go_sem,↓reduceIte,h6,hx,hy]
          refine Qb (fun h7=> ?_) (fun h7=> ?_)
          · simp +decide (disch:=first|exact D3 h6 hx h5|fail) only[go_sem,↓reduceIte,h6,hx,h5]
            first
              | (refine Qh (ps.length-(i+1)) (by omega) ⟨i+1,z+x,rfl,by omega,?_⟩
                 simp+decide (disch:=first|exact D0|fail) only[go_sem,↓reduceIte]
                 done)
              | (refine Qh (ps.length-(i+1)) (by omega) ⟨i+1,IntKind.i64.wrap (z+x),rfl,by omega,?_⟩
                 simp+decide (disch:=first|exact D0|fail) only[go_sem,↓reduceIte])
          · simp+decide (disch:=first|exact D2 h6 hx|fail) only[go_sem,↓reduceIte,h6,hx]
            refine Qh (ps.length-(i+1)) (by omega) ⟨i+1,z,rfl,by omega,?_⟩
            simp+decide (disch:=first|exact D1 h5|fail) only[go_sem,↓reduceIte,h5]
        · simp+decide (disch:=first|exact D2 h6 hx|fail) only[go_sem,↓reduceIte,h6,hx]
          refine Qh (ps.length-(i+1)) (by omega) ⟨i+1,z,rfl,by omega,?_⟩
          simp+decide (disch:=first|exact D1 h5|fail) only[go_sem,↓reduceIte,h5]
      · simp+decide (disch:=first|exact D2 h6 hx|fail) only[go_sem,↓reduceIte,h6,hx]
        refine Qh (ps.length-(i+1)) (by omega) ⟨i+1,z,rfl,by omega,?_⟩
        simp+decide (disch:=first|exact D1 h5|fail) only[go_sem,↓reduceIte,h5]
    · simp+decide (disch:=first|exact D2 h6 hx|fail) only[go_sem,↓reduceIte,h6,hx]
      refine Qh (ps.length-(i+1)) (by omega) ⟨i+1,z,rfl,by omega,?_⟩
      simp+decide (disch:=first|exact D1 h5|fail) only[go_sem,↓reduceIte,h5]
  · simp+decide (disch:=first|exact D1 h5|fail) only[go_sem,↓reduceIte,h5]
    exact⟨rfl,_,Qw _,⟨_,rfl⟩⟩
end Go.Proofs.YtonfajmchebkeaaGreat
namespace Go.Proofs.YtonfajmchebkeaaGreat
open Go Go.FW
set_option linter.unusedSimpArgs false
set_option linter.unusedVariables false
set_option maxRecDepth 100000
theorem Qkd{l:List (List Tm)}(h:∀f∈l,Sm4 f)(hl:l.length<=4):(∀f∈l,Sml f)/\(∀f∈l,Big f)/\Qzv l/\∀f∈l,f.length<2^40:=
 ⟨fun f hf=>(h f hf).sml,fun f hf=>(h f hf).sml.big,⟨fun f hf=>Qm0 (h f hf),by omega⟩,fun f hf=>by have:=(h f hf).l;omega⟩
theorem Qof{ls:List (List RTm)}{ps:List Int}{k:Nat}(hb:∀l∈ls,(∀t∈l,RB k t)/\l.length<2^40)(hk1:1<=k)(hk:k<2^36)(hll:ls.length<2^40)(hpl:ps.length<2^40):
  Qe Tryz.prog 6 [.sl 1 (ls.map PV.rpoly),PV.mono ps] (· = .bool true):=by
 refine Qf Qk Tryz.func6 rfl Qamu (by simp[c6]) fun C hP=> ?_;simp only[c6,Zo,Zg,Zm,Zc,Zf,Zl,Zh,Zs,Zi,Zb,Zk,Zn,Zu,Zq,Zr,Zz]
 simp+decide (disch:=first|exact D0|fail) only[go_sem,↓reduceIte]
 refine Qa hP (Qd0 hb hk1 hk hll) rfl rfl rfl ?_
 cases hs:Qh5 ls
 ·simp+decide (disch:=first|exact D0|fail) only[go_sem,↓reduceIte]
  refine Qa hP Qbt rfl rfl rfl ?_
  simp+decide (disch:=first|exact D0|fail) only[go_sem,↓reduceIte]
  exact Qc rfl rfl
 obtain⟨he,h4,hl4⟩:=Qhh hb hs
 rw[he]
 generalize tms ls=P at *
 obtain⟨q1,q2,q3,q4⟩:=Qkd h4 hl4
 simp+decide (disch:=first|exact D0|fail) only[go_sem,↓reduceIte]
 refine Qac (fun h6=> ?_) (fun h6=> ?_)
 ·simp+decide (disch:=first|exact D0|fail) only[go_sem,↓reduceIte]
  refine Qa hP Qbt rfl rfl rfl ?_
  simp+decide (disch:=first|exact D0|fail) only[go_sem,↓reduceIte]
  exact Qc rfl rfl
 simp+decide (disch:=first|exact D0|fail) only[go_sem,↓reduceIte]
 refine Qci hP (Qtx (fs:=P) (ps:=ps) (by omega) hpl q4) rfl rfl rfl ?_
 rintro _ ⟨b,rfl⟩
 cases b
 rotate_left
 ·simp+decide (disch:=first|exact D0|fail) only[go_sem,↓reduceIte]
  refine Qa hP Qbt rfl rfl rfl ?_
  simp+decide (disch:=first|exact D0|fail) only[go_sem,↓reduceIte]
  exact Qc rfl rfl
 have c1:=Qin (fs:=P) (ps:=ps) q1 (by omega) hpl
 have c2:=Qmx (fs:=P) (ps:=ps) q1 (by omega) hpl
 have hpp:=Qpn (ps:=ps) q1 (by omega)
 obtain⟨⟨r,e⟩,hr⟩:∃x,x=Qb5 P ps:=⟨_,rfl⟩
 rw[<-hr]at c1 c2 hpp
 simp only at c1 c2 hpp
 have hq:PB (2^18) (2^17) r/\r.length<=4000:=by
  by_cases e0:e=0
  ·obtain⟨n,hn,h⟩:=hpp e0
   exact⟨h.PB (by omega),h.l⟩
  ·have:r=[]:=by
    have h1:=congrArg Prod.fst hr
    have h2:=congrArg Prod.snd hr
    simp only at h1 h2
    rw[h1]
    rw[h2]at e0
    unfold Qb5 at e0⊢
    split
    ·rename_i a
     rw[if_pos a]at e0
     split
     ·rename_i b
      rw[if_pos b]at e0
      unfold Qg8 at e0⊢
      split<;>simp_all
     ·rfl
    ·rfl
   rw[this];exact⟨PB.nil _ _,by simp⟩
 simp+decide (disch:=first|exact D0|fail) only[go_sem,↓reduceIte]
 refine Qa hP c1 rfl rfl rfl ?_
 simp+decide (disch:=first|exact D0|fail) only[go_sem,↓reduceIte]
 refine Qa hP c2 rfl rfl rfl ?_
 simp+decide (disch:=first|exact D0|fail) only[go_sem,↓reduceIte]
 refine Qa hP (Qdi hq.1 hq.1 (by omega) (by omega) (by omega) (by omega)) rfl rfl rfl ?_
 rw[decide_eq_true (p:=r=r) rfl]
 simp+decide (disch:=first|exact D0|fail) only[go_sem,↓reduceIte]
 refine Qa hP Qbt rfl rfl rfl ?_
 simp+decide (disch:=first|exact D0|fail) only[go_sem,↓reduceIte]
 exact Qc rfl rfl
theorem Qr8{c:Qiy}{hs:List (List RTm)}{g:List RTm}{k:Nat}(hc:RC k c)(hb:∀l∈hs,(∀t∈l,RB k t)/\l.length<2^40)(hg:(∀t∈g,RB k t)/\g.length<2^40)(hk1:1<=k)(hk:k<2^36)(hll:hs.length<2^40):
  Qe Tryz.prog 7 [PV.rcert c,.sl 1 (hs.map PV.rpoly),PV.rpoly g] (· = .bool true):=by
 have cs:=Q33 hc hk1 hk
 refine Qf Qk Tryz.func7 rfl Qamv (by simp[c7]) fun C hP=> ?_;simp only[c7,Zo,Zg,Zm,Zc,Zf,Zl,Zh,Zs,Zi,Zb,Zk,Zn,Zu,Zq,Zr,Zz]
 simp+decide (disch:=first|exact D0|fail) only[go_sem,↓reduceIte]
 refine Qa hP cs rfl rfl rfl ?_
 cases h1:Qr2 c
 ·simp+decide (disch:=first|exact D0|fail) only[go_sem,↓reduceIte]
  refine Qa hP Qbt rfl rfl rfl ?_
  simp+decide (disch:=first|exact D0|fail) only[go_sem,↓reduceIte]
  exact Qc rfl rfl
 obtain⟨he,f4,fl4,c4,cl4,p6⟩:=Q7v hc h1
 simp+decide (disch:=first|exact D0|fail) only[go_sem,↓reduceIte]
 refine Qa hP (Qd0 hb hk1 hk hll) rfl rfl rfl ?_
 cases h2:Qh5 hs
 ·simp+decide (disch:=first|exact D0|fail) only[go_sem,↓reduceIte]
  refine Qa hP Qbt rfl rfl rfl ?_
  simp+decide (disch:=first|exact D0|fail) only[go_sem,↓reduceIte]
  exact Qc rfl rfl
 obtain⟨he2,h4,hl4⟩:=Qhh hb h2
 simp+decide (disch:=first|exact D0|fail) only[go_sem,↓reduceIte]
 refine Qa hP (Qmv hg.1 hk1 hk hg.2) rfl rfl rfl ?_
 cases h3:Qhb g
 ·simp+decide (disch:=first|exact D0|fail) only[go_sem,↓reduceIte]
  refine Qa hP Qbt rfl rfl rfl ?_
  simp+decide (disch:=first|exact D0|fail) only[go_sem,↓reduceIte]
  exact Qc rfl rfl
 obtain⟨he3,g4⟩:=Qpq hg.1 h3
 rw[he2,he3]
 have he':PV.agg [PV.sl 1 (List.map PV.rpoly c.fs),PV.mono c.ps,PV.int .i64 c.n,PV.sl 1 (List.map PV.rpoly c.cs)]=PV.cert (tms c.fs) c.ps c.n (tms c.cs):=he
 rw[he']
 obtain⟨q1,q2,q3,q4⟩:=Qkd f4 fl4
 obtain⟨r1,r2,r3,r4⟩:=Qkd c4 cl4
 obtain⟨t1,t2,t3,t4⟩:=Qkd h4 hl4
 obtain⟨fs,ps,n,ds⟩:=c
 simp only at *
 generalize tms fs=F at *
 generalize tms ds=D at *
 generalize tms hs=H at *
 generalize g.map RTm.tm=G at *
 have c1:=Qpp (ps:=ps) (n:=n) (cs:=D) (hs:=H) (g:=G) q1 (by omega) (by omega) r2 (by omega) t1 (by omega) g4.sml
 have c2:=Qzu (ps:=ps) (n:=n) (cs:=D) (hs:=H) (g:=G) q1 (by omega) (by omega) r2 (by omega) t1 (by omega) g4.sml
 generalize Qjg F ps n D H G=e at *
 simp+decide (disch:=first|exact D0|fail) only[go_sem,↓reduceIte]
 refine Qci hP (Qtx (fs:=F) (ps:=ps) (by omega) (by omega) q4) rfl rfl rfl ?_
 rintro _ ⟨b,rfl⟩
 cases b
 rotate_left
 ·simp+decide (disch:=first|exact D0|fail) only[go_sem,↓reduceIte]
  refine Qa hP Qbt rfl rfl rfl ?_
  simp+decide (disch:=first|exact D0|fail) only[go_sem,↓reduceIte]
  exact Qc rfl rfl
 simp+decide (disch:=first|exact D0|fail) only[go_sem,↓reduceIte]
 refine Qag (fun h5=> ?_) (fun h5=> ?_)
 ·simp+decide (disch:=first|exact D0|fail) only[go_sem,↓reduceIte]
  refine Qb (fun h6=> ?_) (fun h6=> ?_)
  ·simp+decide (disch:=first|exact D0|fail) only[go_sem,↓reduceIte]
   refine Qa hP Qbt rfl rfl rfl ?_
   simp+decide (disch:=first|exact D0|fail) only[go_sem,↓reduceIte]
   exact Qc rfl rfl
  ·
   simp+decide (disch:=first|exact D0|fail) only[go_sem,↓reduceIte]
   refine Qa hP c1 rfl rfl rfl ?_
   simp+decide (disch:=first|exact D0|fail) only[go_sem,↓reduceIte]
   refine Qa hP c2 rfl rfl rfl ?_
   simp+decide (disch:=first|exact D0|fail) only[go_sem,↓reduceIte]
   refine Qa hP Qbt rfl rfl rfl ?_
   simp+decide (disch:=first|exact D0|fail) only[go_sem,↓reduceIte]
   exact Qc rfl rfl
 ·
  simp+decide (disch:=first|exact D0|fail) only[go_sem,↓reduceIte]
  refine Qa hP c1 rfl rfl rfl ?_
  simp+decide (disch:=first|exact D0|fail) only[go_sem,↓reduceIte]
  refine Qa hP c2 rfl rfl rfl ?_
  simp+decide (disch:=first|exact D0|fail) only[go_sem,↓reduceIte]
  refine Qa hP Qbt rfl rfl rfl ?_
  simp+decide (disch:=first|exact D0|fail) only[go_sem,↓reduceIte]
  exact Qc rfl rfl
theorem Qpr{cs ls:List (List RTm)}{p:List RTm}{k:Nat}(hc:∀l∈cs,(∀t∈l,RB k t)/\l.length<2^40)(hb:∀l∈ls,(∀t∈l,RB k t)/\l.length<2^40)(hp:(∀t∈p,RB k t)/\p.length<2^40)(hk1:1<=k)(hk:k<=2^20)(hcl:cs.length<2^40)(hll:ls.length<2^40):
  Qe Tryz.prog 10 [.sl 1 (cs.map PV.rpoly),.sl 1 (ls.map PV.rpoly),PV.rpoly p] (· = .bool true):=by
 refine Qf Qk Tryz.func10 rfl Qalj (by simp[c10]) fun C hP=> ?_;simp only[c10,Zo,Zg,Zm,Zc,Zf,Zl,Zh,Zs,Zi,Zb,Zk,Zn,Zu,Zq,Zr,Zz]
 simp+decide (disch:=first|exact D0|fail) only[go_sem,↓reduceIte]
 refine Qa hP (Qd0 hc hk1 (by omega) hcl) rfl rfl rfl ?_
 cases h1:Qh5 cs
 ·simp+decide (disch:=first|exact D0|fail) only[go_sem,↓reduceIte]
  refine Qa hP Qbt rfl rfl rfl ?_
  simp+decide (disch:=first|exact D0|fail) only[go_sem,↓reduceIte]
  exact Qc rfl rfl
 obtain⟨he1,c4,cl4⟩:=Qhh hc h1
 simp+decide (disch:=first|exact D0|fail) only[go_sem,↓reduceIte]
 refine Qa hP (Qd0 hb hk1 (by omega) hll) rfl rfl rfl ?_
 cases h2:Qh5 ls
 ·simp+decide (disch:=first|exact D0|fail) only[go_sem,↓reduceIte]
  refine Qa hP Qbt rfl rfl rfl ?_
  simp+decide (disch:=first|exact D0|fail) only[go_sem,↓reduceIte]
  exact Qc rfl rfl
 obtain⟨he2,l4,ll4⟩:=Qhh hb h2
 simp+decide (disch:=first|exact D0|fail) only[go_sem,↓reduceIte]
 refine Qa hP (Qpf hp.1 hk1 (by omega) hp.2) rfl rfl rfl ?_
 cases h3:Qe5 p
 ·simp+decide (disch:=first|exact D0|fail) only[go_sem,↓reduceIte]
  refine Qa hP Qbt rfl rfl rfl ?_
  simp+decide (disch:=first|exact D0|fail) only[go_sem,↓reduceIte]
  exact Qc rfl rfl
 obtain⟨he3,pv⟩:=Qvu hp.1 h3
 have hpb:PB (2^30) (2^20) (p.map RTm.tm):=fun t ht=>by
  have hv:=pv.t _ ht
  obtain⟨x,hx,rfl⟩:=List.mem_map.1 ht
  have hr:=(show Raw k x.n x.a x.d from⟨(hp.1 x hx).r.1,(hp.1 x hx).r.2.1,(hp.1 x hx).r.2.2.1,(hp.1 x hx).r.2.2.2,hk1⟩).rs
  refine⟨?_,(MB.ofOk hv.m).mono (by omega),Ql0 hv.m⟩
  show rs (rv x.n x.a x.d)+1<=2^30
  omega
 have hpl:(p.map RTm.tm).length=p.length:=List.length_map _
 have he3':PV.sl 4 (p.map PV.rterm)=PV.poly (p.map RTm.tm):=he3
 simp+decide (disch:=first|exact D0|fail) only[go_sem,↓reduceIte]
 refine Qb (fun h5=> ?_) (fun h5=> ?_)
 ·simp+decide (disch:=first|exact D0|fail) only[go_sem,↓reduceIte]
  refine Qa hP Qbt rfl rfl rfl ?_
  simp+decide (disch:=first|exact D0|fail) only[go_sem,↓reduceIte]
  exact Qc rfl rfl
 rw[he1,he2,he3]
 obtain⟨q1,q2,q3,q4⟩:=Qkd c4 cl4
 obtain⟨t1,t2,t3,t4⟩:=Qkd l4 ll4
 generalize tms cs=D at *
 generalize tms ls=H at *
 generalize p.map RTm.tm=P at *
 have c1:=Qgm (cs:=D) (ls:=H) q2 t1 (by omega) (by omega)
 have c2:=Qio (cs:=D) (ls:=H) q2 t1 (by omega) (by omega)
 have d1:=Qk4 (p:=P) (cs:=D) (ls:=H) hpb (by omega) q2 t1 (by omega) (by omega)
 have d2:=Qu5 (p:=P) (cs:=D) (ls:=H) hpb (by omega) q2 t1 (by omega) (by omega)
 obtain⟨b1,_,b3⟩:=Qk3 q2 t1 (show D.length<=8 by omega)
 have d3:=Qk4 (p:=(Qa1 D H).1) (cs:=D) (ls:=H) (b1.mono (by omega) (by omega)) (by omega) q2 t1 (by omega) (by omega)
 have hrr:Qh6 (Qa1 D H).1 D H=decide ((Qa1 D H).2=0):=by unfold Qh6;rw[decide_eq_true (p:=(Qa1 D H).1=(Qa1 D H).1) rfl,Bool.and_true]
 rw[hrr]at d3
 generalize Qh6 P D H=rr at *
 generalize Qa1 D H=r at *
 obtain⟨s,e⟩:=r
 simp only at c1 c2 d3 b1 b3
 simp+decide (disch:=first|exact D0|fail) only[go_sem,↓reduceIte]
 refine Qa hP c1 rfl rfl rfl ?_
 simp+decide (disch:=first|exact D0|fail) only[go_sem,↓reduceIte]
 refine Qa hP c2 rfl rfl rfl ?_
 simp+decide (disch:=first|exact D0|fail) only[go_sem,↓reduceIte]
 refine Qa hP (Qdi b1 b1 (by omega) (by omega) (by omega) (by omega)) rfl rfl rfl ?_
 rw[decide_eq_true (p:=s=s) rfl]
 simp+decide (disch:=first|exact D0|fail) only[go_sem,↓reduceIte]
 refine Qa hP d1 rfl rfl rfl ?_
 simp+decide (disch:=first|exact D0|fail) only[go_sem,↓reduceIte]
 refine Qa hP d2 rfl rfl rfl ?_
 simp+decide (disch:=first|omega|rfl|(simp+decide only[go_sem,↓reduceIte,beq_self_eq_true]<;>rfl)|fail) only[go_sem,↓reduceIte,beq_self_eq_true]
 refine Qa hP d3 rfl rfl rfl ?_
 simp+decide (disch:=first|omega|rfl|(simp+decide only[go_sem,↓reduceIte,beq_self_eq_true]<;>rfl)|fail) only[go_sem,↓reduceIte,beq_self_eq_true]
 refine Qa hP Qbt rfl rfl rfl ?_
 simp+decide (disch:=first|exact D0|fail) only[go_sem,↓reduceIte]
 exact Qc rfl rfl
end Go.Proofs.YtonfajmchebkeaaGreat
namespace Go.Proofs.YtonfajmchebkeaaGreat
open Go Go.FW Go.ChangeShapes Go.WideShapes Go.ChangeAt Go.RowKit
set_option linter.unusedSimpArgs false
set_option linter.unusedVariables false
set_option maxRecDepth 100000
variable {H : Type} {enc : TypeId × Value -> H}
def Qxc(l:List Int):Prop:=l.length<=1048576/\∀x∈l,-9223372036854775808<=x/\x<=9223372036854775807
theorem Qaie:Rd enc 26 fun ps=>∃l:List Int,ps=[PV.mono l]/\Qxc l:=by
 refine(Qgq (α:=Int) (f:=fun(x:Int)=> .int .i64 x) Qbf Tryz.underlying26 (by rw[Qi8];omega) (Qo6 Tryz.underlying3)).mono ?_
 rintro ps ⟨l,rfl,h1,h2⟩
 exact⟨l,by rw[Qi8],h1,h2⟩
def Qxd(c:Qiy):Prop:=Qf9 c.fs/\Qxc c.ps/\(-9223372036854775808<=c.n/\c.n<=9223372036854775807)/\Qf9 c.cs
theorem Qaif:Rd enc 79 fun ps=>∃c:Qiy,ps=(PV.rcert c).cells/\Qxd c:=by
 refine(Qzc (Qs:=[fun ps=>∃ls:List (List RTm),ps=[.sl 1 (ls.map PV.rpoly)]/\Qf9 ls,fun ps=>∃l:List Int,ps=[PV.mono l]/\Qxc l,fun ps=>∃n:Int,ps=[.int .i64 n]/\ -9223372036854775808<=n/\n<=9223372036854775807,fun ps=>∃ls:List (List RTm),ps=[.sl 1 (ls.map PV.rpoly)]/\Qf9 ls]) Qbf Tryz.underlying79 (by kernel_rfl) ⟨rfl,Qrx,by kernel_rfl,Qaie,by kernel_rfl,Qo6 Tryz.underlying3,by kernel_rfl,Qrx,trivial⟩).mono ?_
 rintro ps ⟨p,q,rfl,⟨f,rfl,h1⟩,p2,q2,rfl,⟨l,rfl,h2⟩,p3,q3,rfl,⟨n,rfl,h3⟩,p4,q4,rfl,⟨c,rfl,h4⟩,rfl⟩
 exact⟨⟨f,l,n,c⟩,rfl,h1,h2,h3,h4⟩
variable {w : World} {base : Nat} {spare : Nat -> Bool} {held : Bool} {r : Reach} {b0 : Nat} {v : Value} {d : DataW H} {ps : List MemPlace}
theorem Qadb(Qcl:Value.okWide Tryz.prog w r b0 79 v)(hd:DataW.Trod enc Tryz.prog w base spare held 79 v d ps)(hn:Rows.uptoBulk d<=1048576):∃c,Qaj w Qbc (PV.rcert c) v/\Qxd c:=by
 obtain⟨p,⟨c,rfl,h⟩,h2⟩:=Q3d Tryz.underlying79 Qcl Qaif hd hn
 exact⟨c,h2,h⟩
theorem Qgw{ls:List (List RTm)}(h:Qf9 ls):(∀l∈ls,(∀t∈l,RB 1048576 t)/\l.length<2^40)/\ls.length<2^40:=⟨fun l hl=>⟨fun t ht=>((h.2 l hl).2 t ht).1,by have:=(h.2 l hl).1;omega⟩,by have:=h.1;omega⟩
theorem Qand{c:Qiy}(h:Qxd c):RC 1048576 c:=by
 obtain⟨h1,h2,h3,h4⟩:=h
 exact⟨(Qgw h1).1,(Qgw h4).1,(Qgw h1).2,(Qgw h4).2,by have:=h2.1;omega⟩
theorem IdealCombines_all{cs ls:List (List RTm)}{p:List RTm}(hc:Qf9 cs)(hb:Qf9 ls)(hp:Qqb p):Qe Tryz.prog 10 [.sl 1 (cs.map PV.rpoly),.sl 1 (ls.map PV.rpoly),PV.rpoly p] (· = .bool true):=
 Qpr (k:=1048576) (Qgw hc).1 (Qgw hb).1 ⟨fun t ht=>(hp.2 t ht).1,by have:=hp.1;omega⟩ (by omega) (by omega) (Qgw hc).2 (Qgw hb).2
theorem IdealMultiplies_all{ls:List (List RTm)}{ps:List Int}(hb:Qf9 ls)(hp:Qxc ps):Qe Tryz.prog 6 [.sl 1 (ls.map PV.rpoly),PV.mono ps] (· = .bool true):=
 Qof (k:=1048576) (Qgw hb).1 (by omega) (by omega) (Qgw hb).2 (by have:=hp.1;omega)
theorem Qty{c:Qiy}{hs:List (List RTm)}{g:List RTm}(hc:Qxd c)(hb:Qf9 hs)(hg:Qqb g):Qe Tryz.prog 7 [PV.rcert c,.sl 1 (hs.map PV.rpoly),PV.rpoly g] (· = .bool true):=
 Qr8 (k:=1048576) (Qand hc) (Qgw hb).1 ⟨fun t ht=>(hg.2 t ht).1,by have:=hg.1;omega⟩ (by omega) (by omega) (Qgw hb).2
end Go.Proofs.YtonfajmchebkeaaGreat
namespace Go.Proofs.YtonfajmchebkeaaGreat
open Go Go.FW Go.ChangeShapes Go.WideShapes Go.ChangeAt Go.RowKit
set_option linter.unusedSimpArgs false
set_option linter.unusedVariables false
set_option maxRecDepth 100000
theorem Qog(H:Type)(enc:TypeId×Value->H)(W:World)(base:Nat)(args:Array Value)(ds gs:List (DataW H))(before:List MemPlace)
  (Qcl:∀(j:Nat) t v,Tryz.f7.params[j]? =some t->args[j]? =some v->Value.okWide Tryz.prog W .any base t v)
  (hW:DataW.Whole enc Tryz.prog Tryz.f7.params.toList Rows.idealChecksSpec.vars false W args.toList ds gs before) (hk:Rows.uptoSmall H (ds++gs)=true):
  Calls Tryz.prog 7 args W fun e W'=>∃v,e= .returned v/\Rows.idealChecksSpec.post enc Tryz.prog Tryz.f7 false true false false W args v W':=by
 have hW':=hW
 obtain⟨p,q,hA0,hV,rfl,hfz,hnd⟩:=hW
 have hA:DataW.TrodAll enc Tryz.prog W 0 (fun _=>true) true Tryz.f7.params.toList args.toList ds p:=hA0
 rw[Tryz.params7]at hA Qcl
 obtain⟨v0,vs0,e0,ds0,p0,q0,hargs,rfl,rfl,h0,r0⟩:=trodAll_cons hA
 obtain⟨v1,vs1,e1,ds1,p1,q1,rfl,rfl,rfl,h1,r1⟩:=trodAll_cons r0
 obtain⟨v2,vs2,e2,ds2,p2,q2,rfl,rfl,rfl,h2,r2⟩:=trodAll_cons r1
 obtain⟨rfl,rfl,rfl⟩:=trodAll_nil r2
 obtain rfl:args= #[v0,v1,v2]:=by cases args;simp_all
 obtain⟨rfl,rfl⟩:=trodVars_none hV
 have hb:=Qaba hk
 simp only[List.append_nil,Rows.uptoBulkAll]at hb
 obtain⟨a0,g0,b0⟩:=Qadb (Qcl 0 _ v0 rfl rfl) h0 (by omega)
 obtain⟨a1,g1,b1⟩:=Q6w (Qcl 1 _ v1 rfl rfl) h1 (by omega)
 obtain⟨a2,g2,b2⟩:=Qabb (Qcl 2 _ v2 rfl rfl) h2 (by omega)
 exact Q6x hW' rfl (by kernel_rfl) (by kernel_rfl) rfl (Qty b0 b1 b2) rfl
  (Qabc (vs:=[v0,v1,v2]) (by
   intro i x hx v hv
   match i,hx,hv with
   |0,hx,hv=>simp at hx hv;subst hx hv;exact g0
   |1,hx,hv=>simp at hx hv;subst hx hv;exact g1
   |2,hx,hv=>simp at hx hv;subst hx hv;exact g2
   |i+3,hx,hv=>simp at hx) rfl)
theorem Qps(os:Os)(started:os.Started)(H:Type)(enc:TypeId×Value->H)(F:Stop.Interp):
  ReturnsInHanded {} Tryz.checked os 7 .any ((Rows.OpenSpec.upto Rows.idealChecksSpec).pre6 enc Tryz.prog Tryz.f7 Rows.idealChecksUptoRow.domain false) (((Rows.OpenSpec.upto Rows.idealChecksSpec).at F).post enc Tryz.prog Tryz.f7 false true false false):=by
 refine returnsInHanded_of_cond (C:=Tryz.checked) (s:=Rows.OpenSpec.upto Rows.idealChecksSpec) (k:=Rows.uptoSmall) rfl own started (by kernel_rfl) Tryz.func7
  (OpenSpec.witness (enc:=enc) (C:=Tryz.checked) (s:=Rows.OpenSpec.upto Rows.idealChecksSpec) (k:=Rows.uptoSmall) rfl false ⟨#[],#[.agg #[.slice none 0 0,.slice none 0 0,.int .i64 0,.slice none 0 0],.slice none 0 0,.slice none 0 0],[]⟩ 8 (by kernel_rfl) (by kernel_rfl) (by kernel_rfl)
   (x:=([.agg [.nil,.nil,.lit (.int .i64 0),.nil],.nil,.nil],[],[])) (by kernel_rfl) rfl (by kernel_rfl)) ?_
 intro W base args ds gs before Qcl hW _ hk _
 exact Qog H enc W base args ds gs before Qcl hW hk
theorem idealChecks_proved:Rows.IdealChecksUptoSaid:=
 OpenClaim.holds_of_cond 7 Tryz.f7 rfl rfl rfl rfl rfl rfl rfl ⟨rfl,rfl,rfl,rfl,rfl⟩ rfl rfl rfl rfl rfl (by kernel_rfl) Tryz.func7 (by kernel_rfl)
  (of_decide_eq_true (by kernel_rfl)) (by unfold Func.isWrapper;first|(rw[if_pos (by decide+kernel)];kernel_rfl)|(rw[if_neg (by decide+kernel)];exact⟨rfl,rfl⟩))
  (fun os started H enc _ F=>Qps os started H enc F)
end Go.Proofs.YtonfajmchebkeaaGreat
