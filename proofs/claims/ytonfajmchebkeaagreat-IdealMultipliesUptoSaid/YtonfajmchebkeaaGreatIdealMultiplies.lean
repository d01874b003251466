/- Product returns the product of small factors with their powers, or the error. -/
import Derived.Test.YtonfajmchebkeaaGreatIdealMultipliesPart11
set_option linter.unusedSimpArgs false
set_option linter.unnecessarySimpa false
set_option linter.unusedVariables false
namespace Go.Proofs.YtonfajmchebkeaaGreat
open Go Go.FW
set_option linter.unusedSimpArgs false
set_option linter.unusedVariables false
set_option maxRecDepth 100000
theorem Q7c{v:Nat}(hv:v<64):Qe Tryz.prog 73 [.int .i64 v] (· =PV.poly (Q6 v)):=by
 refine Qf Qk Tryz.func73 rfl Qaky (by simp[c73]) fun C hP=> ?_;simp only[c73,Zo,Zg,Zm,Zc,Zf,Zl,Zh,Zs,Zi,Zb,Zk,Zn,Zu,Zq,Zr,Zz]
 simp+decide (disch:=first|exact D0|fail) only[go_sem,↓reduceIte]
 refine Qa hP (Q0l hv) rfl rfl rfl ?_
 simp+decide (disch:=first|exact D0|fail) only[go_sem,↓reduceIte]
 exact Qc rfl rfl
theorem Q30:Qe Tryz.prog 74 [] (· =PV.poly (Qbw 1)):=by
 have hone:=Qub
 refine Qf Qk Tryz.func74 rfl Qakz (by simp[c74]) fun C hP=> ?_;simp only[c74,Zo,Zg,Zm,Zc,Zf,Zl,Zh,Zs,Zi,Zb,Zk,Zn,Zu,Zq,Zr,Zz]
 simp+decide (disch:=first|exact D0|fail) only[go_sem,↓reduceIte]
 refine Qa hP Q6t rfl rfl rfl ?_
 simp+decide (disch:=first|exact D0|fail) only[go_sem,↓reduceIte]
 refine Qa hP (Qth (k:=4) (by omega) (by omega)) rfl rfl rfl ?_
 simp+decide (disch:=first|exact D0|fail) only[go_sem,↓reduceIte]
 exact Qc rfl rfl
theorem Qmq{p:List Tm}(h:Sm4 p):PB 1073741824 1048576 p/\p.length<=1048576:=⟨h.b.mono (by omega) (by omega),by have:=h.l;omega⟩
theorem Qdq:Qe Tryz.prog 30 [] (· = .bool true):=by
 have s0:Sm4 (Q6 0):=Qmp (by decide+kernel)
 have s1:Sm4 (Q6 1):=Qmp (by decide+kernel)
 have s2:Sm4 (Qbw 1):=Qmp (by decide+kernel)
 have s3:Sm4 (Qae (Q6 0) (Q6 0)):=Qmp (by decide+kernel)
 have s4:Sm4 (Qae (Q6 0) (Q6 1)):=Qmp (by decide+kernel)
 have s5:Sm4 (Qx (Qae (Q6 0) (Q6 1)) (Q6 0)):=Qmp (by decide+kernel)
 have n0:Q6 0≠[]:=by decide+kernel
 have hv0:Qe Tryz.prog 73 [.int .i64 0] (· =PV.poly (Q6 0)):=Q7c (v:=0) (by omega)
 have hv1:Qe Tryz.prog 73 [.int .i64 1] (· =PV.poly (Q6 1)):=Q7c (v:=1) (by omega)
 have hm0:=Q3m (m:=4) (P:=Q6 0) (q:=Q6 0) ⟨s0.sml.z.mono (by omega) (by omega) (by omega),s0.n,by have:=s0.l;omega⟩ s0.sml (by omega)
 have hm1:=Q3m (m:=4) (P:=Q6 0) (q:=Q6 1) ⟨s0.sml.z.mono (by omega) (by omega) (by omega),s0.n,by have:=s0.l;omega⟩ s1.sml (by omega)
 have hcb:=Qgj (cs:=[Q6 1,Q6 0]) (ls:=[Q6 0,Qbw 1]) (by simp;exact⟨s1.sml.big,s0.sml.big⟩) (by simp;exact⟨s0.sml,s2.sml⟩) (by simp) (by simp)
 have hpr:=Qii (fs:=[Q6 0,Q6 1]) (ps:=[2,0]) (by simp;exact⟨s0.sml,s1.sml⟩) (by simp) (by simp)
 have hck:=fun(g:List Tm) (hg:Sml g)=>Qzg (fs:=[Q6 0]) (ps:=[1]) (n:=1) (cs:=[Qbw 1]) (hs:=[Qae (Q6 0) (Q6 1)]) (g:=g) (by simp;exact s0.sml) (by simp) (by simp) (by simp;exact s2.sml.big) (by simp) (by simp;exact s4.sml) (by simp) hg
 have hc1:=hck (Q6 1) s1.sml
 have hc2:=hck (Q6 0) s0.sml
 have hmn:=Quy (fs:=[Q6 0]) (ps:=[2]) (n:=1) (cs:=[Qae (Q6 0) (Q6 0),Qae (Q6 0) (Q6 1)]) rfl (by simp;exact⟨s0,n0,by omega,by omega⟩) (by simp) (by simp;exact⟨s3,s4⟩) (by simp) (by simp[Qe3]) Qalp
 have had:=Qly (p:=Qae (Q6 0) (Q6 1)) (q:=Q6 0) s4.b s0.b (by omega) (by omega) (by have:=s4.l;omega) (by have:=s0.l;omega)
 have he1:=Qed s5.b s5.b (by omega) (by omega) (by have:=s5.l;omega) (by have:=s5.l;omega)
 have he2:=Qed s3.b s3.b (by omega) (by omega) (by have:=s3.l;omega) (by have:=s3.l;omega)
 have hsl:=Q3n (a:=[Q6 0,Q6 1]) (b:=[Q6 0,Q6 1]) ⟨by simp;exact⟨Qmq s0,Qmq s1⟩,by simp⟩ ⟨by simp;exact⟨Qmq s0,Qmq s1⟩,by simp⟩
 rw[Qahx]at hcb
 rw[Qahy]at hpr
 rw[Qamt]at hc1
 rw[Qamu]at hc2
 rw[decide_eq_true rfl]at he1 he2 hsl
 have hone:=Q30
 clear s0 s1 s2 s3 s4 s5 n0 hck
 generalize Qx (Qae (Q6 0) (Q6 1)) (Q6 0)=A at *
 generalize Qae (Q6 0) (Q6 0)=M0 at *
 generalize Qae (Q6 0) (Q6 1)=M1 at *
 generalize Qbw 1=O at *
 generalize Q6 0=V0 at *
 generalize Q6 1=V1 at *
 refine Qf Qk Tryz.func30 rfl Qakx (by simp[c30]) fun C hP=> ?_;simp only[c30,Zo,Zg,Zm,Zc,Zf,Zl,Zh,Zs,Zi,Zb,Zk,Zn,Zu,Zq,Zr,Zz]
 simp+decide (disch:=first|exact D0|fail) only[go_sem,↓reduceIte]
 refine Qa hP hv0 rfl rfl rfl ?_
 simp+decide (disch:=first|exact D0|fail) only[go_sem,↓reduceIte]
 refine Qa hP hone rfl rfl rfl ?_
 simp+decide (disch:=first|exact D0|fail) only[go_sem,↓reduceIte]
 rw[Q3u (Qcq.own (m:=1) (e:=1) (ty:=51) (xs:=[PV.poly V0]) (fz:=false) T0 rfl) (Qcq.own (m:=1) (e:=1) (ty:=3) (xs:=[PV.int .i64 1]) (fz:=false) T0 rfl) (Qcq.flat rfl) (Qcq.own (m:=1) (e:=1) (ty:=51) (xs:=[PV.poly O]) (fz:=false) T0 rfl)]
 refine⟨⟨rfl,by simp⟩,⟨rfl,by simp⟩,⟨rfl,by simp⟩,⟨rfl,by simp⟩,?_⟩
 simp+decide (disch:=first|exact E0|fail) only[go_sem,↓reduceIte,Q5,List.contains_cons,List.contains_nil,List.flatMap_cons,List.flatMap_nil,List.append_nil]
 refine Qa hP hv0 rfl rfl rfl ?_
 simp+decide (disch:=first|exact D0|fail) only[go_sem,↓reduceIte]
 refine Qa hP hv1 rfl rfl rfl ?_
 simp+decide (disch:=first|exact D0|fail) only[go_sem,↓reduceIte]
 refine Qa hP hm1 rfl rfl rfl ?_
 simp+decide (disch:=first|exact D0|fail) only[go_sem,↓reduceIte]
 refine Qa hP hv1 rfl rfl rfl ?_
 simp+decide (disch:=first|exact D0|fail) only[go_sem,↓reduceIte]
 refine Qa hP hv0 rfl rfl rfl ?_
 simp+decide (disch:=first|exact D0|fail) only[go_sem,↓reduceIte]
 refine Qa hP hv0 rfl rfl rfl ?_
 simp+decide (disch:=first|exact D0|fail) only[go_sem,↓reduceIte]
 refine Qa hP hone rfl rfl rfl ?_
 simp+decide (disch:=first|exact D0|fail) only[go_sem,↓reduceIte]
 refine Qcf hP hcb Ur0 rfl ?_
 simp+decide (disch:=first|exact D0|fail) only[go_sem,↓reduceIte]
 refine Qa hP hv0 rfl rfl rfl ?_
 simp+decide (disch:=first|exact D0|fail) only[go_sem,↓reduceIte]
 refine Qa hP hv1 rfl rfl rfl ?_
 simp+decide (disch:=first|exact D0|fail) only[go_sem,↓reduceIte]
 refine Qcf hP hpr Ur0 rfl ?_
 simp+decide (disch:=first|exact D0|fail) only[go_sem,↓reduceIte]
 refine Qa hP hv0 rfl rfl rfl ?_
 simp+decide (disch:=first|exact D0|fail) only[go_sem,↓reduceIte]
 refine Qa hP hv0 rfl rfl rfl ?_
 simp+decide (disch:=first|exact D0|fail) only[go_sem,↓reduceIte]
 refine Qa hP hv0 rfl rfl rfl ?_
 simp+decide (disch:=first|exact D0|fail) only[go_sem,↓reduceIte]
 refine Qa hP hm0 rfl rfl rfl ?_
 simp+decide (disch:=first|exact D0|fail) only[go_sem,↓reduceIte]
 refine Qa hP hv0 rfl rfl rfl ?_
 simp+decide (disch:=first|exact D0|fail) only[go_sem,↓reduceIte]
 refine Qa hP hv1 rfl rfl rfl ?_
 simp+decide (disch:=first|exact D0|fail) only[go_sem,↓reduceIte]
 refine Qa hP hm1 rfl rfl rfl ?_
 simp+decide (disch:=first|exact D0|fail) only[go_sem,↓reduceIte]
 rw[Q3u (Qcq.own (m:=1) (e:=1) (ty:=51) (xs:=[PV.poly V0]) (fz:=false) T0 rfl) (Qcq.own (m:=1) (e:=1) (ty:=3) (xs:=[PV.int .i64 2]) (fz:=false) T0 rfl) (Qcq.flat rfl) (Qcq.own (m:=2) (e:=1) (ty:=51) (xs:=[PV.poly M0,PV.poly M1]) (fz:=false) T0 rfl)]
 refine⟨⟨rfl,by simp⟩,⟨rfl,by simp⟩,⟨rfl,by simp⟩,⟨rfl,by simp⟩,?_⟩
 simp+decide (disch:=first|exact E0|fail) only[go_sem,↓reduceIte,Q5,List.contains_cons,List.contains_nil,List.flatMap_cons,List.flatMap_nil,List.append_nil]
 refine Qa hP hmn rfl rfl rfl ?_
 simp+decide (disch:=first|exact E0|fail) only[go_sem,↓reduceIte,Q5,List.contains_cons,List.contains_nil,List.flatMap_cons,List.flatMap_nil,List.append_nil]
 rw[Qaco (ty:=51) (xs:=[PV.poly M1]) (fz:=false) U0 (by omega)]
 simp+decide (disch:=first|exact E0|fail) only[go_sem,↓reduceIte,Q5,List.contains_cons,List.contains_nil,List.flatMap_cons,List.flatMap_nil,List.append_nil]
 refine Qa hP hv0 rfl rfl rfl ?_
 simp+decide (disch:=first|exact E0|fail) only[go_sem,↓reduceIte,Q5,List.contains_cons,List.contains_nil,List.flatMap_cons,List.flatMap_nil,List.append_nil]
 refine Qa hP had rfl rfl rfl ?_
 simp+decide (disch:=first|exact E0|fail) only[go_sem,↓reduceIte,Q5,List.contains_cons,List.contains_nil,List.flatMap_cons,List.flatMap_nil,List.append_nil]
 refine Qa hP he1 rfl rfl rfl ?_
 simp+decide (disch:=first|exact E0|fail) only[go_sem,↓reduceIte,Q5,List.contains_cons,List.contains_nil,List.flatMap_cons,List.flatMap_nil,List.append_nil]
 refine Qa hP hv0 rfl rfl rfl ?_
 simp+decide (disch:=first|exact E0|fail) only[go_sem,↓reduceIte,Q5,List.contains_cons,List.contains_nil,List.flatMap_cons,List.flatMap_nil,List.append_nil]
 refine Qa hP hv0 rfl rfl rfl ?_
 simp+decide (disch:=first|exact E0|fail) only[go_sem,↓reduceIte,Q5,List.contains_cons,List.contains_nil,List.flatMap_cons,List.flatMap_nil,List.append_nil]
 refine Qa hP hm0 rfl rfl rfl ?_
 simp+decide (disch:=first|exact E0|fail) only[go_sem,↓reduceIte,Q5,List.contains_cons,List.contains_nil,List.flatMap_cons,List.flatMap_nil,List.append_nil]
 refine Qa hP he2 rfl rfl rfl ?_
 simp+decide (disch:=first|exact E0|fail) only[go_sem,↓reduceIte,Q5,List.contains_cons,List.contains_nil,List.flatMap_cons,List.flatMap_nil,List.append_nil]
 refine Qa hP hv1 rfl rfl rfl ?_
 simp+decide (disch:=first|exact E0|fail) only[go_sem,↓reduceIte,Q5,List.contains_cons,List.contains_nil,List.flatMap_cons,List.flatMap_nil,List.append_nil]
 refine Qcf hP hc1 Ur0 rfl ?_
 simp+decide (disch:=first|exact E0|fail) only[go_sem,↓reduceIte,Q5,List.contains_cons,List.contains_nil,List.flatMap_cons,List.flatMap_nil,List.append_nil]
 refine Qa hP hv0 rfl rfl rfl ?_
 simp+decide (disch:=first|exact E0|fail) only[go_sem,↓reduceIte,Q5,List.contains_cons,List.contains_nil,List.flatMap_cons,List.flatMap_nil,List.append_nil]
 refine Qcf hP hc2 Ur0 rfl ?_
 simp+decide (disch:=first|exact E0|fail) only[go_sem,↓reduceIte,Q5,List.contains_cons,List.contains_nil,List.flatMap_cons,List.flatMap_nil,List.append_nil]
 refine Qa hP hv0 rfl rfl rfl ?_
 simp+decide (disch:=first|exact E0|fail) only[go_sem,↓reduceIte,Q5,List.contains_cons,List.contains_nil,List.flatMap_cons,List.flatMap_nil,List.append_nil]
 refine Qa hP hv1 rfl rfl rfl ?_
 simp+decide (disch:=first|exact E0|fail) only[go_sem,↓reduceIte,Q5,List.contains_cons,List.contains_nil,List.flatMap_cons,List.flatMap_nil,List.append_nil]
 refine Qcf hP hsl Ur0 rfl ?_
 simp+decide (disch:=first|exact E0|fail) only[go_sem,↓reduceIte,Q5,List.contains_cons,List.contains_nil,List.flatMap_cons,List.flatMap_nil,List.append_nil]
 exact Qc rfl rfl
end Go.Proofs.YtonfajmchebkeaaGreat
namespace Go.Proofs.YtonfajmchebkeaaGreat
open Go Go.FW
set_option linter.unusedSimpArgs false
set_option linter.unusedVariables false
set_option maxRecDepth 100000
theorem Qwc{l:List RTm}{k:Nat}(hb:∀t∈l,RB k t)(h:Qhz l=true):PV.rpoly l=PV.poly (l.map RTm.tm)/\Sm4 (l.map RTm.tm):=by
 simp only[Qhz,Bool.and_eq_true,decide_eq_true_eq,List.all_eq_true]at h
 obtain⟨h1,h2,h3⟩:=h
 obtain⟨e1,e2⟩:=Qvi hb h3
 refine⟨e1,e2.nrm,fun t ht=> ?_,fun t ht=> ?_,by simpa using h1⟩
 ·obtain⟨x,hx,rfl⟩:=List.mem_map.1 ht
  have hs:=h2 x hx
  simp only[smK,Bool.and_eq_true,decide_eq_true_eq,List.all_eq_true]at hs
  have hv:=e2.t _ ht
  have hr:=(show Raw 2 x.n x.a x.d from⟨(hb x hx).r.1,(hb x hx).r.2.1,hs.2.1,hs.2.2.1,by omega⟩).rs
  have hm:=MB.ofOk hv.m
  refine⟨?_,⟨hm.len,hm.lo,fun y hy=>hs.2.2.2 y hy⟩,Qlq hv.m⟩
  show rs (rv x.n x.a x.d)+1<=3
  omega
 ·obtain⟨x,hx,rfl⟩:=List.mem_map.1 ht
  have hs:=h2 x hx
  simp only[smK,Bool.and_eq_true,decide_eq_true_eq,List.all_eq_true]at hs
  exact hs.1
def tms(ls:List (List RTm)):List (List Tm):=ls.map fun l=>l.map RTm.tm
theorem Qph{ls:List (List RTm)}{k:Nat}(hb:∀l∈ls,(∀t∈l,RB k t)/\l.length<2^40)(h:Qn4 ls=true):PV.sl 1 (ls.map PV.rpoly)=PV.polys (tms ls)/\(∀f∈tms ls,Sm4 f)/\(tms ls).length<=4:=by
 simp only[Qn4,Bool.and_eq_true,decide_eq_true_eq,List.all_eq_true]at h
 refine⟨?_,fun f hf=> ?_,by unfold tms;rw[List.length_map];exact h.1⟩
 ·unfold tms PV.polys
  rw[List.map_map]
  exact congrArg _ (List.map_congr_left fun l hl=>(Qwc (hb l hl).1 (h.2 l hl)).1)
 ·obtain⟨l,hl,rfl⟩:=List.mem_map.1 hf
  exact(Qwc (hb l hl).1 (h.2 l hl)).2
theorem Q31 {fs :List (List Tm)} {ps:List Int} (hl:fs.length<2^40) (hl2:ps.length<2^40) (hf:∀f∈fs,f.length<2^40):Qe Tryz.prog 29 [PV.polys fs,PV.mono ps] (fun r=>∃b,r= .bool b):=by
  refine Qf Qk Tryz.func29 rfl Qak0 (by simp[c29]) fun C hP=> ?_;simp only[c29,Zo,Zg,Zm,Zc,Zf,Zl,Zh,Zs,Zi,Zb,Zk,Zn,Zu,Zq,Zr,Zz]
  simp+decide (disch:=first|exact D0|fail) only[go_sem,↓reduceIte]
  refine Qy (by repeat (first|exact Qv|exact Qo|exact Qp|exact Qq|exact Qr|apply Qn|apply Qu|apply Qz|apply Q8|apply Q9|apply Ql|apply Q2)) [(4,56)] [] (fun m J hp=>∃(i:Nat)(z:Int),m=ps.length-i/\i<=ps.length/\J 5= .int .i64 z/\J 6= .int .i64 (i:Nat)) ps.length ?_ ?_
  · refine⟨0,0,rfl,by omega,?_⟩
    simp+decide (disch:=first|exact D0|fail) only[go_sem,↓reduceIte]
    rfl
  rintro _ J h ⟨i,z,rfl,hi,h5,h6⟩
  simp+decide (disch:=first|exact D1 h6|fail) only[go_sem,↓reduceIte,h6]
  refine Qb (fun hg=> ?_) (fun hg=> ?_)
  · have hi' : i < ps.length:=by omega
    generalize hx:ps[i]=x at *
    simp+decide (disch:=first|exact D2 h6 hx|fail) only[go_sem,↓reduceIte,h6,hx]
    refine Qah (fun h1=> ?_) (fun h1=> ?_)
    · simp +decide (disch:=first|exact D2 h6 hx|fail) only[go_sem,↓reduceIte,h6,hx]
      refine Qb (fun h2=> ?_) (fun h2=> ?_)
      · simp+decide (disch:=first|exact D0|fail) only[go_sem,↓reduceIte]
        exact⟨rfl,_,Qt _,⟨_,rfl⟩⟩
      simp+decide (disch:=first|exact D2 h6 hx|fail) only[go_sem,↓reduceIte,h6,hx]
      refine Qah (fun h2=> ?_) (fun h2=> ?_)
      · simp+decide (disch:=first|exact D2 h6 hx|fail) only[go_sem,↓reduceIte,h6,hx]
        refine Qah (fun h3=> ?_) (fun h3=> ?_)
        · simp+decide (disch:=first|exact D2 h6 hx|fail) only[go_sem,↓reduceIte,h6,hx]
          refine Qah (fun h4=> ?_) (fun h4=> ?_)
          · have hif:i<fs.length:=by omega
            have hfl:=hf _ (List.getElem_mem hif)
            generalize hy:fs[i]=y at *
            simp+decide (disch:=first|exact D3 h6 hx hy|fail) only[go_sem,↓reduceIte,h6,hx,hy]
            refine Qb (fun h7=> ?_) (fun h7=> ?_)
            · simp +decide (disch:=first|exact D3 h6 hx h5|fail) only[go_sem,↓reduceIte,h6,hx,h5]
              first
                | (refine Qi (ps.length-(i+1)) (by omega) ⟨i+1,z+x,rfl,by omega,?_⟩
                   simp+decide (disch:=first|exact D0|fail) only[go_sem,↓reduceIte]
                   done)
                | (refine Qi (ps.length-(i+1)) (by omega) ⟨i+1,IntKind.i64.wrap (z+x),rfl,by omega,?_⟩
                   simp+decide (disch:=first|exact D0|fail) only[go_sem,↓reduceIte])
            · simp+decide (disch:=first|exact D2 h6 hx|fail) only[go_sem,↓reduceIte,h6,hx]
              refine Qi (ps.length-(i+1)) (by omega) ⟨i+1,z,rfl,by omega,?_⟩
              simp+decide (disch:=first|exact D1 h5|fail) only[go_sem,↓reduceIte,h5]
          · simp+decide (disch:=first|exact D2 h6 hx|fail) only[go_sem,↓reduceIte,h6,hx]
            refine Qi (ps.length-(i+1)) (by omega) ⟨i+1,z,rfl,by omega,?_⟩
            simp+decide (disch:=first|exact D1 h5|fail) only[go_sem,↓reduceIte,h5]
        · simp+decide (disch:=first|exact D2 h6 hx|fail) only[go_sem,↓reduceIte,h6,hx]
          refine Qi (ps.length-(i+1)) (by omega) ⟨i+1,z,rfl,by omega,?_⟩
          simp+decide (disch:=first|exact D1 h5|fail) only[go_sem,↓reduceIte,h5]
      · simp+decide (disch:=first|exact D2 h6 hx|fail) only[go_sem,↓reduceIte,h6,hx]
        refine Qi (ps.length-(i+1)) (by omega) ⟨i+1,z,rfl,by omega,?_⟩
        simp+decide (disch:=first|exact D1 h5|fail) only[go_sem,↓reduceIte,h5]
    simp+decide (disch:=first|exact D2 h6 hx|fail) only[go_sem,↓reduceIte,h6,hx]
    refine Qah (fun h2=> ?_) (fun h2=> ?_)
    · simp+decide (disch:=first|exact D2 h6 hx|fail) only[go_sem,↓reduceIte,h6,hx]
      refine Qah (fun h3=> ?_) (fun h3=> ?_)
      · simp+decide (disch:=first|exact D2 h6 hx|fail) only[go_sem,↓reduceIte,h6,hx]
        refine Qah (fun h4=> ?_) (fun h4=> ?_)
        · have hif:i<fs.length:=by omega
          have hfl:=hf _ (List.getElem_mem hif)
          generalize hy:fs[i]=y at *
          simp+decide (disch:=first|exact D3 h6 hx hy|fail) only[go_sem,↓reduceIte,h6,hx,hy]
          refine Qb (fun h7=> ?_) (fun h7=> ?_)
          · simp +decide (disch:=first|exact D3 h6 hx h5|fail) only[go_sem,↓reduceIte,h6,hx,h5]
            first
              | (refine Qi (ps.length-(i+1)) (by omega) ⟨i+1,z+x,rfl,by omega,?_⟩
                 simp+decide (disch:=first|exact D0|fail) only[go_sem,↓reduceIte]
                 done)
              | (refine Qi (ps.length-(i+1)) (by omega) ⟨i+1,IntKind.i64.wrap (z+x),rfl,by omega,?_⟩
                 simp+decide (disch:=first|exact D0|fail) only[go_sem,↓reduceIte])
          · simp+decide (disch:=first|exact D2 h6 hx|fail) only[go_sem,↓reduceIte,h6,hx]
            refine Qi (ps.length-(i+1)) (by omega) ⟨i+1,z,rfl,by omega,?_⟩
            simp+decide (disch:=first|exact D1 h5|fail) only[go_sem,↓reduceIte,h5]
        · simp+decide (disch:=first|exact D2 h6 hx|fail) only[go_sem,↓reduceIte,h6,hx]
          refine Qi (ps.length-(i+1)) (by omega) ⟨i+1,z,rfl,by omega,?_⟩
          simp+decide (disch:=first|exact D1 h5|fail) only[go_sem,↓reduceIte,h5]
      · simp+decide (disch:=first|exact D2 h6 hx|fail) only[go_sem,↓reduceIte,h6,hx]
        refine Qi (ps.length-(i+1)) (by omega) ⟨i+1,z,rfl,by omega,?_⟩
        simp+decide (disch:=first|exact D1 h5|fail) only[go_sem,↓reduceIte,h5]
    · simp+decide (disch:=first|exact D2 h6 hx|fail) only[go_sem,↓reduceIte,h6,hx]
      refine Qi (ps.length-(i+1)) (by omega) ⟨i+1,z,rfl,by omega,?_⟩
      simp+decide (disch:=first|exact D1 h5|fail) only[go_sem,↓reduceIte,h5]
  · simp+decide (disch:=first|exact D1 h5|fail) only[go_sem,↓reduceIte,h5]
    exact⟨rfl,_,Qt _,⟨_,rfl⟩⟩
end Go.Proofs.YtonfajmchebkeaaGreat
namespace Go.Proofs.YtonfajmchebkeaaGreat
open Go Go.FW
set_option linter.unusedSimpArgs false
set_option linter.unusedVariables false
set_option maxRecDepth 100000
theorem Quz{l:List (List Tm)}(h:∀f∈l,Sm4 f)(hl:l.length<=4):(∀f∈l,Sml f)/\(∀f∈l,Big f)/\Qzh l/\∀f∈l,f.length<2^40:=
 ⟨fun f hf=>(h f hf).sml,fun f hf=>(h f hf).sml.big,⟨fun f hf=>Qmq (h f hf),by omega⟩,fun f hf=>by have:=(h f hf).l;omega⟩
theorem Qn7{ls:List (List RTm)}{ps:List Int}{k:Nat}(hb:∀l∈ls,(∀t∈l,RB k t)/\l.length<2^40)(hk1:1<=k)(hk:k<2^36)(hll:ls.length<2^40)(hpl:ps.length<2^40):
  Qe Tryz.prog 6 [.sl 1 (ls.map PV.rpoly),PV.mono ps] (· = .bool true):=by
 refine Qf Qk Tryz.func6 rfl Qamd (by simp[c6]) fun C hP=> ?_;simp only[c6,Zo,Zg,Zm,Zc,Zf,Zl,Zh,Zs,Zi,Zb,Zk,Zn,Zu,Zq,Zr,Zz]
 simp+decide (disch:=first|exact D0|fail) only[go_sem,↓reduceIte]
 refine Qa hP (Qih hb hk1 hk hll) rfl rfl rfl ?_
 cases hs:Qn4 ls
 ·simp+decide (disch:=first|exact D0|fail) only[go_sem,↓reduceIte]
  refine Qa hP Qdq rfl rfl rfl ?_
  simp+decide (disch:=first|exact D0|fail) only[go_sem,↓reduceIte]
  exact Qc rfl rfl
 obtain⟨he,h4,hl4⟩:=Qph hb hs
 rw[he]
 generalize tms ls=P at *
 obtain⟨q1,q2,q3,q4⟩:=Quz h4 hl4
 simp+decide (disch:=first|exact D0|fail) only[go_sem,↓reduceIte]
 refine Qab (fun h6=> ?_) (fun h6=> ?_)
 ·simp+decide (disch:=first|exact D0|fail) only[go_sem,↓reduceIte]
  refine Qa hP Qdq rfl rfl rfl ?_
  simp+decide (disch:=first|exact D0|fail) only[go_sem,↓reduceIte]
  exact Qc rfl rfl
 simp+decide (disch:=first|exact D0|fail) only[go_sem,↓reduceIte]
 refine Qcj hP (Q31 (fs:=P) (ps:=ps) (by omega) hpl q4) rfl rfl rfl ?_
 rintro _ ⟨b,rfl⟩
 cases b
 rotate_left
 ·simp+decide (disch:=first|exact D0|fail) only[go_sem,↓reduceIte]
  refine Qa hP Qdq rfl rfl rfl ?_
  simp+decide (disch:=first|exact D0|fail) only[go_sem,↓reduceIte]
  exact Qc rfl rfl
 have c1:=Qii (fs:=P) (ps:=ps) q1 (by omega) hpl
 have c2:=Qur (fs:=P) (ps:=ps) q1 (by omega) hpl
 have hpp:=Qwb (ps:=ps) q1 (by omega)
 obtain⟨⟨r,e⟩,hr⟩:∃x,x=Qcb P ps:=⟨_,rfl⟩
 rw[<-hr]at c1 c2 hpp
 simp only at c1 c2 hpp
 have hq:PB (2^18) (2^17) r/\r.length<=4000:=by
  by_cases e0:e=0
  ·obtain⟨n,hn,h⟩:=hpp e0
   exact⟨h.PB (by omega),h.l⟩
  ·have:r=[]:=by
    have h1:=congrArg Prod.fst hr
    have h2:=congrArg Prod.snd hr
    simp only at h1 h2
    rw[h1]
    rw[h2]at e0
    unfold Qcb at e0⊢
    split
    ·rename_i a
     rw[if_pos a]at e0
     split
     ·rename_i b
      rw[if_pos b]at e0
      unfold Qg4 at e0⊢
      split<;>simp_all
     ·rfl
    ·rfl
   rw[this];exact⟨PB.nil _ _,by simp⟩
 simp+decide (disch:=first|exact D0|fail) only[go_sem,↓reduceIte]
 refine Qa hP c1 rfl rfl rfl ?_
 simp+decide (disch:=first|exact D0|fail) only[go_sem,↓reduceIte]
 refine Qa hP c2 rfl rfl rfl ?_
 simp+decide (disch:=first|exact D0|fail) only[go_sem,↓reduceIte]
 refine Qa hP (Qed hq.1 hq.1 (by omega) (by omega) (by omega) (by omega)) rfl rfl rfl ?_
 rw[decide_eq_true (p:=r=r) rfl]
 simp+decide (disch:=first|exact D0|fail) only[go_sem,↓reduceIte]
 refine Qa hP Qdq rfl rfl rfl ?_
 simp+decide (disch:=first|exact D0|fail) only[go_sem,↓reduceIte]
 exact Qc rfl rfl
theorem Qpi{cs ls:List (List RTm)}{p:List RTm}{k:Nat}(hc:∀l∈cs,(∀t∈l,RB k t)/\l.length<2^40)(hb:∀l∈ls,(∀t∈l,RB k t)/\l.length<2^40)(hp:(∀t∈p,RB k t)/\p.length<2^40)(hk1:1<=k)(hk:k<=2^20)(hcl:cs.length<2^40)(hll:ls.length<2^40):
  Qe Tryz.prog 10 [.sl 1 (cs.map PV.rpoly),.sl 1 (ls.map PV.rpoly),PV.rpoly p] (· = .bool true):=by
 refine Qf Qk Tryz.func10 rfl Qak1 (by simp[c10]) fun C hP=> ?_;simp only[c10,Zo,Zg,Zm,Zc,Zf,Zl,Zh,Zs,Zi,Zb,Zk,Zn,Zu,Zq,Zr,Zz]
 simp+decide (disch:=first|exact D0|fail) only[go_sem,↓reduceIte]
 refine Qa hP (Qih hc hk1 (by omega) hcl) rfl rfl rfl ?_
 cases h1:Qn4 cs
 ·simp+decide (disch:=first|exact D0|fail) only[go_sem,↓reduceIte]
  refine Qa hP Qdq rfl rfl rfl ?_
  simp+decide (disch:=first|exact D0|fail) only[go_sem,↓reduceIte]
  exact Qc rfl rfl
 obtain⟨he1,c4,cl4⟩:=Qph hc h1
 simp+decide (disch:=first|exact D0|fail) only[go_sem,↓reduceIte]
 refine Qa hP (Qih hb hk1 (by omega) hll) rfl rfl rfl ?_
 cases h2:Qn4 ls
 ·simp+decide (disch:=first|exact D0|fail) only[go_sem,↓reduceIte]
  refine Qa hP Qdq rfl rfl rfl ?_
  simp+decide (disch:=first|exact D0|fail) only[go_sem,↓reduceIte]
  exact Qc rfl rfl
 obtain⟨he2,l4,ll4⟩:=Qph hb h2
 simp+decide (disch:=first|exact D0|fail) only[go_sem,↓reduceIte]
 refine Qa hP (Qo6 hp.1 hk1 (by omega) hp.2) rfl rfl rfl ?_
 cases h3:Qe2 p
 ·simp+decide (disch:=first|exact D0|fail) only[go_sem,↓reduceIte]
  refine Qa hP Qdq rfl rfl rfl ?_
  simp+decide (disch:=first|exact D0|fail) only[go_sem,↓reduceIte]
  exact Qc rfl rfl
 obtain⟨he3,pv⟩:=Qvi hp.1 h3
 have hpb:PB (2^30) (2^20) (p.map RTm.tm):=fun t ht=>by
  have hv:=pv.t _ ht
  obtain⟨x,hx,rfl⟩:=List.mem_map.1 ht
  have hr:=(show Raw k x.n x.a x.d from⟨(hp.1 x hx).r.1,(hp.1 x hx).r.2.1,(hp.1 x hx).r.2.2.1,(hp.1 x hx).r.2.2.2,hk1⟩).rs
  refine⟨?_,(MB.ofOk hv.m).mono (by omega),Qlq hv.m⟩
  show rs (rv x.n x.a x.d)+1<=2^30
  omega
 have hpl:(p.map RTm.tm).length=p.length:=List.length_map _
 have he3':PV.sl 4 (p.map PV.rterm)=PV.poly (p.map RTm.tm):=he3
 simp+decide (disch:=first|exact D0|fail) only[go_sem,↓reduceIte]
 refine Qb (fun h5=> ?_) (fun h5=> ?_)
 ·simp+decide (disch:=first|exact D0|fail) only[go_sem,↓reduceIte]
  refine Qa hP Qdq rfl rfl rfl ?_
  simp+decide (disch:=first|exact D0|fail) only[go_sem,↓reduceIte]
  exact Qc rfl rfl
 rw[he1,he2,he3]
 obtain⟨q1,q2,q3,q4⟩:=Quz c4 cl4
 obtain⟨t1,t2,t3,t4⟩:=Quz l4 ll4
 generalize tms cs=D at *
 generalize tms ls=H at *
 generalize p.map RTm.tm=P at *
 have c1:=Qgj (cs:=D) (ls:=H) q2 t1 (by omega) (by omega)
 have c2:=Qmn (cs:=D) (ls:=H) q2 t1 (by omega) (by omega)
 have d1:=Qkt (p:=P) (cs:=D) (ls:=H) hpb (by omega) q2 t1 (by omega) (by omega)
 have d2:=Qus (p:=P) (cs:=D) (ls:=H) hpb (by omega) q2 t1 (by omega) (by omega)
 obtain⟨b1,_,b3⟩:=Qn3 q2 t1 (show D.length<=8 by omega)
 have d3:=Qkt (p:=(Qa2 D H).1) (cs:=D) (ls:=H) (b1.mono (by omega) (by omega)) (by omega) q2 t1 (by omega) (by omega)
 have hrr:Qh0 (Qa2 D H).1 D H=decide ((Qa2 D H).2=0):=by unfold Qh0;rw[decide_eq_true (p:=(Qa2 D H).1=(Qa2 D H).1) rfl,Bool.and_true]
 rw[hrr]at d3
 generalize Qh0 P D H=rr at *
 generalize Qa2 D H=r at *
 obtain⟨s,e⟩:=r
 simp only at c1 c2 d3 b1 b3
 simp+decide (disch:=first|exact D0|fail) only[go_sem,↓reduceIte]
 refine Qa hP c1 rfl rfl rfl ?_
 simp+decide (disch:=first|exact D0|fail) only[go_sem,↓reduceIte]
 refine Qa hP c2 rfl rfl rfl ?_
 simp+decide (disch:=first|exact D0|fail) only[go_sem,↓reduceIte]
 refine Qa hP (Qed b1 b1 (by omega) (by omega) (by omega) (by omega)) rfl rfl rfl ?_
 rw[decide_eq_true (p:=s=s) rfl]
 simp+decide (disch:=first|exact D0|fail) only[go_sem,↓reduceIte]
 refine Qa hP d1 rfl rfl rfl ?_
 simp+decide (disch:=first|exact D0|fail) only[go_sem,↓reduceIte]
 refine Qa hP d2 rfl rfl rfl ?_
 simp+decide (disch:=first|omega|rfl|(simp+decide only[go_sem,↓reduceIte,beq_self_eq_true]<;>rfl)|fail) only[go_sem,↓reduceIte,beq_self_eq_true]
 refine Qa hP d3 rfl rfl rfl ?_
 simp+decide (disch:=first|omega|rfl|(simp+decide only[go_sem,↓reduceIte,beq_self_eq_true]<;>rfl)|fail) only[go_sem,↓reduceIte,beq_self_eq_true]
 refine Qa hP Qdq rfl rfl rfl ?_
 simp+decide (disch:=first|exact D0|fail) only[go_sem,↓reduceIte]
 exact Qc rfl rfl
end Go.Proofs.YtonfajmchebkeaaGreat
namespace Go.Proofs.YtonfajmchebkeaaGreat
open Go Go.FW Go.ChangeShapes Go.WideShapes Go.ChangeAt Go.RowKit
set_option linter.unusedSimpArgs false
set_option linter.unusedVariables false
set_option maxRecDepth 100000
variable {H : Type} {enc : TypeId × Value -> H}
def Q32(l:List Int):Prop:=l.length<=1048576/\∀x∈l,-9223372036854775808<=x/\x<=9223372036854775807
theorem Qahz:Rd enc 26 fun ps=>∃l:List Int,ps=[PV.mono l]/\Q32 l:=by
 refine(Qgn (α:=Int) (f:=fun(x:Int)=> .int .i64 x) Qcd Tryz.underlying26 (by rw[Qi1];omega) (Qvm Tryz.underlying3)).mono ?_
 rintro ps ⟨l,rfl,h1,h2⟩
 exact⟨l,by rw[Qi1],h1,h2⟩
variable {w : World} {base : Nat} {spare : Nat -> Bool} {held : Bool} {r : Reach} {b0 : Nat} {v : Value} {d : DataW H} {ps : List MemPlace}
theorem Qacu(Qc3:Value.okWide Tryz.prog w r b0 26 v)(hd:DataW.Trod enc Tryz.prog w base spare held 26 v d ps)(hn:Rows.uptoBulk d<=1048576):∃l,Qai w Qbi (PV.mono l) v/\Q32 l:=by
 obtain⟨p,⟨l,e,h⟩,h2⟩:=Qvn Tryz.underlying26 Qc3 Qahz hd hn
 obtain rfl:p=PV.mono l:=by simpa using e
 exact⟨l,h2,h⟩
theorem Qp4{ls:List (List RTm)}(h:Qmg ls):(∀l∈ls,(∀t∈l,RB 1048576 t)/\l.length<2^40)/\ls.length<2^40:=⟨fun l hl=>⟨fun t ht=>((h.2 l hl).2 t ht).1,by have:=(h.2 l hl).1;omega⟩,by have:=h.1;omega⟩
theorem IdealCombines_all{cs ls:List (List RTm)}{p:List RTm}(hc:Qmg cs)(hb:Qmg ls)(hp:Qw1 p):Qe Tryz.prog 10 [.sl 1 (cs.map PV.rpoly),.sl 1 (ls.map PV.rpoly),PV.rpoly p] (· = .bool true):=
 Qpi (k:=1048576) (Qp4 hc).1 (Qp4 hb).1 ⟨fun t ht=>(hp.2 t ht).1,by have:=hp.1;omega⟩ (by omega) (by omega) (Qp4 hc).2 (Qp4 hb).2
theorem Qof{ls:List (List RTm)}{ps:List Int}(hb:Qmg ls)(hp:Q32 ps):Qe Tryz.prog 6 [.sl 1 (ls.map PV.rpoly),PV.mono ps] (· = .bool true):=
 Qn7 (k:=1048576) (Qp4 hb).1 (by omega) (by omega) (Qp4 hb).2 (by have:=hp.1;omega)
end Go.Proofs.YtonfajmchebkeaaGreat
namespace Go.Proofs.YtonfajmchebkeaaGreat
open Go Go.FW Go.ChangeShapes Go.WideShapes Go.ChangeAt Go.RowKit
set_option linter.unusedSimpArgs false
set_option linter.unusedVariables false
set_option maxRecDepth 100000
theorem Qkw(H:Type)(enc:TypeId×Value->H)(W:World)(base:Nat)(args:Array Value)(ds gs:List (DataW H))(before:List MemPlace)
  (Qc3:∀(j:Nat) t v,Tryz.f6.params[j]? =some t->args[j]? =some v->Value.okWide Tryz.prog W .any base t v)
  (hW:DataW.Whole enc Tryz.prog Tryz.f6.params.toList Rows.idealMultipliesSpec.vars false W args.toList ds gs before) (hk:Rows.uptoSmall H (ds++gs)=true):
  Calls Tryz.prog 6 args W fun e W'=>∃v,e= .returned v/\Rows.idealMultipliesSpec.post enc Tryz.prog Tryz.f6 false true false false W args v W':=by
 have hW':=hW
 obtain⟨p,q,hA0,hV,rfl,hfz,hnd⟩:=hW
 have hA:DataW.TrodAll enc Tryz.prog W 0 (fun _=>true) true Tryz.f6.params.toList args.toList ds p:=hA0
 rw[Tryz.params6]at hA Qc3
 obtain⟨v0,vs0,e0,ds0,p0,q0,hargs,rfl,rfl,h0,r0⟩:=trodAll_cons hA
 obtain⟨v1,vs1,e1,ds1,p1,q1,rfl,rfl,rfl,h1,r1⟩:=trodAll_cons r0
 obtain⟨rfl,rfl,rfl⟩:=trodAll_nil r1
 obtain rfl:args= #[v0,v1]:=by cases args;simp_all
 obtain⟨rfl,rfl⟩:=trodVars_none hV
 have hb:=Qaas hk
 simp only[List.append_nil,Rows.uptoBulkAll]at hb
 obtain⟨a0,g0,b0⟩:=Q6g (Qc3 0 _ v0 rfl rfl) h0 (by omega)
 obtain⟨a1,g1,b1⟩:=Qacu (Qc3 1 _ v1 rfl rfl) h1 (by omega)
 exact Q6h hW' rfl (by kernel_rfl) (by kernel_rfl) rfl (Qof b0 b1) rfl
  (Qaau (vs:=[v0,v1]) (by
   intro i x hx v hv
   match i,hx,hv with
   |0,hx,hv=>simp at hx hv;subst hx hv;exact g0
   |1,hx,hv=>simp at hx hv;subst hx hv;exact g1
   |i+2,hx,hv=>simp at hx) rfl)
theorem Ql1(os:Os)(started:os.Started)(H:Type)(enc:TypeId×Value->H)(F:Stop.Interp):
  ReturnsInHanded {} Tryz.checked os 6 .any ((Rows.OpenSpec.upto Rows.idealMultipliesSpec).pre6 enc Tryz.prog Tryz.f6 Rows.idealMultipliesUptoRow.domain false) (((Rows.OpenSpec.upto Rows.idealMultipliesSpec).at F).post enc Tryz.prog Tryz.f6 false true false false):=by
 refine returnsInHanded_of_cond (C:=Tryz.checked) (s:=Rows.OpenSpec.upto Rows.idealMultipliesSpec) (k:=Rows.uptoSmall) rfl own started (by kernel_rfl) Tryz.func6
  (OpenSpec.witness (enc:=enc) (C:=Tryz.checked) (s:=Rows.OpenSpec.upto Rows.idealMultipliesSpec) (k:=Rows.uptoSmall) rfl false ⟨#[],#[.slice none 0 0,.slice none 0 0],[]⟩ 8 (by kernel_rfl) (by kernel_rfl) (by kernel_rfl)
   (x:=([.nil,.nil],[],[])) (by kernel_rfl) rfl (by kernel_rfl)) ?_
 intro W base args ds gs before Qc3 hW _ hk _
 exact Qkw H enc W base args ds gs before Qc3 hW hk
theorem idealMultiplies_proved:Rows.IdealMultipliesUptoSaid:=
 OpenClaim.holds_of_cond 6 Tryz.f6 rfl rfl rfl rfl rfl rfl rfl ⟨rfl,rfl,rfl,rfl,rfl⟩ rfl rfl rfl rfl rfl (by kernel_rfl) Tryz.func6 (by kernel_rfl)
  (of_decide_eq_true (by kernel_rfl)) (by unfold Func.isWrapper;first|(rw[if_pos (by decide+kernel)];kernel_rfl)|(rw[if_neg (by decide+kernel)];exact⟨rfl,rfl⟩))
  (fun os started H enc _ F=>Ql1 os started H enc F)
end Go.Proofs.YtonfajmchebkeaaGreat
