/- Part 14 of the proof of DiscoverHolds: DC, DD, DE, DF, DG, DL, DM, DN, P9, U11, FwWK, FwRK. Own lemmas; no conditions. -/
import Derived.Test.YtmkijkjaeljieaaGreatDiscoverHoldsPart13
set_option maxHeartbeats 1000000
set_option linter.unusedSimpArgs false
set_option linter.unusedVariables false
set_option linter.unnecessarySimpa false
set_option maxRecDepth 100000
namespace Go.Proofs.YtmkijkjaeljieaaGreat
open Tryz
open Go Go.FW
theorem wG{a b c d:Pt}{k:Nat}(ha:aF k a)(hb:aF k b)(hc:aF k c)(hd:aF k d):rs (dy a b c d)<=8*k+5:=by have:=apJ (nk ha hb) (nk hc hd);unfold dy;omega
theorem kI{a b c d:Pt}{k:Nat}(ha:aF k a)(hb:aF k b)(hc:aF k c)(hd:aF k d):rs (aW a b c d)<=8*k+5:=by have:=apK (nk ha hb) (nk hc hd);unfold aW;omega
theorem HM{a b c d:Pt}{k:Nat}(ha:aF k a)(hb:aF k b)(hc:aF k c)(hd:aF k d)(hk:k<=2^20):AC 158 [PV.aH a,PV.aH b,PV.aH c,PV.aH d] (· =PV.rat (dy a b c d)):=by
 have h1:=Dk ha hb Oz;have h2:=Dk hc hd Oz;have h3:=aio (nk ha hb) (nk hc hd) Oz;unfold dy;generalize kL a b=u at *
 generalize kL c d=v at *
 obtain⟨a1,a2⟩:=a;obtain⟨b1,b2⟩:=b;obtain⟨c1,c2⟩:=c;obtain⟨d1,d2⟩:=d;obtain⟨u1,u2⟩:=u;obtain⟨v1,v2⟩:=v;refine aw Qf func158 aln fun C hP=>?_;refine aq hP h1 ?_;refine aq hP h2 ?_;refine aq hP h3 ?_;refine Sz0 ?_;refine bX ?_;refine Sz0 ?_;exact Qc rfl rfl
theorem Kp{a b c d:Pt}{k:Nat}(ha:aF k a)(hb:aF k b)(hc:aF k c)(hd:aF k d)(hk:k<=2^20):AC 159 [PV.aH a,PV.aH b,PV.aH c,PV.aH d] (· =PV.rat (aW a b c d)):=by
 have h1:=Dk ha hb Oz;have h2:=Dk hc hd Oz;have h3:=SP (nk ha hb) (nk hc hd) Oz;unfold aW;generalize kL a b=u at *
 generalize kL c d=v at *
 obtain⟨a1,a2⟩:=a;obtain⟨b1,b2⟩:=b;obtain⟨c1,c2⟩:=c;obtain⟨d1,d2⟩:=d;obtain⟨u1,u2⟩:=u;obtain⟨v1,v2⟩:=v;refine aw Qf func159 alo fun C hP=>?_;refine aq hP h1 ?_;refine aq hP h2 ?_;refine aq hP h3 ?_;refine Sz0 ?_;refine bX ?_;refine Sz0 ?_;exact Qc rfl rfl
theorem Hm{a b c d:Pt}{k:Nat}(ha:aF k a)(hb:aF k b)(hc:aF k c)(hd:aF k d)(hk:k<=2^20):AC 164 [PV.aH a,PV.aH b,PV.aH c,PV.aH d] (· =PV.rat (dy a b c d)):=by
 have h1:=CA ha hb Oz;have h2:=CA hc hd Oz;have h3:=afU (nk ha hb) (nk hc hd) Oz;unfold dy;generalize kL a b=u at *
 generalize kL c d=v at *
 obtain⟨a1,a2⟩:=a;obtain⟨b1,b2⟩:=b;obtain⟨c1,c2⟩:=c;obtain⟨d1,d2⟩:=d;obtain⟨u1,u2⟩:=u;obtain⟨v1,v2⟩:=v;refine aw Qf func164 alv fun C hP=>?_;refine aq hP h1 ?_;refine aq hP h2 ?_;refine aq hP h3 ?_;refine Sz0 ?_;refine bX ?_;refine Sz0 ?_;exact Qc rfl rfl
theorem Ms{a b c d:Pt}{k:Nat}(ha:aF k a)(hb:aF k b)(hc:aF k c)(hd:aF k d)(hk:k<=2^20):AC 165 [PV.aH a,PV.aH b,PV.aH c,PV.aH d] (· =PV.rat (aW a b c d)):=by
 have h1:=CA ha hb Oz;have h2:=CA hc hd Oz;have h3:=RG (nk ha hb) (nk hc hd) Oz;unfold aW;generalize kL a b=u at *
 generalize kL c d=v at *
 obtain⟨a1,a2⟩:=a;obtain⟨b1,b2⟩:=b;obtain⟨c1,c2⟩:=c;obtain⟨d1,d2⟩:=d;obtain⟨u1,u2⟩:=u;obtain⟨v1,v2⟩:=v;refine aw Qf func165 alw fun C hP=>?_;refine aq hP h1 ?_;refine aq hP h2 ?_;refine aq hP h3 ?_;refine Sz0 ?_;refine bX ?_;refine Sz0 ?_;exact Qc rfl rfl
theorem afV{u:Pt}{k:Nat}(hu:aF k u)(hk:k<=2^28):AC 189 [PV.aH u] (· =PV.rat (yL u u)):=by have h1:=SP hu hu hk;obtain⟨u1,u2⟩:=u;refine aw Qf func189 alu fun C hP=>?_;refine aq hP h1 ?_;refine Sz0 ?_;refine bX ?_;refine Sz0 ?_;exact Qc rfl rfl
theorem H7{a b:Pt}{k:Nat}(ha:aF k a)(hb:aF k b)(hk:k<=2^20):AC 161 [PV.aH a,PV.aH b] (· =PV.rat (aW a b a b)):=by
 have h1:=Dk ha hb Oz;have h2:=afV (nk ha hb) Oz;unfold aW;generalize kL a b=u at *
 obtain⟨a1,a2⟩:=a;obtain⟨b1,b2⟩:=b;obtain⟨u1,u2⟩:=u;refine aw Qf func161 alp fun C hP=>?_;refine aq hP h1 ?_;refine aq hP h2 ?_;refine Sz0 ?_;refine bX ?_;refine Sz0 ?_;exact Qc rfl rfl
theorem HN{a b:Pt}{k:Nat}(ha:aF k a)(hb:aF k b)(hk:k<=2^20):AC 167 [PV.aH a,PV.aH b] (· =PV.rat (aW a b a b)):=by
 have h1:=CA ha hb Oz;have h2:=RG (nk ha hb) (nk ha hb) Oz;unfold aW;generalize kL a b=u at *
 obtain⟨a1,a2⟩:=a;obtain⟨b1,b2⟩:=b;obtain⟨u1,u2⟩:=u;refine aw Qf func167 alx fun C hP=>?_;refine aq hP h1 ?_;refine aq hP h1 ?_;refine aq hP h2 ?_;refine Sz0 ?_;refine bX ?_;refine Sz0 ?_;exact Qc rfl rfl
theorem Dw:rs ((2:Int):Rat)<=4:=amH 2 Oz Oz
theorem QA{a:Rat}{k:Nat}(ha:rs a<=k)(hk:k<=2^28):AC 162 [PV.rat a] (· =PV.rat (((2:Int):Rat)*a)):=by
 have h1:=Lw (x:=2) Oz Oz;have h2:=qD (a:=((2:Int):Rat)) (b:=a) (k:=k+4) (by have:=Dw;omega) Oz Oz;generalize((2:Int):Rat)=c at *
 refine aw Qf func162 alC fun C hP=>?_;refine aq hP h1 ?_;refine aq hP h2 ?_;refine Sz0 ?_;refine bX ?_;refine Sz0 ?_;exact Qc rfl rfl
def o0(m a b:Rat):Rat:=a+b-((2:Int):Rat)*m
theorem Vt{m a b:Rat}{k:Nat}(hm:rs m<=k)(ha:rs a<=k)(hb:rs b<=k)(hk:k<=2^20):AC 168 [PV.rat m,PV.rat a,PV.rat b] (· =PV.rat (o0 m a b)):=by
 have m1:=pw a b;have m2:=fw ((2:Int):Rat) m;have m3:=Dw;have h1:=C1 (a:=a) (b:=b) (k:=k) ha hb Oz;have h2:=Ab (x:=2) Oz Oz;have h3:=pj (a:=((2:Int):Rat)) (b:=m) (k:=k+4) Oz Oz Oz;have h4:=uE (a:=a+b) (b:=((2:Int):Rat)*m) (k:=2*k+10) Oz Oz Oz;unfold o0;generalize((2:Int):Rat)*m=y at *
 generalize((2:Int):Rat)=c at *
 refine aw Qf func168 alE fun C hP=>?_;refine aq hP h1 ?_;refine aq hP h2 ?_;refine aq hP h3 ?_;refine aq hP h4 ?_;refine Sz0 ?_;refine bX ?_;refine Sz0 ?_;exact Qc rfl rfl
def kZ(a b c d e f g h:Pt):Rat:=dy a b c d*aW e f g h-dy e f g h*aW a b c d
theorem SV{a b c d e f g h:Pt}{k:Nat}(ha:aF k a)(hb:aF k b)(hc:aF k c)(hd:aF k d)(he:aF k e)(hf:aF k f)(hg:aF k g)(hh:aF k h):rs (kZ a b c d e f g h)<=32*k+30:=by have h1:=wG ha hb hc hd;have h2:=kI he hf hg hh;have h3:=wG he hf hg hh;have h4:=kI ha hb hc hd;have m1:=fw (dy a b c d) (aW e f g h);have m2:=fw (dy e f g h) (aW a b c d);have m3:=uU (dy a b c d*aW e f g h) (dy e f g h*aW a b c d);unfold kZ;omega
theorem RH{a b c d e f g h:Pt}{k:Nat}(ha:aF k a)(hb:aF k b)(hc:aF k c)(hd:aF k d)(he:aF k e)(hf:aF k f)(hg:aF k g)(hh:aF k h)(hk:k<=2^16):
  AC 163 [.sl 6 [PV.aH a,PV.aH b,PV.aH c,PV.aH d,PV.aH e,PV.aH f,PV.aH g,PV.aH h]] (· =PV.rat (kZ a b c d e f g h)):=by
 have b1:=wG ha hb hc hd;have b2:=kI he hf hg hh;have b3:=wG he hf hg hh;have b4:=kI ha hb hc hd;have m1:=fw (dy a b c d) (aW e f g h);have m2:=fw (dy e f g h) (aW a b c d);have h1:=HM ha hb hc hd Oz;have h2:=Kp he hf hg hh Oz;have h3:=qD (a:=dy a b c d) (b:=aW e f g h) (k:=8*k+5) b1 b2 Oz;have h4:=HM he hf hg hh Oz;have h5:=Kp ha hb hc hd Oz;have h6:=qD (a:=dy e f g h) (b:=aW a b c d) (k:=8*k+5) b3 b4 Oz;have h7:=tk (a:=dy a b c d*aW e f g h) (b:=dy e f g h*aW a b c d) (k:=16*k+10) Oz Oz Oz;unfold kZ;generalize dy a b c d*aW e f g h=u at *
 generalize dy e f g h*aW a b c d=v at *
 generalize dy a b c d=c1 at *
 generalize aW e f g h=d1 at *
 generalize dy e f g h=c2 at *
 generalize aW a b c d=d2 at *
 obtain⟨a1,a2⟩:=a;obtain⟨WN,b2'⟩:=b;obtain⟨rY,c2'⟩:=c;obtain⟨d1',vm⟩:=d;obtain⟨e1,e2⟩:=e;obtain⟨f1,f2⟩:=f;obtain⟨g1,g2⟩:=g;obtain⟨gJ,gK⟩:=h;refine aw Qf func163 alD fun C hP=>?_;refine Sz0 ?_;refine HL okB [(3,3),(5,31)] [3] (fun J hp=>J 3= .mp 3 0 0/\hp 2=some ⟨3,57,[.agg [.bool false,.ab,.ab]],false⟩/\hp 3=some ⟨3,57,[PV.rat u],false⟩) ?_ ?_
 ·repeat' first
   |refine eW ?_ ?_
   |refine Qo hP h1 ?_
   |refine Qo hP h2 ?_
   |refine Qo hP h3 ?_
   |simp+decide (disch:=try exact D0) only[go_sem]
  all_goals
   refine uI ?_;refine Sz0 ?_
   try (first|trivial|exact⟨rfl,rfl⟩)
 rintro J h ⟨j3,i2,i3⟩;refine Sz1 j3 ?_;refine HL okB [(4,4),(32,58)] [4] (fun J2 hp=>J2 4= .mp 4 0 0/\hp 2=some ⟨3,57,[.agg [.bool false,.ab,.ab]],false⟩/\hp 3=some ⟨3,57,[PV.rat u],false⟩/\hp 4=some ⟨3,57,[PV.rat v],false⟩) ?_ ?_
 ·repeat' first
   |refine eW ?_ ?_
   |refine Qo hP h4 ?_
   |refine Qo hP h5 ?_
   |refine Qo hP h6 ?_
   |simp+decide (disch:=try exact D3 j3 i2 i3) only[go_sem,j3,i2,i3]
  all_goals
   refine uI ?_;refine Sz2 i2 i3 ?_
   try (first|trivial|exact⟨rfl,rfl⟩|exact⟨rfl,rfl,rfl⟩)
 rintro J2 h' ⟨j4,k2,k3,k4⟩;refine lX j3 j4 k2 k3 k4 hP h7 ?_;refine Sz5 j3 j4 k2 k3 k4 ?_;refine bX ?_;refine Sz0 ?_;exact Qc rfl rfl
theorem UB{a b c d e f g h:Pt}{k:Nat}(ha:aF k a)(hb:aF k b)(hc:aF k c)(hd:aF k d)(he:aF k e)(hf:aF k f)(hg:aF k g)(hh:aF k h)(hk:k<=2^16):
  AC 169 [.sl 6 [PV.aH a,PV.aH b,PV.aH c,PV.aH d,PV.aH e,PV.aH f,PV.aH g,PV.aH h]] (· =PV.rat (kZ a b c d e f g h)):=by
 have b1:=wG ha hb hc hd;have b2:=kI he hf hg hh;have b3:=wG he hf hg hh;have b4:=kI ha hb hc hd;have m1:=fw (dy a b c d) (aW e f g h);have m2:=fw (dy e f g h) (aW a b c d);have h1:=Hm ha hb hc hd Oz;have h2:=Ms he hf hg hh Oz;have h3:=pj (a:=dy a b c d) (b:=aW e f g h) (k:=8*k+5) b1 b2 Oz;have h4:=Hm he hf hg hh Oz;have h5:=Ms ha hb hc hd Oz;have h6:=pj (a:=dy e f g h) (b:=aW a b c d) (k:=8*k+5) b3 b4 Oz;have h7:=uE (a:=dy a b c d*aW e f g h) (b:=dy e f g h*aW a b c d) (k:=16*k+10) Oz Oz Oz;unfold kZ;generalize dy a b c d*aW e f g h=u at *
 generalize dy e f g h*aW a b c d=v at *
 generalize dy a b c d=c1 at *
 generalize aW e f g h=d1 at *
 generalize dy e f g h=c2 at *
 generalize aW a b c d=d2 at *
 obtain⟨a1,a2⟩:=a;obtain⟨WN,b2'⟩:=b;obtain⟨rY,c2'⟩:=c;obtain⟨d1',vm⟩:=d;obtain⟨e1,e2⟩:=e;obtain⟨f1,f2⟩:=f;obtain⟨g1,g2⟩:=g;obtain⟨gJ,gK⟩:=h;refine aw Qf func169 alF fun C hP=>?_;refine Sz0 ?_;refine HL okB [(3,3),(5,31)] [3] (fun J hp=>J 3= .mp 3 0 0/\hp 2=some ⟨3,57,[.agg [.bool false,.ab,.ab]],false⟩/\hp 3=some ⟨3,57,[PV.rat u],false⟩) ?_ ?_
 ·repeat' first
   |refine eW ?_ ?_
   |refine Qo hP h1 ?_
   |refine Qo hP h2 ?_
   |refine Qo hP h3 ?_
   |simp+decide (disch:=try exact D0) only[go_sem]
  all_goals
   refine uI ?_;refine Sz0 ?_
   try (first|trivial|exact⟨rfl,rfl⟩)
 rintro J h ⟨j3,i2,i3⟩;refine Sz1 j3 ?_;refine HL okB [(4,4),(32,58)] [4] (fun J2 hp=>J2 4= .mp 4 0 0/\hp 2=some ⟨3,57,[.agg [.bool false,.ab,.ab]],false⟩/\hp 3=some ⟨3,57,[PV.rat u],false⟩/\hp 4=some ⟨3,57,[PV.rat v],false⟩) ?_ ?_
 ·repeat' first
   |refine eW ?_ ?_
   |refine Qo hP h4 ?_
   |refine Qo hP h5 ?_
   |refine Qo hP h6 ?_
   |simp+decide (disch:=try exact D3 j3 i2 i3) only[go_sem,j3,i2,i3]
  all_goals
   refine uI ?_;refine Sz2 i2 i3 ?_
   try (first|trivial|exact⟨rfl,rfl⟩|exact⟨rfl,rfl,rfl⟩)
 rintro J2 h' ⟨j4,k2,k3,k4⟩;refine lX j3 j4 k2 k3 k4 hP h7 ?_;refine Sz5 j3 j4 k2 k3 k4 ?_;refine bX ?_;refine Sz0 ?_;exact Qc rfl rfl
theorem uO{l:List Rat}:AC 157 [PV.cX l] (· =PV.cX l):=by refine aw Qf func157 alB fun C hP=>?_;refine Sz0 ?_;exact Qc rfl rfl
theorem alX{args:List Int}{n:Bool}{u v:List Nat}{a b c:Pt}{k:Nat}(ha:aF k a)(hb:aF k b)(hc:aF k c)(hk:k<=2^10):AC 125 [.agg [.int .i64 1,PV.mono args,.bool n,PV.nat u,PV.nat v],.sl 6 [PV.aH a,PV.aH b,PV.aH c]] (· =PV.cX [dy a b a c]):=by
 have h1:=HM ha hb ha hc (by omega:k<=2^20);have hL:=uO (l:=[dy a b a c]);generalize dy a b a c=y0 at *
 obtain⟨a1,a2⟩:=a;obtain⟨b1,b2⟩:=b;obtain⟨c1,c2⟩:=c
 try simp only at *
 refine aw Qf func125 uL fun C hP=>?_;refine aq hP h1 ?_;refine aY ?_;refine ik hP hL rU rfl ?_;refine aY ?_;exact Qc rfl rfl
theorem alY{args:List Int}{n:Bool}{u v:List Nat}{a b c d:Pt}{k:Nat}(ha:aF k a)(hb:aF k b)(hc:aF k c)(hd:aF k d)(hk:k<=2^10):AC 125 [.agg [.int .i64 2,PV.mono args,.bool n,PV.nat u,PV.nat v],.sl 6 [PV.aH a,PV.aH b,PV.aH c,PV.aH d]] (· =PV.cX [dy a b c d]):=by
 have h1:=HM ha hb hc hd (by omega:k<=2^20);have hL:=uO (l:=[dy a b c d]);generalize dy a b c d=y0 at *
 obtain⟨a1,a2⟩:=a;obtain⟨b1,b2⟩:=b;obtain⟨c1,c2⟩:=c;obtain⟨d1,d2⟩:=d
 try simp only at *
 refine aw Qf func125 uL fun C hP=>?_;refine aq hP h1 ?_;refine aY ?_;refine ik hP hL rU rfl ?_;refine aY ?_;exact Qc rfl rfl
theorem alZ{args:List Int}{n:Bool}{u v:List Nat}{a b c d:Pt}{k:Nat}(ha:aF k a)(hb:aF k b)(hc:aF k c)(hd:aF k d)(hk:k<=2^10):AC 125 [.agg [.int .i64 3,PV.mono args,.bool n,PV.nat u,PV.nat v],.sl 6 [PV.aH a,PV.aH b,PV.aH c,PV.aH d]] (· =PV.cX [aW a b c d]):=by
 have h1:=Kp ha hb hc hd (by omega:k<=2^20);have hL:=uO (l:=[aW a b c d]);generalize aW a b c d=y0 at *
 obtain⟨a1,a2⟩:=a;obtain⟨b1,b2⟩:=b;obtain⟨c1,c2⟩:=c;obtain⟨d1,d2⟩:=d
 try simp only at *
 refine aw Qf func125 uL fun C hP=>?_;refine aq hP h1 ?_;refine aY ?_;refine ik hP hL rU rfl ?_;refine aY ?_;exact Qc rfl rfl
theorem al0{args:List Int}{n:Bool}{u v:List Nat}{a b c d:Pt}{k:Nat}(ha:aF k a)(hb:aF k b)(hc:aF k c)(hd:aF k d)(hk:k<=2^10):AC 125 [.agg [.int .i64 4,PV.mono args,.bool n,PV.nat u,PV.nat v],.sl 6 [PV.aH a,PV.aH b,PV.aH c,PV.aH d]] (· =PV.cX [aW a b a b-aW c d c d]):=by
 have m1:=kI ha hb ha hb;have m2:=kI hc hd hc hd;have h1:=H7 ha hb (by omega:k<=2^20);have h2:=H7 hc hd (by omega:k<=2^20);have h3:=tk (a:=aW a b a b) (b:=aW c d c d) (k:=8*k+5) m1 m2 Oz;have hL:=uO (l:=[aW a b a b-aW c d c d]);generalize aW a b a b=y0 at *
 generalize aW c d c d=y1 at *
 obtain⟨a1,a2⟩:=a;obtain⟨b1,b2⟩:=b;obtain⟨c1,c2⟩:=c;obtain⟨d1,d2⟩:=d
 try simp only at *
 refine aw Qf func125 uL fun C hP=>?_;refine aq hP h1 ?_;refine aY ?_;refine Qo hP h2 ?_;refine aY ?_;refine Qo hP h3 ?_;refine aY ?_;refine ik hP hL rU rfl ?_;refine aY ?_;exact Qc rfl rfl
theorem al1{args:List Int}{n:Bool}{u v:List Nat}{a b c:Pt}{k:Nat}(ha:aF k a)(hb:aF k b)(hc:aF k c)(hk:k<=2^10):AC 125 [.agg [.int .i64 5,PV.mono args,.bool n,PV.nat u,PV.nat v],.sl 6 [PV.aH a,PV.aH b,PV.aH c]] (· =PV.cX [o0 a.1 b.1 c.1,o0 a.2 b.2 c.2]):=by
 have m1:=pw b.1 c.1;have n1:=fw ((2:Int):Rat) a.1;have h1:=Gl (a:=b.1) (b:=c.1) (k:=k) hb.1 hc.1 Oz;have h2:=QA (a:=a.1) (k:=k) ha.1 Oz;have h3:=tk (a:=b.1+c.1) (b:=((2:Int):Rat)*a.1) (k:=2*k+10) (by have:=hb.1;have:=hc.1;omega) (by have:=ha.1;have:=Dw;omega) Oz;have m2:=pw b.2 c.2;have n2:=fw ((2:Int):Rat) a.2;have h4:=Gl (a:=b.2) (b:=c.2) (k:=k) hb.2 hc.2 Oz;have h5:=QA (a:=a.2) (k:=k) ha.2 Oz;have h6:=tk (a:=b.2+c.2) (b:=((2:Int):Rat)*a.2) (k:=2*k+10) (by have:=hb.2;have:=hc.2;omega) (by have:=ha.2;have:=Dw;omega) Oz;have hL:=uO (l:=[o0 a.1 b.1 c.1,o0 a.2 b.2 c.2]);obtain⟨a1,a2⟩:=a;obtain⟨b1,b2⟩:=b;obtain⟨c1,c2⟩:=c;unfold o0 at *
 try simp only at *
 generalize((2:Int):Rat)=tw at *
 refine aw Qf func125 uL fun C hP=>?_;refine aq hP h1 ?_;refine aY ?_;refine Qo hP h2 ?_;refine aY ?_;refine Qo hP h3 ?_;refine aY ?_;refine Qo hP h4 ?_;refine aY ?_;refine Qo hP h5 ?_;refine aY ?_;refine Qo hP h6 ?_;refine aY ?_;refine ik hP hL rU rfl ?_;refine aY ?_;exact Qc rfl rfl
theorem al2{args:List Int}{n:Bool}{u v:List Nat}{a b c d:Pt}{k:Nat}(ha:aF k a)(hb:aF k b)(hc:aF k c)(hd:aF k d)(hk:k<=2^10):AC 125 [.agg [.int .i64 6,PV.mono args,.bool n,PV.nat u,PV.nat v],.sl 6 [PV.aH a,PV.aH b,PV.aH c,PV.aH d]] (· =PV.cX [kZ b a b c d a d c]):=by
 have h1:=RH hb ha hb hc hd ha hd hc (by omega:k<=2^16);have hL:=uO (l:=[kZ b a b c d a d c]);generalize kZ b a b c d a d c=y0 at *
 obtain⟨a1,a2⟩:=a;obtain⟨b1,b2⟩:=b;obtain⟨c1,c2⟩:=c;obtain⟨d1,d2⟩:=d
 try simp only at *
 refine aw Qf func125 uL fun C hP=>?_;refine Sz0 ?_;rw[wz (by rfl) (by simp only[List.forall_mem_cons,List.forall_mem_nil,Kbh,false_imp_iff,implies_true,and_true];exact⟨rfl,rfl,rfl,rfl,rfl,rfl,rfl,rfl⟩) (by decide)];refine Sz0 ?_;refine ik hP h1 rU rfl ?_;refine aY ?_;refine ik hP hL rU rfl ?_;refine aY ?_;exact Qc rfl rfl
theorem al3{args:List Int}{n:Bool}{u v:List Nat}{a b c d e f g h:Pt}{k:Nat}(ha:aF k a)(hb:aF k b)(hc:aF k c)(hd:aF k d)(he:aF k e)(hf:aF k f)(hg:aF k g)(hh:aF k h)(hk:k<=2^10):AC 125 [.agg [.int .i64 7,PV.mono args,.bool n,PV.nat u,PV.nat v],.sl 6 [PV.aH a,PV.aH b,PV.aH c,PV.aH d,PV.aH e,PV.aH f,PV.aH g,PV.aH h]] (· =PV.cX [kZ a b c d e f g h]):=by
 have h1:=RH ha hb hc hd he hf hg hh (by omega:k<=2^16);have hL:=uO (l:=[kZ a b c d e f g h]);generalize kZ a b c d e f g h=y0 at *
 obtain⟨a1,a2⟩:=a;obtain⟨b1,b2⟩:=b;obtain⟨c1,c2⟩:=c;obtain⟨d1,d2⟩:=d;obtain⟨e1,e2⟩:=e;obtain⟨f1,f2⟩:=f;obtain⟨g1,g2⟩:=g;obtain⟨h1,h2⟩:=h
 try simp only at *
 refine aw Qf func125 uL fun C hP=>?_;refine aq hP h1 ?_;refine aY ?_;refine ik hP hL rU rfl ?_;refine aY ?_;exact Qc rfl rfl
theorem al4{args:List Int}{n:Bool}{u v:List Nat}{a b:Pt}{k:Nat}(ha:aF k a)(hb:aF k b)(hk:k<=2^10):AC 125 [.agg [.int .i64 8,PV.mono args,.bool n,PV.nat u,PV.nat v],.sl 6 [PV.aH a,PV.aH b]] (· =PV.cX [a.1-b.1,a.2-b.2]):=by
 have h1:=tk (a:=a.1) (b:=b.1) (k:=k) ha.1 hb.1 Oz;have h2:=tk (a:=a.2) (b:=b.2) (k:=k) ha.2 hb.2 Oz;have hL:=uO (l:=[a.1-b.1,a.2-b.2]);obtain⟨a1,a2⟩:=a;obtain⟨b1,b2⟩:=b
 try simp only at *
 refine aw Qf func125 uL fun C hP=>?_;refine aq hP h1 ?_;refine aY ?_;refine Qo hP h2 ?_;refine aY ?_;refine ik hP hL rU rfl ?_;refine aY ?_;exact Qc rfl rfl
theorem al5{args:List Int}{r:Rat}{a b c d:Pt}{k:Nat}(ha:aF k a)(hb:aF k b)(hc:aF k c)(hd:aF k d)(hr:rs r<=k)(hk:k<=2^10):AC 125 [.agg [.int .i64 9,PV.mono args,.bool (decide (r.num<0)),PV.num r.num.natAbs,PV.num r.den],.sl 6 [PV.aH a,PV.aH b,PV.aH c,PV.aH d]] (· =PV.cX [aW a b a b-r*aW c d c d]):=by
 have m1:=kI ha hb ha hb;have m2:=kI hc hd hc hd;have m3:=fw r (aW c d c d);have h1:=H7 ha hb (by omega:k<=2^20);have h2:=H7 hc hd (by omega:k<=2^20);have h3:=qD (a:=r) (b:=aW c d c d) (k:=8*k+5) Oz m2 Oz;have h4:=tk (a:=aW a b a b) (b:=r*aW c d c d) (k:=9*k+5) Oz Oz Oz;have hL:=uO (l:=[aW a b a b-r*aW c d c d]);generalize r*aW c d c d=y0 at *
 generalize aW a b a b=y1 at *
 generalize aW c d c d=y2 at *
 obtain⟨a1,a2⟩:=a;obtain⟨b1,b2⟩:=b;obtain⟨c1,c2⟩:=c;obtain⟨d1,d2⟩:=d
 try simp only at *
 refine aw Qf func125 uL fun C hP=>?_;refine aq hP h1 ?_;refine aY ?_;refine Qo hP h2 ?_;refine aY ?_;refine Qo hP h3 ?_;refine aY ?_;refine Qo hP h4 ?_;refine aY ?_;refine ik hP hL rU rfl ?_;refine aY ?_;exact Qc rfl rfl
theorem aip{args:List Int}{n:Bool}{u v:List Nat}{a b c:Pt}{k:Nat}(ha:aF k a)(hb:aF k b)(hc:aF k c)(hk:k<=2^10):AC 129 [.agg [.int .i64 1,PV.mono args,.bool n,PV.nat u,PV.nat v],.sl 6 [PV.aH a,PV.aH b,PV.aH c]] (· =PV.cX [dy a b a c]):=by
 have h1:=Hm ha hb ha hc (by omega:k<=2^20);generalize dy a b a c=y0 at *
 obtain⟨a1,a2⟩:=a;obtain⟨b1,b2⟩:=b;obtain⟨c1,c2⟩:=c
 try simp only at *
 refine aw Qf func129 uM fun C hP=>?_;refine aq hP h1 ?_;refine aY ?_;exact Qc rfl rfl
theorem aiq{args:List Int}{n:Bool}{u v:List Nat}{a b c d:Pt}{k:Nat}(ha:aF k a)(hb:aF k b)(hc:aF k c)(hd:aF k d)(hk:k<=2^10):AC 129 [.agg [.int .i64 2,PV.mono args,.bool n,PV.nat u,PV.nat v],.sl 6 [PV.aH a,PV.aH b,PV.aH c,PV.aH d]] (· =PV.cX [dy a b c d]):=by
 have h1:=Hm ha hb hc hd (by omega:k<=2^20);generalize dy a b c d=y0 at *
 obtain⟨a1,a2⟩:=a;obtain⟨b1,b2⟩:=b;obtain⟨c1,c2⟩:=c;obtain⟨d1,d2⟩:=d
 try simp only at *
 refine aw Qf func129 uM fun C hP=>?_;refine aq hP h1 ?_;refine aY ?_;exact Qc rfl rfl
theorem air{args:List Int}{n:Bool}{u v:List Nat}{a b c d:Pt}{k:Nat}(ha:aF k a)(hb:aF k b)(hc:aF k c)(hd:aF k d)(hk:k<=2^10):AC 129 [.agg [.int .i64 3,PV.mono args,.bool n,PV.nat u,PV.nat v],.sl 6 [PV.aH a,PV.aH b,PV.aH c,PV.aH d]] (· =PV.cX [aW a b c d]):=by
 have h1:=Ms ha hb hc hd (by omega:k<=2^20);generalize aW a b c d=y0 at *
 obtain⟨a1,a2⟩:=a;obtain⟨b1,b2⟩:=b;obtain⟨c1,c2⟩:=c;obtain⟨d1,d2⟩:=d
 try simp only at *
 refine aw Qf func129 uM fun C hP=>?_;refine aq hP h1 ?_;refine aY ?_;exact Qc rfl rfl
theorem ais{args:List Int}{n:Bool}{u v:List Nat}{a b c d:Pt}{k:Nat}(ha:aF k a)(hb:aF k b)(hc:aF k c)(hd:aF k d)(hk:k<=2^10):AC 129 [.agg [.int .i64 4,PV.mono args,.bool n,PV.nat u,PV.nat v],.sl 6 [PV.aH a,PV.aH b,PV.aH c,PV.aH d]] (· =PV.cX [aW a b a b-aW c d c d]):=by
 have m1:=kI ha hb ha hb;have m2:=kI hc hd hc hd;have h1:=HN ha hb (by omega:k<=2^20);have h2:=HN hc hd (by omega:k<=2^20);have h3:=uE (a:=aW a b a b) (b:=aW c d c d) (k:=8*k+5) m1 m2 Oz;generalize aW a b a b=y0 at *
 generalize aW c d c d=y1 at *
 obtain⟨a1,a2⟩:=a;obtain⟨b1,b2⟩:=b;obtain⟨c1,c2⟩:=c;obtain⟨d1,d2⟩:=d
 try simp only at *
 refine aw Qf func129 uM fun C hP=>?_;refine aq hP h1 ?_;refine aY ?_;refine Qo hP h2 ?_;refine aY ?_;refine Qo hP h3 ?_;refine aY ?_;exact Qc rfl rfl
theorem ait{args:List Int}{n:Bool}{u v:List Nat}{a b c:Pt}{k:Nat}(ha:aF k a)(hb:aF k b)(hc:aF k c)(hk:k<=2^10):AC 129 [.agg [.int .i64 5,PV.mono args,.bool n,PV.nat u,PV.nat v],.sl 6 [PV.aH a,PV.aH b,PV.aH c]] (· =PV.cX [o0 a.1 b.1 c.1,o0 a.2 b.2 c.2]):=by
 have h1:=Vt (m:=a.1) (a:=b.1) (b:=c.1) (k:=k) ha.1 hb.1 hc.1 Oz;have h2:=Vt (m:=a.2) (a:=b.2) (b:=c.2) (k:=k) ha.2 hb.2 hc.2 Oz;obtain⟨a1,a2⟩:=a;obtain⟨b1,b2⟩:=b;obtain⟨c1,c2⟩:=c;unfold o0 at *
 try simp only at *
 generalize((2:Int):Rat)=tw at *
 refine aw Qf func129 uM fun C hP=>?_;refine aq hP h1 ?_;refine aY ?_;refine Qo hP h2 ?_;refine aY ?_;exact Qc rfl rfl
theorem aiu{args:List Int}{n:Bool}{u v:List Nat}{a b c d:Pt}{k:Nat}(ha:aF k a)(hb:aF k b)(hc:aF k c)(hd:aF k d)(hk:k<=2^10):AC 129 [.agg [.int .i64 6,PV.mono args,.bool n,PV.nat u,PV.nat v],.sl 6 [PV.aH a,PV.aH b,PV.aH c,PV.aH d]] (· =PV.cX [kZ b a b c d a d c]):=by
 have h1:=UB hb ha hb hc hd ha hd hc (by omega:k<=2^16);generalize kZ b a b c d a d c=y0 at *
 obtain⟨a1,a2⟩:=a;obtain⟨b1,b2⟩:=b;obtain⟨c1,c2⟩:=c;obtain⟨d1,d2⟩:=d
 try simp only at *
 refine aw Qf func129 uM fun C hP=>?_;refine Sz0 ?_;rw[wz (by rfl) (by simp only[List.forall_mem_cons,List.forall_mem_nil,Kbh,false_imp_iff,implies_true,and_true];exact⟨rfl,rfl,rfl,rfl,rfl,rfl,rfl,rfl⟩) (by decide)];refine Sz0 ?_;refine ik hP h1 rU rfl ?_;refine aY ?_;exact Qc rfl rfl
theorem aiv{args:List Int}{n:Bool}{u v:List Nat}{a b c d e f g h:Pt}{k:Nat}(ha:aF k a)(hb:aF k b)(hc:aF k c)(hd:aF k d)(he:aF k e)(hf:aF k f)(hg:aF k g)(hh:aF k h)(hk:k<=2^10):AC 129 [.agg [.int .i64 7,PV.mono args,.bool n,PV.nat u,PV.nat v],.sl 6 [PV.aH a,PV.aH b,PV.aH c,PV.aH d,PV.aH e,PV.aH f,PV.aH g,PV.aH h]] (· =PV.cX [kZ a b c d e f g h]):=by
 have h1:=UB ha hb hc hd he hf hg hh (by omega:k<=2^16);generalize kZ a b c d e f g h=y0 at *
 obtain⟨a1,a2⟩:=a;obtain⟨b1,b2⟩:=b;obtain⟨c1,c2⟩:=c;obtain⟨d1,d2⟩:=d;obtain⟨e1,e2⟩:=e;obtain⟨f1,f2⟩:=f;obtain⟨g1,g2⟩:=g;obtain⟨h1,h2⟩:=h
 try simp only at *
 refine aw Qf func129 uM fun C hP=>?_;refine aq hP h1 ?_;refine aY ?_;exact Qc rfl rfl
theorem aiw{args:List Int}{n:Bool}{u v:List Nat}{a b:Pt}{k:Nat}(ha:aF k a)(hb:aF k b)(hk:k<=2^10):AC 129 [.agg [.int .i64 8,PV.mono args,.bool n,PV.nat u,PV.nat v],.sl 6 [PV.aH a,PV.aH b]] (· =PV.cX [a.1-b.1,a.2-b.2]):=by
 have h1:=uE (a:=a.1) (b:=b.1) (k:=k) ha.1 hb.1 Oz;have h2:=uE (a:=a.2) (b:=b.2) (k:=k) ha.2 hb.2 Oz;obtain⟨a1,a2⟩:=a;obtain⟨b1,b2⟩:=b
 try simp only at *
 refine aw Qf func129 uM fun C hP=>?_;refine aq hP h1 ?_;refine aY ?_;refine Qo hP h2 ?_;refine aY ?_;exact Qc rfl rfl
theorem aix{args:List Int}{r:Rat}{a b c d:Pt}{k:Nat}(ha:aF k a)(hb:aF k b)(hc:aF k c)(hd:aF k d)(hr:rs r<=k)(hk:k<=2^10):AC 129 [.agg [.int .i64 9,PV.mono args,.bool (decide (r.num<0)),PV.num r.num.natAbs,PV.num r.den],.sl 6 [PV.aH a,PV.aH b,PV.aH c,PV.aH d]] (· =PV.cX [aW a b a b-r*aW c d c d]):=by
 have m1:=kI ha hb ha hb;have m2:=kI hc hd hc hd;have m3:=fw r (aW c d c d);have h1:=HN ha hb (by omega:k<=2^20);have h2:=HN hc hd (by omega:k<=2^20);have h3:=pj (a:=r) (b:=aW c d c d) (k:=8*k+5) Oz m2 Oz;have h4:=uE (a:=aW a b a b) (b:=r*aW c d c d) (k:=9*k+5) Oz Oz Oz;generalize r*aW c d c d=y0 at *
 generalize aW a b a b=y1 at *
 generalize aW c d c d=y2 at *
 obtain⟨a1,a2⟩:=a;obtain⟨b1,b2⟩:=b;obtain⟨c1,c2⟩:=c;obtain⟨d1,d2⟩:=d
 try simp only at *
 refine aw Qf func129 uM fun C hP=>?_;refine aq hP h1 ?_;refine aY ?_;refine Qo hP h2 ?_;refine aY ?_;refine Qo hP h3 ?_;refine aY ?_;refine Qo hP h4 ?_;refine aY ?_;exact Qc rfl rfl
def aN(p:List Pt)(i:Nat):Pt:=p.getD i (0,0)
def rQ(f:Qq)(p:List Pt):List Rat:=
 if f.k=1 then [dy (aN p 0) (aN p 1) (aN p 0) (aN p 2)]else if f.k=2 then [dy (aN p 0) (aN p 1) (aN p 2) (aN p 3)]else
 if f.k=3 then [aW (aN p 0) (aN p 1) (aN p 2) (aN p 3)]else if f.k=4 then [aW (aN p 0) (aN p 1) (aN p 0) (aN p 1)-aW (aN p 2) (aN p 3) (aN p 2) (aN p 3)]else
 if f.k=5 then [o0 (aN p 0).1 (aN p 1).1 (aN p 2).1,o0 (aN p 0).2 (aN p 1).2 (aN p 2).2]else
 if f.k=6 then [kZ (aN p 1) (aN p 0) (aN p 1) (aN p 2) (aN p 3) (aN p 0) (aN p 3) (aN p 2)]else
 if f.k=7 then [kZ (aN p 0) (aN p 1) (aN p 2) (aN p 3) (aN p 4) (aN p 5) (aN p 6) (aN p 7)]else
 if f.k=8 then [(aN p 0).1-(aN p 1).1,(aN p 0).2-(aN p 1).2]else
 [aW (aN p 0) (aN p 1) (aN p 0) (aN p 1)-rv f.n f.a f.d*aW (aN p 2) (aN p 3) (aN p 2) (aN p 3)]
theorem QB{f:Qq}{p:List Pt}:(rQ f p).length<=2:=by
 unfold rQ;repeat' split
 all_goals simp
theorem aaN{p:List Pt}(h:p.length=2):∃a b,p=[a,b]:=by
 match p,h with
 | [a,b],_=>exact⟨a,b,rfl⟩
theorem Gz{p:List Pt}(h:p.length=3):∃a b c,p=[a,b,c]:=by
 match p,h with
 | [a,b,c],_=>exact⟨a,b,c,rfl⟩
theorem tx{p:List Pt}(h:p.length=4):∃a b c d,p=[a,b,c,d]:=by
 match p,h with
 | [a,b,c,d],_=>exact⟨a,b,c,d,rfl⟩
theorem len8{p:List Pt}(h:p.length=8):∃a b c d e f g i,p=[a,b,c,d,e,f,g,i]:=by
 match p,h with
 | [a,b,c,d,e,f,g,i],_=>exact⟨a,b,c,d,e,f,g,i,rfl⟩
structure tp(k:Nat)(f:Qq):Prop where
 b:jD f
 q:f.k=9->iX f.n f.a f.d=true->rs (rv f.n f.a f.d)<=k
def nB(P:List Pt)(l:List Int):List Pt:=l.map fun a=>P.getD a.toNat (0,0)
def nZ(f:Qq)(P:List Pt):List Rat:=if cL f P.length=0 then rQ f (nB P f.args)else []
def uV(f:Qq)(P:List Pt):Bool:=decide (cL f P.length=0)&&(nZ f P).all fun r=>decide (r=0)
theorem afD{f:Qq}{p:List Pt}{k:Nat}(hk:k<=2^10)(hp:∀x∈p,aF k x)(h0:¬cr f.k=0)(hl:(p.length:Int)=cr f.k)(hr:f.k=9->PV.rr f.n f.a f.d=PV.rat (rv f.n f.a f.d)/\rs (rv f.n f.a f.d)<=k):
  AC 125 [PV.bI f,.sl 6 (p.map PV.aH)] (· =PV.cX (rQ f p)):=by
 obtain⟨kd,args,n,u,v⟩:=f;simp only at h0 hl hr;have EX:kd=1∨kd=2∨kd=3∨kd=4∨kd=5∨kd=6∨kd=7∨kd=8∨kd=9:=by
  rcases Ag kd with h|⟨h1,h2,h3,h4,h5,h6,h7,h8,h9⟩
  ·exact h
  ·exact absurd (by simp[cr,h1,h2,h3,h4,h5,h6,h7,h8,h9]) h0
 rcases EX with rfl|rfl|rfl|rfl|rfl|rfl|rfl|rfl|rfl
 ·obtain⟨a,b,c,rfl⟩:=Gz (p:=p) (by have:cr 1=3:=(by decide);omega);have ha:=hp a (by simp);have hb:=hp b (by simp);have hc:=hp c (by simp);exact alX ha hb hc hk
 ·obtain⟨a,b,c,d,rfl⟩:=tx (p:=p) (by have:cr 2=4:=(by decide);omega);have ha:=hp a (by simp);have hb:=hp b (by simp);have hc:=hp c (by simp);have hd:=hp d (by simp);exact alY ha hb hc hd hk
 ·obtain⟨a,b,c,d,rfl⟩:=tx (p:=p) (by have:cr 3=4:=(by decide);omega);have ha:=hp a (by simp);have hb:=hp b (by simp);have hc:=hp c (by simp);have hd:=hp d (by simp);exact alZ ha hb hc hd hk
 ·obtain⟨a,b,c,d,rfl⟩:=tx (p:=p) (by have:cr 4=4:=(by decide);omega);have ha:=hp a (by simp);have hb:=hp b (by simp);have hc:=hp c (by simp);have hd:=hp d (by simp);exact al0 ha hb hc hd hk
 ·obtain⟨a,b,c,rfl⟩:=Gz (p:=p) (by have:cr 5=3:=(by decide);omega);have ha:=hp a (by simp);have hb:=hp b (by simp);have hc:=hp c (by simp);exact al1 ha hb hc hk
 ·obtain⟨a,b,c,d,rfl⟩:=tx (p:=p) (by have:cr 6=4:=(by decide);omega);have ha:=hp a (by simp);have hb:=hp b (by simp);have hc:=hp c (by simp);have hd:=hp d (by simp);exact al2 ha hb hc hd hk
 ·obtain⟨a,b,c,d,e,f,g,i,rfl⟩:=len8 (p:=p) (by have:cr 7=8:=(by decide);omega);have ha:=hp a (by simp);have hb:=hp b (by simp);have hc:=hp c (by simp);have hd:=hp d (by simp);have he:=hp e (by simp);have hf:=hp f (by simp);have hg:=hp g (by simp);have hi:=hp i (by simp);exact al3 ha hb hc hd he hf hg hi hk
 ·obtain⟨a,b,rfl⟩:=aaN (p:=p) (by have:cr 8=2:=(by decide);omega);have ha:=hp a (by simp);have hb:=hp b (by simp);exact al4 ha hb hk
 ·obtain⟨a,b,c,d,rfl⟩:=tx (p:=p) (by have:cr 9=4:=(by decide);omega);have ha:=hp a (by simp);have hb:=hp b (by simp);have hc:=hp c (by simp);have hd:=hp d (by simp);obtain⟨e,hr⟩:=hr rfl;have hx:=al5 (args:=args) ha hb hc hd hr hk;injection e with e
  injection e with e1 e
  injection e with e2 e
  injection e with e3 e
  rw[show PV.bI ⟨9,args,n,u,v⟩= .agg [.int .i64 9,PV.mono args,.bool n,PV.nat u,PV.nat v]from rfl,e1,e2,e3];exact hx
theorem Q81{f:Qq}{p:List Pt}{k:Nat}(hk:k<=2^10)(hp:∀x∈p,aF k x)(h0:¬cr f.k=0)(hl:(p.length:Int)=cr f.k)(hr:f.k=9->PV.rr f.n f.a f.d=PV.rat (rv f.n f.a f.d)/\rs (rv f.n f.a f.d)<=k):
  AC 129 [PV.bI f,.sl 6 (p.map PV.aH)] (· =PV.cX (rQ f p)):=by
 obtain⟨kd,args,n,u,v⟩:=f;simp only at h0 hl hr;have EX:kd=1∨kd=2∨kd=3∨kd=4∨kd=5∨kd=6∨kd=7∨kd=8∨kd=9:=by
  rcases Ag kd with h|⟨h1,h2,h3,h4,h5,h6,h7,h8,h9⟩
  ·exact h
  ·exact absurd (by simp[cr,h1,h2,h3,h4,h5,h6,h7,h8,h9]) h0
 rcases EX with rfl|rfl|rfl|rfl|rfl|rfl|rfl|rfl|rfl
 ·obtain⟨a,b,c,rfl⟩:=Gz (p:=p) (by have:cr 1=3:=(by decide);omega);have ha:=hp a (by simp);have hb:=hp b (by simp);have hc:=hp c (by simp);exact aip ha hb hc hk
 ·obtain⟨a,b,c,d,rfl⟩:=tx (p:=p) (by have:cr 2=4:=(by decide);omega);have ha:=hp a (by simp);have hb:=hp b (by simp);have hc:=hp c (by simp);have hd:=hp d (by simp);exact aiq ha hb hc hd hk
 ·obtain⟨a,b,c,d,rfl⟩:=tx (p:=p) (by have:cr 3=4:=(by decide);omega);have ha:=hp a (by simp);have hb:=hp b (by simp);have hc:=hp c (by simp);have hd:=hp d (by simp);exact air ha hb hc hd hk
 ·obtain⟨a,b,c,d,rfl⟩:=tx (p:=p) (by have:cr 4=4:=(by decide);omega);have ha:=hp a (by simp);have hb:=hp b (by simp);have hc:=hp c (by simp);have hd:=hp d (by simp);exact ais ha hb hc hd hk
 ·obtain⟨a,b,c,rfl⟩:=Gz (p:=p) (by have:cr 5=3:=(by decide);omega);have ha:=hp a (by simp);have hb:=hp b (by simp);have hc:=hp c (by simp);exact ait ha hb hc hk
 ·obtain⟨a,b,c,d,rfl⟩:=tx (p:=p) (by have:cr 6=4:=(by decide);omega);have ha:=hp a (by simp);have hb:=hp b (by simp);have hc:=hp c (by simp);have hd:=hp d (by simp);exact aiu ha hb hc hd hk
 ·obtain⟨a,b,c,d,e,f,g,i,rfl⟩:=len8 (p:=p) (by have:cr 7=8:=(by decide);omega);have ha:=hp a (by simp);have hb:=hp b (by simp);have hc:=hp c (by simp);have hd:=hp d (by simp);have he:=hp e (by simp);have hf:=hp f (by simp);have hg:=hp g (by simp);have hi:=hp i (by simp);exact aiv ha hb hc hd he hf hg hi hk
 ·obtain⟨a,b,rfl⟩:=aaN (p:=p) (by have:cr 8=2:=(by decide);omega);have ha:=hp a (by simp);have hb:=hp b (by simp);exact aiw ha hb hk
 ·obtain⟨a,b,c,d,rfl⟩:=tx (p:=p) (by have:cr 9=4:=(by decide);omega);have ha:=hp a (by simp);have hb:=hp b (by simp);have hc:=hp c (by simp);have hd:=hp d (by simp);obtain⟨e,hr⟩:=hr rfl;have hx:=aix (args:=args) ha hb hc hd hr hk;injection e with e
  injection e with e1 e
  injection e with e2 e
  injection e with e3 e
  rw[show PV.bI ⟨9,args,n,u,v⟩= .agg [.int .i64 9,PV.mono args,.bool n,PV.nat u,PV.nat v]from rfl,e1,e2,e3];exact hx
theorem afE{f:Qq}{P:List Pt}{k:Nat}(hk:k<=2^10)(hp:∀x∈P,aF k x)(hP:P.length<2^30)(hf:tp k f):
  AC 87 [PV.bI f,.sl 6 (P.map PV.aH)] (· = .aK [PV.cX (nZ f P),.int .i64 (cL f P.length)]):=by
 have hR:=aid (n:=(P.length:Nat)) hf.b;have hV:=afD (f:=f) (p:=nB P f.args) (k:=k) hk;have oT:nZ f P=if cL f P.length=0 then rQ f (nB P f.args)else []:=rfl
 have hL:=hf.b.l;by_cases h:cL f P.length=0
 ·obtain⟨h0,hl,hr,hq⟩:=ym h;rw[if_pos h]at oT;have M':=hV (fun x hx=>by
   obtain⟨a,ha,rfl⟩:=KaA.1 hx;have:=hr a ha;rw[Kac,Kad (show a.toNat<P.length by omega)];exact hp _ (Kag _)) h0 (by rw[nB,KaJ];exact hl) (fun h9=>by
   rw[if_pos h9]at hq;exact⟨Ix hf.b.r.la hf.b.r.ld hq,hf.q h9 hq⟩)
  clear hV;rw[oT,h];rw[h]at hR;generalize Na:rQ f (nB P f.args)=V at *
  obtain⟨kd,args,n0,a,d⟩:=f;simp only at *
  clear oT Na;generalize hA:nB P args=A at *
  have vr:A.length=args.length:=by rw[<-hA,nB,KaJ]
  refine aw Qf func87 Su fun C hP=>?_;refine aq hP hR ?_;refine Sz0 ?_;refine jt 7 900 6 115 Oz Tz0 ?_;refine Qm okB [(7,7),(9,9),(20,31)] [29,30,900] (fun q J hp=>∃j,q=args.length-j/\j<=args.length/\J 7= .ms 900 j/\J 20= .int .i64 (j:Nat)/\hp 2=some ⟨5,59,[PV.bI ⟨kd,args,n0,a,d⟩],false⟩/\hp 900=some ⟨6,115,(A.take j).map PV.aH,false⟩) args.length ?_ ?_
  ·refine⟨0,rfl,by omega,?_⟩;refine Sz0 ?_;rfl
  rintro _ J h ⟨j,rfl,hj,j7,gB,h2,bB⟩;refine Sz1 gB ?_;refine Qa (fun hg=>?_) (fun hg=>?_)
  ·have aT:j<args.length:=by omega
   have NI:j<A.length:=by omega
   obtain⟨m,hm⟩:∃m:Nat,args[j]=(m:Int):=⟨args[j].toNat,by have:=hr _ (Kag aT);omega⟩
   have xA:m<P.length:=by have:=hr _ (Kag aT);omega
   have Eg:A[j]=P[m]:=by subst hA;simp only[nB,KbJ,hm,Kbs];rw[Kac,Kad xA];rfl
   have cO:A.take (j+1)=A.take j++[P[m]]:=by rw[<-Eg];exact Kar NI
   have mT:j=(A.take j).length:=by rw[KaB];omega
   generalize hy:P[m]=y at *
   refine Sz5 j7 gB h2 hm hy ?_;rw[Qv (f:=PV.aH) (y:=y) (xs:=A.take j) (ty':=115) (fz:=false) (Tz1 bB) a9 Oz mT Oz Oz];refine Sz3 j7 gB h2 ?_;refine Qh (args.length-(j+1)) Oz ⟨j+1,rfl,by omega,?_⟩;exact Tz4 j7 gB h2 cO
  obtain rfl:j=args.length:=by omega
  rw[Kah Oz]at bB;have N7:List.take args.length (List.map PV.aH A)=List.map PV.aH A:=Kah (by rw[KaJ];omega);refine Sz3 j7 h2 bB ?_;refine ik hP M' (WJ j7 h2 bB @N7) rfl ?_;refine IB j7 h2 bB ?_;exact bO rfl rfl rfl (Qe _) (Qe _)
 ·rw[if_neg h]at oT;rw[oT];generalize cL f P.length=e at *
  have d:decide (¬e=0)=true:=decide_eq_true h;clear hV oT;obtain⟨kd,args,n0,a,d0⟩:=f;simp only at *
  refine aw Qf func87 Su fun C hP=>?_;refine aq hP hR ?_;refine Sz1 d ?_;exact bO rfl rfl rfl (p':=PV.cX []) trivial (Qe _)
theorem Q82{f:Qq}{P:List Pt}{k:Nat}(hk:k<=2^10)(hp:∀x∈P,aF k x)(hP:P.length<2^30)(hf:tp k f):
  AC 93 [PV.bI f,.sl 6 (P.map PV.aH)] (· = .aK [PV.cX (nZ f P),.int .i64 (cL f P.length)]):=by
 have hR:=Ly (n:=(P.length:Nat)) hf.b;have hV:=Q81 (f:=f) (p:=nB P f.args) (k:=k) hk;have oT:nZ f P=if cL f P.length=0 then rQ f (nB P f.args)else []:=rfl
 have hL:=hf.b.l;by_cases h:cL f P.length=0
 ·obtain⟨h0,hl,hr,hq⟩:=ym h;rw[if_pos h]at oT;have M':=hV (fun x hx=>by
   obtain⟨a,ha,rfl⟩:=KaA.1 hx;have:=hr a ha;rw[Kac,Kad (show a.toNat<P.length by omega)];exact hp _ (Kag _)) h0 (by rw[nB,KaJ];exact hl) (fun h9=>by
   rw[if_pos h9]at hq;exact⟨Ix hf.b.r.la hf.b.r.ld hq,hf.q h9 hq⟩)
  clear hV;rw[oT,h];rw[h]at hR;generalize Na:rQ f (nB P f.args)=V at *
  obtain⟨kd,args,n0,a,d⟩:=f;simp only at *
  clear oT Na;generalize hA:nB P args=A at *
  have vr:A.length=args.length:=by rw[<-hA,nB,KaJ]
  refine aw Qf func93 Sv fun C hP=>?_;refine aq hP hR ?_;refine Sz0 ?_;refine jt 7 900 6 115 Oz Tz0 ?_;refine Qm okB [(7,7),(9,9),(20,31)] [29,30,900] (fun q J hp=>∃j,q=args.length-j/\j<=args.length/\J 7= .ms 900 j/\J 20= .int .i64 (j:Nat)/\hp 2=some ⟨5,59,[PV.bI ⟨kd,args,n0,a,d⟩],false⟩/\hp 900=some ⟨6,115,(A.take j).map PV.aH,false⟩) args.length ?_ ?_
  ·refine⟨0,rfl,by omega,?_⟩;refine Sz0 ?_;rfl
  rintro _ J h ⟨j,rfl,hj,j7,gB,h2,bB⟩;refine Sz1 gB ?_;refine Qa (fun hg=>?_) (fun hg=>?_)
  ·have aT:j<args.length:=by omega
   have NI:j<A.length:=by omega
   obtain⟨m,hm⟩:∃m:Nat,args[j]=(m:Int):=⟨args[j].toNat,by have:=hr _ (Kag aT);omega⟩
   have xA:m<P.length:=by have:=hr _ (Kag aT);omega
   have Eg:A[j]=P[m]:=by subst hA;simp only[nB,KbJ,hm,Kbs];rw[Kac,Kad xA];rfl
   have cO:A.take (j+1)=A.take j++[P[m]]:=by rw[<-Eg];exact Kar NI
   have mT:j=(A.take j).length:=by rw[KaB];omega
   generalize hy:P[m]=y at *
   refine Sz5 j7 gB h2 hm hy ?_;rw[Qv (f:=PV.aH) (y:=y) (xs:=A.take j) (ty':=115) (fz:=false) (Tz1 bB) a9 Oz mT Oz Oz];refine Sz3 j7 gB h2 ?_;refine Qh (args.length-(j+1)) Oz ⟨j+1,rfl,by omega,?_⟩;exact Tz4 j7 gB h2 cO
  obtain rfl:j=args.length:=by omega
  rw[Kah Oz]at bB;have N7:List.take args.length (List.map PV.aH A)=List.map PV.aH A:=Kah (by rw[KaJ];omega);refine Sz3 j7 h2 bB ?_;refine ik hP M' (WJ j7 h2 bB @N7) rfl ?_;refine IB j7 h2 bB ?_;exact bO rfl rfl rfl (Qe _) (Qe _)
 ·rw[if_neg h]at oT;rw[oT];generalize cL f P.length=e at *
  have d:decide (¬e=0)=true:=decide_eq_true h;clear hV oT;obtain⟨kd,args,n0,a,d0⟩:=f;simp only at *
  refine aw Qf func93 Sv fun C hP=>?_;refine aq hP hR ?_;refine Sz1 d ?_;exact bO rfl rfl rfl (p':=PV.cX []) trivial (Qe _)
theorem aiy:rs (0:Rat)<=1:=by show max (nl 0) (nl 1)<=1;rw[qz,C7];decide
theorem SW{m a b:Rat}{k:Nat}(hm:rs m<=k)(ha:rs a<=k)(hb:rs b<=k):rs (o0 m a b)<=3*k+6:=by have m1:=pw a b;have m2:=fw ((2:Int):Rat) m;have m3:=Dw;have m4:=uU (a+b) (((2:Int):Rat)*m);unfold o0;omega
theorem aoP{f:Qq}{p:List Pt}{k:Nat}(h1:1<=k)(hp:∀x∈p,aF k x)(hr:f.k=9->rs (rv f.n f.a f.d)<=k)(h9:¬cr f.k=0):∀r∈rQ f p,rs r<=64*k+64:=by
 have g:∀i,aF k (aN p i):=fun i=>by
  unfold aN;rw[Kac];by_cases h:i<p.length
  ·rw[Kad h];exact hp _ (Kag h)
  ·rw[Kb8 Oz];have:=aiy;exact⟨by show rs 0<=k;omega,by show rs 0<=k;omega⟩
 have gx:=fun i=>(g i).1;have gy:=fun i=>(g i).2;unfold rQ;split
 ·intro r hr;rw[Kay.1 hr];have:=wG (g 0) (g 1) (g 0) (g 2);omega
 split
 ·intro r hr;rw[Kay.1 hr];have:=wG (g 0) (g 1) (g 2) (g 3);omega
 split
 ·intro r hr;rw[Kay.1 hr];have:=kI (g 0) (g 1) (g 2) (g 3);omega
 split
 ·intro r hr;rw[Kay.1 hr];have:=kI (g 0) (g 1) (g 0) (g 1);have:=kI (g 2) (g 3) (g 2) (g 3);have:=uU (aW (aN p 0) (aN p 1) (aN p 0) (aN p 1)) (aW (aN p 2) (aN p 3) (aN p 2) (aN p 3));omega
 split
 ·intro r hr;simp only[KaH,Kbh,or_false]at hr;rcases hr with rfl|rfl
  ·have:=SW (gx 0) (gx 1) (gx 2);omega
  ·have:=SW (gy 0) (gy 1) (gy 2);omega
 split
 ·intro r hr;rw[Kay.1 hr];have:=SV (g 1) (g 0) (g 1) (g 2) (g 3) (g 0) (g 3) (g 2);omega
 split
 ·intro r hr;rw[Kay.1 hr];have:=SV (g 0) (g 1) (g 2) (g 3) (g 4) (g 5) (g 6) (g 7);omega
 split
 ·intro r hr;simp only[KaH,Kbh,or_false]at hr;rcases hr with rfl|rfl
  ·have:=uU (aN p 0).1 (aN p 1).1;have:=gx 0;have:=gx 1;omega
  ·have:=uU (aN p 0).2 (aN p 1).2;have:=gy 0;have:=gy 1;omega
 ·have e9:f.k=9:=by
   rcases Ag f.k with h|⟨q1,q2,q3,q4,q5,q6,q7,q8,q9⟩
   ·omega
   ·exact absurd (by simp[cr,q1,q2,q3,q4,q5,q6,q7,q8,q9]) h9
  have h9:=hr e9;intro r hr;rw[Kay.1 hr];have:=kI (g 0) (g 1) (g 0) (g 1);have:=kI (g 2) (g 3) (g 2) (g 3);have:=fw (rv f.n f.a f.d) (aW (aN p 2) (aN p 3) (aN p 2) (aN p 3));have:=uU (aW (aN p 0) (aN p 1) (aN p 0) (aN p 1)) (rv f.n f.a f.d*aW (aN p 2) (aN p 3) (aN p 2) (aN p 3));omega
theorem SX{f:Qq}{P:List Pt}{k:Nat}(h1:1<=k)(hp:∀x∈P,aF k x)(hf:tp k f):∀r∈nZ f P,rs r<=64*k+64:=by
 unfold nZ;split
 ·rename_i h;obtain⟨h0,hl,hr,hq⟩:=ym h;refine aoP h1 (fun x hx=>?_) (fun h9=>?_) h0
  ·obtain⟨a,ha,rfl⟩:=KaA.1 hx;have:=hr a ha;rw[Kac,Kad (show a.toNat<P.length by omega)];exact hp _ (Kag _)
  ·rw[if_pos h9]at hq;exact hf.q h9 hq
 ·intro r hr;cases hr
theorem RJ{a:Rat}(ha:rs a<2^36):AC 90 [PV.rat a] (· = .int .i64 (eQ a)):=by
 have:=GU (kC (Kae (rs a))) ha
 rwa[kG]at this
theorem aiz{f:Qq}{P:List Pt}{k:Nat}(h1:1<=k)(hk:k<=2^10)(hp:∀x∈P,aF k x)(By:P.length<2^30)(hf:tp k f):
  AC 47 [PV.bI f,.sl 6 (P.map PV.aH)] (· = .aK [.bool (uV f P),.int .i64 (cL f P.length)]):=by
 have hV:=afE hk hp By hf;have hB:=SX h1 hp hf;have hl:(nZ f P).length<=2:=by
  unfold nZ;split
  ·exact QB
  ·simp
 have hS:∀r∈nZ f P,AC 85 [PV.rat r] (· = .int .i64 (eQ r)):=fun r hr=>by have:=hB r hr;exact St Oz
 unfold uV;generalize cL f P.length=e at *
 generalize nZ f P=V at *
 obtain⟨kd,args,n0,a,d0⟩:=f;clear hB;refine aw Qf func47 aod fun C hP=>?_;refine aq hP hV ?_;by_cases he:¬e=0
 ·have d:decide (¬e=0)=true:=decide_eq_true he;refine Sz1 d ?_;exact bO (by rw[decide_eq_false he];rfl) rfl rfl (Qe _) (Qe _)
 obtain rfl:e=0:=by omega
 refine Sz0 ?_;refine Qm okB [(4,5),(9,9),(21,28)] [9] (fun q J hp=>∃j,q=V.length-j/\j<=V.length/\(∀n (h:n<V.length),n<j->V[n]=0)/\J 21= .int .i64 (j:Nat)/\hp 2=some ⟨5,59,[PV.bI ⟨kd,args,n0,a,d0⟩],false⟩) V.length ?_ ?_
 ·refine⟨0,rfl,by omega,by omega,?_⟩;refine Sz0 ?_;rfl
 rintro _ J h ⟨j,rfl,hj,hz,ku,h2⟩;refine Sz1 ku ?_;refine Qa (fun hg=>?_) (fun hg=>?_)
 ·have aT:j<V.length:=by omega
  have hs:=hS _ (Kag aT);have bC:¬V[j]=0->V.all (fun r=>decide (r=0))=false:=fun h=>by rw[KcJ];intro hq;exact h (of_decide_eq_true (Kav.1 hq _ (Kag aT)))
  have bD:V[j]=0->∀n (h:n<V.length),n<j+1->V[n]=0:=fun h n hn Jp=>by
   by_cases e:n=j
   ·subst e;exact h
   ·exact hz n hn Oz
  have sv:∀fr hp d K,jm (some ⟨3,57,V.map PV.rat,false⟩) 3 true j 0 d fr hp K=K (ae fr d (PV.rat V[j])) hp:=fun fr hp d K=>by rw[od (by rw[KaJ];exact aT) Oz (by simp),KbJ];rfl
  generalize hx:V[j]=x at *
  refine cR ku hx hP hs ?_;by_cases bR:x=0
  ·have ub:eQ x=0:=lg.2 bR;rw[ub];refine Sz1 ku ?_;refine Qh (V.length-(j+1)) Oz ⟨j+1,rfl,by omega,bD bR,?_⟩;exact Tz1 h2
  ·have d:decide (¬eQ x=0)=true:=decide_eq_true fun h=>bR (lg.1 h);refine Sz1 d ?_;exact bO (by rw[bC bR]) rfl rfl (Qe _) (Qe _)
 obtain rfl:j=V.length:=by omega
 have bC:V.all (fun r=>decide (r=0))=true:=Kav.2 fun r hr=>by obtain⟨n,hn,rfl⟩:=KaG hr;exact decide_eq_true (hz n hn hn)
 refine Sz0 ?_;exact bO (by rw[bC]) rfl rfl (Qe _) (Qe _)
theorem afF{f:Qq}{P:List Pt}{k:Nat}(h1:1<=k)(hk:k<=2^10)(hp:∀x∈P,aF k x)(By:P.length<2^30)(hf:tp k f):
  AC 52 [PV.bI f,.sl 6 (P.map PV.aH)] (· = .aK [.bool (uV f P),.int .i64 (cL f P.length)]):=by
 have hV:=Q82 hk hp By hf;have hB:=SX h1 hp hf;have hl:(nZ f P).length<=2:=by
  unfold nZ;split
  ·exact QB
  ·simp
 have hS:∀r∈nZ f P,AC 90 [PV.rat r] (· = .int .i64 (eQ r)):=fun r hr=>by have:=hB r hr;exact RJ Oz
 unfold uV;generalize cL f P.length=e at *
 generalize nZ f P=V at *
 obtain⟨kd,args,n0,a,d0⟩:=f;clear hB;refine aw Qf func52 aoe fun C hP=>?_;refine aq hP hV ?_;by_cases he:¬e=0
 ·have d:decide (¬e=0)=true:=decide_eq_true he;refine Sz1 d ?_;exact bO (by rw[decide_eq_false he];rfl) rfl rfl (Qe _) (Qe _)
 obtain rfl:e=0:=by omega
 refine Sz0 ?_;refine Qm okB [(4,5),(9,9),(21,28)] [9] (fun q J hp=>∃j,q=V.length-j/\j<=V.length/\(∀n (h:n<V.length),n<j->V[n]=0)/\J 21= .int .i64 (j:Nat)/\hp 2=some ⟨5,59,[PV.bI ⟨kd,args,n0,a,d0⟩],false⟩) V.length ?_ ?_
 ·refine⟨0,rfl,by omega,by omega,?_⟩;refine Sz0 ?_;rfl
 rintro _ J h ⟨j,rfl,hj,hz,ku,h2⟩;refine Sz1 ku ?_;refine Qa (fun hg=>?_) (fun hg=>?_)
 ·have aT:j<V.length:=by omega
  have hs:=hS _ (Kag aT);have bC:¬V[j]=0->V.all (fun r=>decide (r=0))=false:=fun h=>by rw[KcJ];intro hq;exact h (of_decide_eq_true (Kav.1 hq _ (Kag aT)))
  have bD:V[j]=0->∀n (h:n<V.length),n<j+1->V[n]=0:=fun h n hn Jp=>by
   by_cases e:n=j
   ·subst e;exact h
   ·exact hz n hn Oz
  have sv:∀fr hp d K,jm (some ⟨3,57,V.map PV.rat,false⟩) 3 true j 0 d fr hp K=K (ae fr d (PV.rat V[j])) hp:=fun fr hp d K=>by rw[od (by rw[KaJ];exact aT) Oz (by simp),KbJ];rfl
  generalize hx:V[j]=x at *
  refine cR ku hx hP hs ?_;by_cases bR:x=0
  ·have ub:eQ x=0:=lg.2 bR;rw[ub];refine Sz1 ku ?_;refine Qh (V.length-(j+1)) Oz ⟨j+1,rfl,by omega,bD bR,?_⟩;exact Tz1 h2
  ·have d:decide (¬eQ x=0)=true:=decide_eq_true fun h=>bR (lg.1 h);refine Sz1 d ?_;exact bO (by rw[bC bR]) rfl rfl (Qe _) (Qe _)
 obtain rfl:j=V.length:=by omega
 have bC:V.all (fun r=>decide (r=0))=true:=Kav.2 fun r hr=>by obtain⟨n,hn,rfl⟩:=KaG hr;exact decide_eq_true (hz n hn hn)
 refine Sz0 ?_;exact bO (by rw[bC]) rfl rfl (Qe _) (Qe _)
structure dD where
 v:List Rat
 b:List Bool
 p:List Pt
abbrev PV.inst(x:dD):PV:=.agg [PV.cX x.v,.sl 1 (x.b.map PV.bool),.sl 6 (x.p.map PV.aH)]
def jB(f:Qq):List dD->Bool->Bool×Int
 | [],b=>(b,0)
 |x::r,b=>if cL f x.p.length=0 then jB f r (b&&uV f x.p)else(false,cL f x.p.length)
structure AX(k:Nat)(x:dD):Prop where
 p:∀a∈x.p,aF k a
 l:x.p.length<2^30
theorem apL{f:Qq}{X:List dD}{k:Nat}(h1:1<=k)(hk:k<=2^10)(hX:∀x∈X,AX k x)(yR:X.length<2^30)(hf:tp k f):
  AC 22 [PV.bI f,.sl 3 (X.map PV.inst)] (· = .aK [.bool (jB f X true).1,.int .i64 (jB f X true).2]):=by
 have hH:∀x∈X,AC 47 [PV.bI f,.sl 6 (x.p.map PV.aH)] (· = .aK [.bool (uV f x.p),.int .i64 (cL f x.p.length)]):=fun x hx=>aiz h1 hk (hX x hx).p (hX x hx).l hf;generalize hR:jB f X true=R at *
 refine aw Qf func22 aof fun C hP=>?_;refine Sz0 ?_;refine Qm okB [(4,6),(8,10),(13,31)] [8] (fun q J hp=>∃j b,q=X.length-j/\j<=X.length/\jB f (X.drop j) b=R/\J 6= .bool b/\J 13= .int .i64 (j:Nat)/\hp 2=some ⟨5,59,[PV.bI f],false⟩) X.length ?_ ?_
 ·refine⟨0,true,rfl,by omega,hR,?_⟩;refine Sz0 ?_;rfl
 clear hR;rintro _ J h ⟨j,b,rfl,hj,hR,j6,jj,h2⟩;refine Sz1 jj ?_;refine Qa (fun hg=>?_) (fun hg=>?_)
 ·have aT:j<X.length:=by omega
  have hh:=hH _ (Kag aT);rw[Kax aT,jB]at hR;generalize hx:X[j]=x at *
  obtain⟨xv,xb,xp⟩:=x;simp only at hh hR;refine eF jj hx h2 hP hh ?_;by_cases he:cL f xp.length=0
  ·rw[if_pos he]at hR;rw[he];cases b
   ·refine Sz3 jj j6 h2 ?_;refine Qh (X.length-(j+1)) Oz ⟨j+1,false,rfl,by omega,by rw[<-hR];rfl,?_⟩;exact Tz1 h2
   ·refine Sz3 jj j6 h2 ?_;refine Qh (X.length-(j+1)) Oz ⟨j+1,uV f xp,rfl,by omega,by rw[<-hR];rfl,?_⟩;exact Tz1 h2
  ·rw[if_neg he]at hR;generalize cL f xp.length=e at *
   have d:decide (¬e=0)=true:=decide_eq_true he;refine Sz1 d ?_;exact bO (by rw[<-hR]) rfl rfl (Qe _) (Qe _)
 obtain rfl:j=X.length:=by omega
 rw[Kcc]at hR;refine Sz1 j6 ?_;exact bO (by rw[<-hR];rfl) rfl rfl (Qe _) (Qe _)
theorem afG{f:Qq}{X:List dD}{k:Nat}(h1:1<=k)(hk:k<=2^10)(hX:∀x∈X,AX k x)(yR:X.length<2^30)(hf:tp k f):
  AC 24 [PV.bI f,.sl 3 (X.map PV.inst)] (· = .aK [.bool (jB f X true).1,.int .i64 (jB f X true).2]):=by
 have hH:∀x∈X,AC 52 [PV.bI f,.sl 6 (x.p.map PV.aH)] (· = .aK [.bool (uV f x.p),.int .i64 (cL f x.p.length)]):=fun x hx=>afF h1 hk (hX x hx).p (hX x hx).l hf;generalize hR:jB f X true=R at *
 refine aw Qf func24 aog fun C hP=>?_;refine Sz0 ?_;refine Qm okB [(4,32)] [] (fun q J hp=>∃j b,q=X.length-j/\j<=X.length/\jB f (X.drop j) b=R/\J 6= .bool b/\J 7= .int .i64 (j:Nat)/\hp 2=some ⟨5,59,[PV.bI f],false⟩) X.length ?_ ?_
 ·refine⟨0,true,rfl,by omega,hR,?_⟩;refine Sz0 ?_;rfl
 clear hR;rintro _ J h ⟨j,b,rfl,hj,hR,j6,jj,h2⟩;refine Sz1 jj ?_;refine Qa (fun hg=>?_) (fun hg=>?_)
 ·have aT:j<X.length:=by omega
  have hh:=hH _ (Kag aT);rw[Kax aT,jB]at hR;generalize hx:X[j]=x at *
  obtain⟨xv,xb,xp⟩:=x;simp only at hh hR;refine eF jj hx h2 hP hh ?_;by_cases he:cL f xp.length=0
  ·rw[if_pos he]at hR;rw[he];cases b
   ·refine Sz3 jj j6 h2 ?_;refine Qh (X.length-(j+1)) Oz ⟨j+1,false,rfl,by omega,by rw[<-hR];rfl,?_⟩;exact Tz1 h2
   ·refine Sz3 jj j6 h2 ?_;refine Qh (X.length-(j+1)) Oz ⟨j+1,uV f xp,rfl,by omega,by rw[<-hR];rfl,?_⟩;exact Tz1 h2
  ·rw[if_neg he]at hR;generalize cL f xp.length=e at *
   have d:decide (¬e=0)=true:=decide_eq_true he;refine Sz1 d ?_;exact bO (by rw[<-hR]) rfl rfl (Qe _) (Qe _)
 obtain rfl:j=X.length:=by omega
 rw[Kcc]at hR;refine Sz1 j6 ?_;exact bO (by rw[<-hR];rfl) rfl rfl (Qe _) (Qe _)
open Go Go.FW Go.RowKit Go.Shelf
theorem aiA{l:List Nat}(h0:0<l.length)(hl:l.length<=100):Au Tryz.prog 115 [PV.nat l] eU (fun ys=>ys=bJ l):=by
 refine⟨by unfold lT;kernel_rfl,fun w X aR hX hs hr=>?_⟩;obtain⟨v0,rfl⟩:∃v0,aR= #[v0]:=by
  obtain⟨l⟩:=aR
  match l,hs with
  | [a],_=>exact⟨a,rfl⟩
 have h1:Qn w X (.sl 1 (bJ l)) v0:=hr 0 _ rfl;generalize hY:bJ l=Y at h1;cases h1 with
 |gC=>rw[bJ,List.map_eq_nil_iff]at hY;subst hY;cases h0
 | sl _ _ b off cap vs vz hb hlc hc he hv lH=>
  subst hY;have qQ:(bJ l).length=l.length:=by simp[bJ]
  rw[qQ];refine callsIn_wide.1 ((Q0k b off l.length cap 0 w l rfl hl fun j hj=>?_).mono fun e w' h=>?_)
  ·have h3:=hv j Oz 0 Oz;have h4:=lH j (.int .u16 l[j]) (by simp[hj,bJ]) 0 _ rfl;generalize vs j 0=u at h3 h4;cases h4;simpa using h3
  ·obtain⟨v,rfl,h3,h4⟩:=h;obtain⟨g,eJ,rfl⟩:=ownsRow_succ (k:=l.length-1) (show w'.ownsRow w.heap.size eU 1 v (l.length-1+1) _ by rw[show l.length-1+1=l.length by omega];exact h4);have e1:l.length-1+1=l.length:=by omega
   rw[e1]at⊢h4;have ao:=h4.lt g rfl;rcases h4.2 with⟨h5,_⟩|⟨g2,yJ,cur,h5,_,hg,h6,h7,h8,h9⟩
   ·cases h5
   ·cases h5;refine⟨_,g,eJ,bJ l,rfl,by simp[bJ],ao.1,h3,⟨rz _,cur,eJ,hg,h8,by simpa[bJ]using h6,h7,fun i k n hi=>?_⟩,?_,h7,rfl⟩
    ·rw[bJ,Kao]at hi;cases sw:l[i]? with
     |none=>rw[sw]at hi;cases hi
     |some x=>rw[sw]at hi;cases hi;obtain⟨fp,hx⟩:=Kaf.1 sw;have du:=congrArg (fun L:List Value=>L[i]?) h9;simp only[Kao,sw,KbT]at du;rw[KaI Oz]at du;simp at du;simp[du]
    ·exact⟨cur,_,hg,h8⟩
theorem aa2{w':World}{X:Nat->Prop}{B:Nat}{v:Value}(h4:w'.ownsRow B eU 1 v 0 []):eX w' X (PV.nat []) v:=by
 rcases h4.2 with⟨h5,_⟩|⟨g2,yJ,cur,h5,_,hg,h6,h7,h8,h9⟩
 ·subst h5;exact Qn.gC _ _ _ (Ka6 _)
 ·subst h5;exact Qn.gC _ _ _ h7
theorem QC{l:List Nat}(hl:l.length<=100):AC 115 [PV.nat l] (· =PV.nat l):=by
 by_cases h0:0<l.length
 ·exact(aiA h0 hl).OK
 obtain rfl:l=[]:=Kas.1 Oz;refine⟨by unfold lT;kernel_rfl,fun w X aR hX hs hr=>?_⟩;obtain⟨v0,rfl⟩:∃v0,aR= #[v0]:=by
  obtain⟨l⟩:=aR
  match l,hs with
  | [a],_=>exact⟨a,rfl⟩
 have h1:Qn w X (.sl 1 []) v0:=hr 0 _ rfl;cases h1 with
 |sl _ _ b off cap vs vz hb hlc hc he hv lH=>refine callsIn_wide.1 ((TW ⟨b,off,none⟩ cap 0 w).mono fun e w' h=>?_);obtain⟨v,rfl,h3,h4⟩:=h;exact⟨_,PV.nat [],rfl,h3,aa2 h4,rfl⟩
 | gC _ a cap hc=>
  cases a with
  |none=>refine callsIn_wide.1 ((Q6u cap 0 w).mono fun e w' h=>?_);obtain⟨rfl,rfl⟩:=h;exact⟨_,PV.nat [],rfl,Ext.refl _ _,Qn.gC _ _ _ (Ka6 _),rfl⟩
  |some ad=>refine callsIn_wide.1 ((TW ad cap 0 w).mono fun e w' h=>?_);obtain⟨v,rfl,h3,h4⟩:=h;exact⟨_,PV.nat [],rfl,h3,aa2 h4,rfl⟩
def di(V:List Vr):Nat->List Int
 |0=>[]
 |i+1=>di V i++if(V.getD i (0,0,0)).1=1 then [(i:Int)]else []
theorem Dl(V:List Vr):∀i,(di V i).length<=i
 |0=>Kae _
 |i+1=>by have:=Dl V i;rw[di,Kap];split<;>simp<;>omega
theorem AY{V:List Vr}{i:Nat}(h:i<V.length):V.getD i (0,0,0)=V[i]:=by rw[Kac,Kad h];rfl
theorem aiB{cs:List Cd}{V:List Vr}(hV:V.length<=100):AC 82 [PV.frame cs V] (· =PV.mono (di V V.length)):=by
 refine aw Qf func82 aoK fun C hP=>?_;refine Sz0 ?_;refine jt 3 900 1 3 Oz Tz0 ?_;refine Qm okB [(3,5),(9,21)] [5,19,20,900] (fun q J hp=>∃j,q=V.length-j/\j<=V.length/\J 3= .ms 900 (di V j).length/\J 9= .int .i64 (j:Nat)/\hp 1=some ⟨2,33,[PV.frame cs V],false⟩/\hp 900=some ⟨1,3,(di V j).map (PV.int .i64),false⟩) V.length ?_ ?_
 ·refine⟨0,rfl,by omega,?_⟩;refine Sz0 ?_;exact⟨rfl,rfl,rfl⟩
 rintro _ J h ⟨j,rfl,hj,j3,j9,h1,bB⟩;refine Sz1 j9 ?_;refine Qa (fun hg=>?_) (fun hg=>?_)
 ·have aT:j<V.length:=by omega
  have cK:di V (j+1)=di V j++if V[j].1=1 then [(j:Int)]else []:=by rw[di,AY aT]
  have hle:=Dl V j;generalize hx:V[j]=x at *
  obtain⟨x1,x2,x3⟩:=x;refine Sz2 j9 hx ?_;refine Qa (fun h2=>?_) (fun h2=>?_)
  ·rw[if_pos h2]at cK;refine Sz2 j3 j9 ?_;rw[Qv (f:=PV.int .i64) (y:=(j:Int)) (xs:=di V j) (ty':=3) (fz:=false) (Tz1 bB) a9 Oz rfl Oz Oz];refine Sz2 j9 h1 ?_;refine Qh (V.length-(j+1)) Oz ⟨j+1,rfl,by omega,?_⟩;rw[cK,Kap];exact Tz1 h1
  ·rw[if_neg h2,Kak]at cK;refine Sz3 j3 j9 h1 ?_;refine Qh (V.length-(j+1)) Oz ⟨j+1,rfl,by omega,?_⟩;rw[cK];exact Tz3 j3 h1 bB
 obtain rfl:j=V.length:=by omega
 refine Sz2 j3 bB ?_;exact Qc (by simp only[Qr,cx,bB,if_neg (show ¬aQ 900=true by decide)];rw[Kah (by simp)];rfl) rfl
theorem Q83{cs:List Cd}{V:List Vr}(hV:V.length<=100):AC 126 [PV.frame cs V] (· =PV.mono (di V V.length)):=by
 refine aw Qf func126 alW fun C hP=>?_;refine Sz0 ?_;refine jt 3 900 1 3 Oz Tz0 ?_;refine Qm okB [(3,5),(9,21)] [5,19,20,900] (fun q J hp=>∃j,q=V.length-j/\j<=V.length/\J 3= .ms 900 (di V j).length/\J 9= .int .i64 (j:Nat)/\hp 1=some ⟨2,33,[PV.frame cs V],false⟩/\hp 900=some ⟨1,3,(di V j).map (PV.int .i64),false⟩) V.length ?_ ?_
 ·refine⟨0,rfl,by omega,?_⟩;refine Sz0 ?_;exact⟨rfl,rfl,rfl⟩
 rintro _ J h ⟨j,rfl,hj,j3,j9,h1,bB⟩;refine Sz1 j9 ?_;refine Qa (fun hg=>?_) (fun hg=>?_)
 ·have aT:j<V.length:=by omega
  have cK:di V (j+1)=di V j++if V[j].1=1 then [(j:Int)]else []:=by rw[di,AY aT]
  have hle:=Dl V j;generalize hx:V[j]=x at *
  obtain⟨x1,x2,x3⟩:=x;refine Sz2 j9 hx ?_;refine Qa (fun h2=>?_) (fun h2=>?_)
  ·rw[if_pos h2]at cK;refine Sz2 j3 j9 ?_;rw[Qv (f:=PV.int .i64) (y:=(j:Int)) (xs:=di V j) (ty':=3) (fz:=false) (Tz1 bB) a9 Oz rfl Oz Oz];refine Sz2 j9 h1 ?_;refine Qh (V.length-(j+1)) Oz ⟨j+1,rfl,by omega,?_⟩;rw[cK,Kap];exact Tz1 h1
  ·rw[if_neg h2,Kak]at cK;refine Sz3 j3 j9 h1 ?_;refine Qh (V.length-(j+1)) Oz ⟨j+1,rfl,by omega,?_⟩;rw[cK];exact Tz3 j3 h1 bB
 obtain rfl:j=V.length:=by omega
 refine Sz2 j3 bB ?_;exact Qc (by simp only[Qr,cx,bB,if_neg (show ¬aQ 900=true by decide)];rw[Kah (by simp)];rfl) rfl
theorem Q4z{L:List Rat}{k:Nat}(hL:∀r∈L,rs r<=k)(hk:k<=100)(hl:L.length<=100):AC 83 [PV.cX L] (· =PV.cX L):=by
 have hC:∀r∈L,AC 115 [PV.num r.num.natAbs] (· =PV.num r.num.natAbs)/\AC 115 [PV.num r.den] (· =PV.num r.den):=fun r hr=>by have h:=hL r hr;unfold FW.rs nl at h;exact⟨QC Oz,QC Oz⟩
 refine aw Qf func83 aoL fun C hP=>?_;refine Sz0 ?_;refine jt 3 900 3 57 Oz Tz0 ?_;refine Qm okB [(3,3),(5,5),(8,26)] [5,24,25,900] (fun q J hp=>∃j,q=L.length-j/\j<=L.length/\J 3= .ms 900 j/\J 8= .int .i64 (j:Nat)/\hp 900=some ⟨3,57,(L.take j).map PV.rat,false⟩) L.length ?_ ?_
 ·refine⟨0,rfl,by omega,?_⟩;refine Sz0 ?_;rfl
 rintro _ J h ⟨j,rfl,hj,j3,j8,bB⟩;refine Sz1 j8 ?_;refine Qa (fun hg=>?_) (fun hg=>?_)
 ·have aT:j<L.length:=by omega
  obtain⟨c1,c2⟩:=hC _ (Kag aT);have cO:L.take (j+1)=L.take j++[L[j]]:=Kar aT;have mT:j=(L.take j).length:=by rw[KaB];omega
  generalize hx:L[j]=x at *
  refine cR j8 hx hP c1 ?_;refine aq hP c2 ?_;refine Sz1 j3 ?_;rw[Qv (f:=PV.rat) (y:=x) (xs:=L.take j) (ty':=57) (fz:=false) (Tz1 bB) a9 Oz mT Oz Oz];refine Sz1 j8 ?_;refine Qh (L.length-(j+1)) Oz ⟨j+1,rfl,by omega,?_⟩;rw[cO];exact Tz2 j3 j8
 obtain rfl:j=L.length:=by omega
 rw[Kba]at bB;refine Sz2 j3 bB ?_;exact Qc (by simp only[Qr,cx,bB,if_neg (show ¬aQ 900=true by decide)];rw[Kah (by simp)];rfl) rfl
abbrev cw(V:List Vr)(t:Nat):Vr:=V.getD t (0,0,0)
def lV(V:List Vr)(t:Nat):Prop:=0<t/\(cw V (t-1)).1≠1/\(cw V (t-1)).2.1=(cw V t).2.1
instance (V : List Vr) (t : Nat) : Decidable (lV V t) := by unfold lV; infer_instance
structure rN(V:List Vr)(n:Nat):Prop where
 b:∀t,t<V.length->(cw V t).1≠1->0<=(cw V t).2.1/\(cw V t).2.1<n
 u:∀t,t<V.length->(cw V t).1≠1->∀u,u<t->(cw V u).1≠1->(cw V u).2.1=(cw V t).2.1->u+1=t
def pK(V:List Vr)(x:dD)(t:Nat):Rat:=
 if(cw V t).1=1 then x.v.getD (di V t).length 0 else if lV V t then(x.p.getD (cw V t).2.1.toNat (0,0)).2 else(x.p.getD (cw V t).2.1.toNat (0,0)).1
def jV(V:List Vr)(x:dD)(t:Nat):List Rat:=(List.range t).map (pK V x)
theorem wh(V:List Vr)(x:dD)(t:Nat):(jV V x t).length=t:=by simp[jV]
theorem Vu(V:List Vr)(x:dD)(t:Nat):jV V x (t+1)=jV V x t++[pK V x t]:=by simp[jV,List.range_succ]
def rJ(V:List Vr):Nat->Int
 |0=> -1
 |t+1=>if(cw V t).1=1 then rJ V t else(cw V t).2.1
def wL(V:List Vr):Nat->Int
 |0=>0
 |t+1=>if(cw V t).1=1 then 0 else if lV V t then 0 else 1
theorem QD(V:List Vr):∀t,rJ V t= -1∨∃u,u<t/\(cw V u).1≠1/\(cw V u).2.1=rJ V t
 |0=>.inl rfl
 | t+1=>by
  rw[rJ];split
  ·rcases QD V t with h|⟨u,h1,h2,h3⟩
   ·exact .inl h
   ·exact .inr ⟨u,by omega,h2,h3⟩
  ·rename_i h;exact .inr ⟨t,by omega,h,rfl⟩
theorem aiC{V:List Vr}{n t:Nat}(hG:rN V n)(ht:t<V.length)(h1:(cw V t).1≠1):(cw V t).2.1=rJ V t↔lV V t:=by
 constructor
 ·intro h;have hb:=hG.b t ht h1;rcases QD V t with e|⟨u,e1,e2,e3⟩
  ·omega
  ·have:=hG.u t ht h1 u e1 e2 (by rw[e3,h]);subst this;exact⟨by omega,e2,by simp only[KbZ];rw[e3,h]⟩
 ·rintro⟨h0,h2,h3⟩;obtain⟨s,rfl⟩:∃s,t=s+1:=⟨t-1,by omega⟩
  simp only[KbZ]at h2 h3;rw[rJ,if_neg h2,h3]
theorem apM{V:List Vr}{n t:Nat}(hG:rN V n)(ht:t<V.length)(h1:(cw V t).1≠1)(hs:lV V t):wL V t=1:=by
 obtain⟨h0,h2,h3⟩:=hs;obtain⟨s,rfl⟩:∃s,t=s+1:=⟨t-1,by omega⟩
 simp only[KbZ]at h2 h3;rw[wL,if_neg h2,if_neg];rintro⟨g0,g2,g3⟩;have:=hG.u (s+1) ht h1 (s-1) Oz g2 (by rw[g3,h3]);omega
theorem apN{V:List Vr}{t:Nat}(hs:¬lV V t)(h:¬wL V t=0):0<t/\¬(cw V t).2.1=(cw V (t-1)).2.1:=by
 match t,h with
 |0,h=>exact absurd rfl h
 | s+1,h=>
  refine⟨by omega,fun e=>hs ⟨by omega,?_,?_⟩⟩
  ·intro e1;simp only[KbZ]at e1;rw[wL,if_pos e1]at h;exact h rfl
  ·rw[e]
theorem WA(V:List Vr){i:Nat}:∀ {j:Nat},i<=j->(di V i).length<=(di V j).length
  | 0, h => by obtain rfl:i=0:=by omega
               exact Kae _
  | j +1,h=>by
    by_cases e:i=j+1
    · subst e;exact Kae _
    · have:=WA V (show i<=j by omega)
      rw[di,Kap];omega
theorem L8(V:List Vr){i j:Nat}(h:i<j)(h1:(cw V i).1=1):(di V i).length<(di V j).length:=by have:=WA V (show i+1<=j by omega);rw[di,if_pos h1,Kap]at this;simp at this;omega
def sO(S:List Q3)(V:List Vr)(x:dD):Prop:=x.v.length=(di V V.length).length/\x.p.length=S.length
instance (S : List Q3) (V : List Vr) (x : dD) : Decidable (sO S V x) := by unfold sO; infer_instance
def cu(S:List Q3)(V:List Vr)(x:dD):List Rat:=if sO S V x then jV V x V.length else []
def gX(S:List Q3)(V:List Vr)(x:dD):Int:=if sO S V x then 0 else 16
theorem Kq{S:List Q3}{V:List Vr}{x:dD}{k t:Nat}(hG:rN V S.length)(ht:t<V.length)(ho:sO S V x)(hv:∀r∈x.v,rs r<=k)(hp:∀a∈x.p,aF k a):rs (pK V x t)<=k:=by
 unfold pK;split
 ·rename_i h;have h2:=L8 V ht h;have:=ho.1;rw[Kac,Kad Oz];exact hv _ (Kag _)
 ·rename_i h;have h2:=hG.b t ht h;have:=ho.2;have hm:aF k (x.p.getD (cw V t).2.1.toNat (0,0)):=by rw[Kac,Kad Oz];exact hp _ (Kag _)
  split
  ·exact hm.2
  ·exact hm.1
theorem ah3{S:List Q3}{G:List Qq}{cs:List Cd}{V:List Vr}{H P:List (List Tm)}{Q:List (List (List Tm))}{x:dD}{k:Nat}(hG:rN V S.length)(hV:V.length<=100)(hk:k<=100)(hv:∀r∈x.v,rs r<=k)(hp:∀a∈x.p,aF k a):
  AC 43 [PV.iA S G cs V H P Q,PV.inst x] (· = .aK [PV.cX (cu S V x),.int .i64 (gX S V x)]):=by
 have En:=aiB (cs:=cs) hV;have ej:=Dl V V.length;by_cases ho:sO S V x
 rotate_left
 ·skip
  have e1:cu S V x=[]:=if_neg ho;have e2:gX S V x=16:=if_neg ho;rw[e1,e2];have dv:¬(x.v.length=(di V V.length).length/\x.p.length=S.length):=ho;obtain⟨xv,xb,xp⟩:=x;simp only at dv;generalize di V V.length=N at *
  refine aw Qf func43 SH fun C hP=>?_;refine aq hP En ?_;refine Sz0 ?_;refine Qp (fun h3=>?_) (fun h3=>?_)
  ·refine Sz0 ?_;exact bO rfl rfl rfl (p':=PV.cX []) trivial (Qe _)
  have d:decide (¬(xp.length:Int)=(S.length:Int))=true:=decide_eq_true fun h=>dv ⟨by omega,by omega⟩;refine Sz1 d ?_;exact bO rfl rfl rfl (p':=PV.cX []) trivial (Qe _)
 have e1:cu S V x=jV V x V.length:=if_pos ho;have e2:gX S V x=0:=if_pos ho;rw[e1,e2];have cF:=Q4z (L:=jV V x V.length) (k:=k) (fun r hr=>by obtain⟨t,ht,rfl⟩:=KaA.1 hr;exact Kq hG (Kcg.1 ht) ho hv hp) hk (by rw[wh];exact hV);have dS:=fun t=>Vu V x t;have cT:=fun t=>wh V x t;have dT:∀t,pK V x t=if(cw V t).1=1 then x.v.getD (di V t).length 0 else if lV V t then(x.p.getD (cw V t).2.1.toNat (0,0)).2 else(x.p.getD (cw V t).2.1.toNat (0,0)).1:=fun t=>rfl
 have dv:x.v.length=(di V V.length).length/\x.p.length=S.length:=ho;obtain⟨xv,xb,xp⟩:=x;simp only at dv dT;obtain⟨o1,o2⟩:=dv;generalize jV V ⟨xv,xb,xp⟩=F at *
 generalize pK V ⟨xv,xb,xp⟩=f at *
 clear ho e1 e2;have d1:decide (¬(xv.length:Int)=((di V V.length).length:Int))=false:=decide_eq_false fun h=>h Oz;have d2:decide (¬(xp.length:Int)=(S.length:Int))=false:=decide_eq_false fun h=>h Oz;refine aw Qf func43 SH fun C hP=>?_;refine aq hP En ?_;refine Sz2 d1 d2 ?_;refine jt 6 900 3 57 Oz Tz0 ?_;refine Qm okB [(6,8),(10,10),(33,78)] [10,45,46,59,60,76,77,900] (fun q J hp=>∃j,q=V.length-j/\j<=V.length/\J 6= .ms 900 j/\J 7= .int .i64 ((di V j).length:Nat)/\J 8= .int .i64 (rJ V j)/\J 33= .int .i64 (j:Nat)/\hp 3=some ⟨3,50,[PV.inst ⟨xv,xb,xp⟩],false⟩/\hp 900=some ⟨3,57,(F j).map PV.rat,false⟩) V.length ?_ ?_
 ·refine⟨0,rfl,by omega,?_⟩;refine Sz0 ?_;have MY:F 0=[]:=Kas.1 (cT 0);rw[MY];exact⟨rfl,rfl,rfl,rfl⟩
 rintro _ J h ⟨j,rfl,hj,j6,j7,j8,FY,h3,bB⟩;refine Sz1 FY ?_;refine Qa (fun hg=>?_) (fun hg=>?_)
 ·have aT:j<V.length:=by omega
  have eA:=dT j;have NB:=AY aT;have hb:=hG.b j aT;have sw:=aiC hG aT;have cK:di V (j+1)=di V j++if(cw V j).1=1 then [(j:Int)]else []:=rfl
  have fY:rJ V (j+1)=if(cw V j).1=1 then rJ V j else(cw V j).2.1:=rfl
  have Fj:=fun h=>L8 V aT h;have hF:=dS j;rw[show cw V j=V[j]from NB]at *
  generalize hx:V[j]=y at *
  obtain⟨y1,y2,y3⟩:=y;simp only at hb sw Fj cK fY eA;refine Sz2 FY hx ?_;refine Qa (fun c1=>?_) (fun c1=>?_)
  ·rw[if_pos c1]at eA cK fY;have:=Fj c1;have hm:(di V j).length<xv.length:=by omega
   rw[Kac,Kad hm]at eA;replace eA:f j=xv[(di V j).length]:=eA;generalize hz:xv[(di V j).length]=z at *
   rw[eA]at hF;refine Sz4 j6 j7 h3 hz ?_;rw[Qv (f:=PV.rat) (y:=z) (xs:=F j) (ty':=57) (fz:=false) (Tz1 bB) a9 Oz (cT j).symm Oz Oz];refine Sz2 j7 FY ?_;refine Qh (V.length-(j+1)) Oz ⟨j+1,rfl,by omega,?_⟩;rw[cK,fY,Kap,hF];exact Tz2 j8 h3
  rw[if_neg c1,Kak]at cK;rw[if_neg c1]at fY eA;have sw:=sw c1;obtain⟨b1,b2⟩:=hb c1;obtain⟨m,rfl⟩:∃m:Nat,y2=(m:Int):=⟨y2.toNat,by omega⟩
  have hm:m<xp.length:=by omega
  rw[Kbs,Kac,Kad hm]at eA;replace eA:f j=if lV V j then xp[m].2 else xp[m].1:=eA
  generalize hz:xp[m]=z at *
  by_cases hs:lV V j
  ·have d3:decide ((m:Int)=rJ V j)=true:=decide_eq_true (sw.2 hs);rw[if_pos hs]at eA;rw[eA]at hF;refine Sz5 j6 j8 h3 hz d3 ?_;rw[Qv (f:=PV.rat) (y:=z.2) (xs:=F j) (ty':=57) (fz:=false) (Tz1 bB) a9 Oz (cT j).symm Oz Oz];refine Sz1 FY ?_;refine Qh (V.length-(j+1)) Oz ⟨j+1,rfl,by omega,?_⟩;rw[cK,fY,sw.2 hs,hF];exact Tz3 j7 j8 h3
  ·have d3:decide ((m:Int)=rJ V j)=false:=decide_eq_false fun h=>hs (sw.1 h);rw[if_neg hs]at eA;rw[eA]at hF;refine Sz5 j6 j8 h3 hz d3 ?_;rw[Qv (f:=PV.rat) (y:=z.1) (xs:=F j) (ty':=57) (fz:=false) (Tz1 bB) a9 Oz (cT j).symm Oz Oz];refine Sz1 FY ?_;refine Qh (V.length-(j+1)) Oz ⟨j+1,rfl,by omega,?_⟩;rw[cK,fY,hF];exact Tz2 j7 h3
 obtain rfl:j=V.length:=by omega
 have cO:List.take V.length ((F V.length).map PV.rat)=(F V.length).map PV.rat:=Kah (by rw[KaJ,cT];exact Kae _);refine Sz2 j6 bB ?_;refine ik hP cF (Uz3 j6 bB cO) rfl ?_;refine aY ?_;exact bO rfl rfl rfl (Qe _) (Qe _)
theorem Q84{S:List Q3}{G:List Qq}{cs:List Cd}{V:List Vr}{H P:List (List Tm)}{Q:List (List (List Tm))}{x:dD}(hG:rN V S.length)(hV:V.length<=100):
  AC 88 [PV.iA S G cs V H P Q,PV.inst x] (· = .aK [PV.cX (cu S V x),.int .i64 (gX S V x)]):=by
 have En:=Q83 (cs:=cs) hV;have ej:=Dl V V.length;by_cases ho:sO S V x
 rotate_left
 ·skip
  have e1:cu S V x=[]:=if_neg ho;have e2:gX S V x=16:=if_neg ho;rw[e1,e2];have dv:¬(x.v.length=(di V V.length).length/\x.p.length=S.length):=ho;obtain⟨xv,xb,xp⟩:=x;simp only at dv;generalize di V V.length=N at *
  refine aw Qf func88 SI fun C hP=>?_;refine aq hP En ?_;refine Sz0 ?_;refine Qp (fun h3=>?_) (fun h3=>?_)
  ·refine Sz0 ?_;exact bO rfl rfl rfl (p':=PV.cX []) trivial (Qe _)
  have d:decide (¬(xp.length:Int)=(S.length:Int))=true:=decide_eq_true fun h=>dv ⟨by omega,by omega⟩;refine Sz1 d ?_;exact bO rfl rfl rfl (p':=PV.cX []) trivial (Qe _)
 have e1:cu S V x=jV V x V.length:=if_pos ho;have e2:gX S V x=0:=if_pos ho;rw[e1,e2];have dS:=fun t=>Vu V x t;have cT:=fun t=>wh V x t;have dT:∀t,pK V x t=if(cw V t).1=1 then x.v.getD (di V t).length 0 else if lV V t then(x.p.getD (cw V t).2.1.toNat (0,0)).2 else(x.p.getD (cw V t).2.1.toNat (0,0)).1:=fun t=>rfl
 have dv:x.v.length=(di V V.length).length/\x.p.length=S.length:=ho;obtain⟨xv,xb,xp⟩:=x;simp only at dv dT;obtain⟨o1,o2⟩:=dv;generalize jV V ⟨xv,xb,xp⟩=F at *
 generalize pK V ⟨xv,xb,xp⟩=f at *
 clear ho e1 e2;have d1:decide (¬(xv.length:Int)=((di V V.length).length:Int))=false:=decide_eq_false fun h=>h Oz;have d2:decide (¬(xp.length:Int)=(S.length:Int))=false:=decide_eq_false fun h=>h Oz;refine aw Qf func88 SI fun C hP=>?_;refine aq hP En ?_;refine Sz2 d1 d2 ?_;refine jt 6 900 3 57 Oz Tz0 ?_;refine Qm okB [(6,10),(29,95)] [10,51,52,89,90,94,95,900] (fun q J hp=>∃j,q=V.length-j/\j<=V.length/\J 6= .ms 900 j/\J 7= .int .i64 ((di V j).length:Nat)/\J 8= .int .i64 (wL V j)/\J 9= .int .i64 (j:Nat)/\hp 2=some ⟨7,37,[PV.iA S G cs V H P Q],false⟩/\hp 3=some ⟨3,50,[PV.inst ⟨xv,xb,xp⟩],false⟩/\hp 900=some ⟨3,57,(F j).map PV.rat,false⟩) V.length ?_ ?_
 ·refine⟨0,rfl,by omega,?_⟩;refine Sz0 ?_;have MY:F 0=[]:=Kas.1 (cT 0);rw[MY];exact⟨rfl,rfl,rfl,rfl⟩
 rintro _ J h ⟨j,rfl,hj,j6,j7,j8,j9,h2,h3,bB⟩;refine Sz2 j9 h2 ?_;refine Qa (fun hg=>?_) (fun hg=>?_)
 ·have aT:j<V.length:=by omega
  have eA:=dT j;have NB:=AY aT;have hb:=hG.b j aT;have ZG:=fun h1 hs=>apM hG aT h1 hs;have ZF:=fun hs h=>apN (V:=V) (t:=j) hs h;have cK:di V (j+1)=di V j++if(cw V j).1=1 then [(j:Int)]else []:=rfl
  have fY:wL V (j+1)=if(cw V j).1=1 then 0 else if lV V j then 0 else 1:=rfl
  have Fj:=fun h=>L8 V aT h;have aad:lV V j↔0<j/\(cw V (j-1)).1≠1/\(cw V (j-1)).2.1=(cw V j).2.1:=Iff.rfl;have hF:=dS j;rw[show cw V j=V[j]from NB]at *
  generalize hx:V[j]=y at *
  obtain⟨y1,y2,y3⟩:=y;simp only at hb ZG ZF Fj cK fY eA aad;refine Sz3 j9 h2 hx ?_;refine Qa (fun c1=>?_) (fun c1=>?_)
  ·rw[if_pos c1]at eA cK fY;have:=Fj c1;have hm:(di V j).length<xv.length:=by omega
   rw[Kac,Kad hm]at eA;replace eA:f j=xv[(di V j).length]:=eA;generalize hz:xv[(di V j).length]=z at *
   rw[eA]at hF;refine Sz4 j6 j7 h3 hz ?_;rw[Qv (f:=PV.rat) (y:=z) (xs:=F j) (ty':=57) (fz:=false) (Tz1 bB) a9 Oz (cT j).symm Oz Oz];refine Sz2 j7 j9 ?_;refine Qh (V.length-(j+1)) Oz ⟨j+1,rfl,by omega,?_⟩;rw[cK,fY,Kap,hF];exact Tz2 h2 h3
  rw[if_neg c1,Kak]at cK;rw[if_neg c1]at fY eA;obtain⟨b1,b2⟩:=hb c1;obtain⟨m,rfl⟩:∃m:Nat,y2=(m:Int):=⟨y2.toNat,by omega⟩
  have hm:m<xp.length:=by omega
  rw[Kbs,Kac,Kad hm]at eA;replace eA:f j=if lV V j then xp[m].2 else xp[m].1:=eA
  generalize hz:xp[m]=z at *
  by_cases hs:lV V j
  ·have bK:=ZG c1 hs;rw[if_pos hs]at eA fY;rw[eA]at hF;obtain⟨s1,s2,s3⟩:=aad.1 hs;have EP:j-1<V.length:=by omega
   rw[show cw V (j-1)=V[j-1]from AY EP]at s2 s3;obtain⟨i,rfl⟩:∃i,j=i+1:=⟨j-1,by omega⟩
   simp only[KbZ]at EP s2 s3;generalize hw:V[i]=w at *
   obtain⟨w1,w2,w3⟩:=w;simp only at s2 s3;subst s3;have ei:((i+1:Nat):Int)-1=(i:Nat):=by omega
   refine AZ j6 j8 j9 h2 h3 hz bK hx hw ei ?_;rw[Qv (f:=PV.rat) (y:=z.2) (xs:=F (i+1)) (ty':=57) (fz:=false) (Tz1 bB) a9 Oz (cT _).symm Oz Oz];refine Sz1 j9 ?_;refine Qh (V.length-(i+1+1)) Oz ⟨i+1+1,rfl,by omega,?_⟩;rw[cK,fY,hF];exact Tz3 j7 h2 h3
  ·have mQ:=ZF hs;rw[if_neg hs]at eA fY;rw[eA]at hF;by_cases MU:wL V j=0
   ·refine Sz8 j6 j8 j9 h2 h3 hz MU hx ?_;rw[Qv (f:=PV.rat) (y:=z.1) (xs:=F j) (ty':=57) (fz:=false) (Tz1 bB) a9 Oz (cT _).symm Oz Oz];refine Sz1 j9 ?_;refine Qh (V.length-(j+1)) Oz ⟨j+1,rfl,by omega,?_⟩;rw[cK,fY,hF];exact Tz3 j7 h2 h3
   ·obtain⟨s1,s2⟩:=mQ MU;have EP:j-1<V.length:=by omega
    rw[show cw V (j-1)=V[j-1]from AY EP]at s2;obtain⟨i,rfl⟩:∃i,j=i+1:=⟨j-1,by omega⟩
    simp only[KbZ]at EP s2;generalize hw:V[i]=w at *
    obtain⟨w1,w2,w3⟩:=w;simp only at s2;have ei:((i+1:Nat):Int)-1=(i:Nat):=by omega
    have d0:decide (wL V (i+1)=0)=false:=decide_eq_false MU;have d9:decide (¬(m:Int)=w2)=true:=decide_eq_true s2;refine Cb j6 j8 j9 h2 h3 hz d0 d9 hx hw ei ?_;rw[Qv (f:=PV.rat) (y:=z.1) (xs:=F (i+1)) (ty':=57) (fz:=false) (Tz1 bB) a9 Oz (cT _).symm Oz Oz];refine Sz1 j9 ?_;refine Qh (V.length-(i+1+1)) Oz ⟨i+1+1,rfl,by omega,?_⟩;rw[cK,fY,hF];exact Tz3 j7 h2 h3
 obtain rfl:j=V.length:=by omega
 have cO:List.take V.length ((F V.length).map PV.rat)=(F V.length).map PV.rat:=Kah (by rw[KaJ,cT];exact Kae _);refine Sz2 j6 bB ?_;have zw:Qr h (.ms 900 V.length)=PV.cX (F V.length):=by simp only[Qr,cx,bB,if_neg (show ¬aQ 900=true by decide)];exact congrArg _ cO
 rw[zw];exact bO rfl rfl rfl (Qe _) (Qe _)
theorem Q85{S:List Q3}{G:List Qq}{cs:List Cd}{V:List Vr}{H P:List (List Tm)}{Q:List (List (List Tm))}{x:dD}(hG:rN V S.length)(hV:V.length<=100):
  AC 48 [PV.iA S G cs V H P Q,PV.inst x] (· = .aK [PV.cX (cu S V x),.int .i64 (gX S V x)]):=by
 have h:=Q84 (G:=G) (cs:=cs) (H:=H) (P:=P) (Q:=Q) (x:=x) hG hV;generalize cu S V x=L at *
 generalize gX S V x=e at *
 obtain⟨xv,xb,xp⟩:=x;refine aw Qf func48 aoM fun C hP=>?_;refine aq hP h ?_;refine Sz0 ?_;exact bO rfl rfl rfl (Qe _) (Qe _)
theorem Q3i{a:Rat}{n:Nat}(hB:1+rs a*n<=2^33)(hn:n<=2^40)(ha:rs a<=2^33):AC 119 [PV.rat a,.int .i64 n] (· =PV.rat (cQ a n)):=by
 have h1:=vh;have gJ:((1:Int):Rat)=1:=rfl;refine aw Qf func119 ajq fun C hP=>?_;refine aq hP (Lw (x:=1) Oz Oz) ?_;refine Sz0 ?_;refine Qm kv [(1,1),(7,21)] [] (fun m J hp=>∃x o:Rat,m<=n/\rs o+rs x*m<=2^33/\o*cQ x m=cQ a n/\J 1= .int .i64 (m:Nat)/\hp 2=some ⟨3,57,[PV.rat x],false⟩/\hp 4=some ⟨3,57,[.agg [.bool false,.ab,.ab]],false⟩/\hp 5=some ⟨3,57,[PV.rat o],false⟩) n ?_ ?_
 ·refine⟨a,((1:Int):Rat),by omega,by rw[gJ];omega,by rw[gJ];grind,?_⟩;refine Sz0 ?_;rfl
 rintro m J h ⟨x,o,hm,dw,hq,hJ,ix,ew,ez⟩;refine Sz1 @hJ ?_;refine Qa (fun hg=>?_) (fun hg=>?_)
 ·have hx:rs x<=rs x*m:=Kce _ Oz;have e2:(2:Int)=((2:Nat):Int):=rfl;have oS:∀d fr hp K,cn .rem false (.int .i64 (m:Int)) (.int .i64 2) d fr hp K=K (ae fr d (.int .i64 ((m%2:Nat):Int))) hp:=fun d fr hp K=>by rw[e2,qx Oz]
  have oR:∀d fr hp K,cn .quo false (.int .i64 (m:Int)) (.int .i64 2) d fr hp K=K (ae fr d (.int .i64 ((m/2:Nat):Int))) hp:=fun d fr hp K=>by rw[e2,HW Oz Oz]
  have zd:=fw x x;have hom:=fw o x;have oJ:rs (x*x)*(m/2)<=rs x*(2*(m/2)):=by rw[<-Nat.mul_assoc];exact Kam _ Oz
  refine Sz5 @hJ ix ez oS oR ?_;refine Qa (fun h2=>?_) (fun h2=>?_)
  ·have avj:m%2=1:=by omega
   have NX:o*x*cQ (x*x) (m/2)=cQ a n:=by rw[<-hq,<-TO avj];grind
   have NY:m=1->o*x*cQ x (1/2)=cQ a n:=fun h=>by rw[<-hq,h];show o*x*1=o*cQ x 1;rw[ahv];grind
   have sB:rs x*m=rs x*(2*(m/2))+rs x:=by rw[show m=2*(m/2)+1 by omega,Ka0,Kcn];congr 2;omega
   refine lX @hJ ix ez oS oR hP (qD (a:=o) (b:=x) (k:=2^33) Oz Oz Oz) ?_;refine Sz5 @hJ ix ez oS oR ?_;refine Qa (fun h3=>?_) (fun h3=>?_)
   ·refine lX @hJ ix ez oS oR hP (qD (a:=x) (b:=x) (k:=2^33) Oz Oz Oz) ?_;refine Sz5 @hJ ix ez oS oR ?_;refine Qh (m/2) Oz ⟨x*x,o*x,by omega,by omega,NX,?_⟩;exact Tz3 ix ew ez
   ·obtain rfl:m=1:=by omega
    refine Sz5 @hJ ix ez oS oR ?_;refine Qh (1/2) Oz ⟨x,o*x,by omega,by omega,(NY rfl),?_⟩;exact Tz3 ix ew ez
  ·have auw:m%2=0:=by omega
   have NX:o*cQ (x*x) (m/2)=cQ a n:=by rw[<-hq,<-TD auw]
   have NY:m=1->o*cQ x (1/2)=cQ a n:=fun h=>by omega
   have sB:rs x*m=rs x*(2*(m/2)):=by congr 1;omega
   refine Sz5 @hJ ix ez oS oR ?_;refine Qa (fun h3=>?_) (fun h3=>?_)
   ·refine lX @hJ ix ez oS oR hP (qD (a:=x) (b:=x) (k:=2^33) Oz Oz Oz) ?_;refine Sz5 @hJ ix ez oS oR ?_;refine Qh (m/2) Oz ⟨x*x,o,by omega,by omega,NX,?_⟩;exact Tz3 ix ew ez
   ·obtain rfl:m=1:=by omega
    refine Sz5 @hJ ix ez oS oR ?_;refine Qh (1/2) Oz ⟨x,o,by omega,by omega,(NY rfl),?_⟩;exact Tz3 ix ew ez
 ·obtain rfl:m=0:=by omega
  have kT:o=cQ a n:=by rw[<-hq,Lu];grind
  refine Sz3 ix ew ez ?_;refine bX ?_;refine Sz0 ?_;exact Qc (by rw[kT]) rfl
theorem UC{p:List Tm}{vs:List Rat}{K E W:Nat}(hp:PB K E p)(hv:∀v∈vs,rs v<=W)(hW:1<=W)(hB:1+p.length*(K+64*(1+W*E))+(K+64*(1+W*E))<=2^33)(hE:E<=2^38)(tU:p.length<=2^36)(hlv:vs.length<=2^36):
  AC 84 [PV.ay p,PV.cX vs] (· =vn vs p):=by
 have h0:((0:Int):Rat)=0:=rfl;refine aw Qf func84 am0 fun C hP=>?_;refine Sz0 ?_;refine Qm kv [(5,5),(7,7),(16,27)] [7] (fun n J hp=>∃i,n=p.length-i/\i<=p.length/\(∀t∈p.take i,¬vs.length<t.2.length)/\J 16= .int .i64 (i:Nat)/\hp 4=some ⟨3,57,[.agg [.bool false,.ab,.ab]],false⟩) p.length ?_ ?_
 ·refine⟨0,rfl,by omega,by simp,?_⟩;refine Sz0 ?_;rfl
 rintro _ J h ⟨i,rfl,hi,h1,IJ,ew⟩;refine Sz1 IJ ?_;refine Qa (fun hg=>?_) (fun hg=>?_)
 ·have aE:i<p.length:=by omega
  have fu:=hp.get aE;have tV:=Kag aE;have cO:p.take (i+1)=p.take i++[p[i]]:=Kar aE;generalize hx:p[i]=x at *
  have zc:=fu.m.len;have htr:=PR fu.l;refine cR IJ hx hP (Q4k (a:=x.2) Oz) ?_;rw[htr];refine Sz2 IJ hx ?_;refine Qa (fun hc=>?_) (fun hc=>?_)
  ·have ho:iI vs p=true:=by unfold iI;rw[KaU];exact⟨x,tV,decide_eq_true Oz⟩
   refine Sz1 ew ?_;refine iW ?_;refine Sz0 ?_;exact bO (p':=PV.rr false [] []) (q':=.int .i64 2) (by rw[vn,if_pos ho]) rfl rfl ⟨rfl,trivial,trivial,trivial⟩ (Qe _)
  ·refine Sz1 IJ ?_;refine Qh (p.length-(i+1)) Oz ⟨i+1,rfl,by omega,?_,?_⟩
   ·rw[cO];intro z hz;rcases KaS.1 hz with hz|hz
    ·exact h1 z hz
    ·simp only[Kay]at hz;subst hz;omega
   ·exact Tz1 ew
 ·obtain rfl:i=p.length:=by omega
  rw[Kba]at h1;have ho:iI vs p=false:=by unfold iI;rw[KcI];intro t ht;simpa using h1 t ht
  refine pP ew hP (Lw (x:=0) Oz Oz) ?_;refine Sz1 ew ?_;refine Qm kv [(10,13),(31,59)] [10,11] (fun n J hp=>∃i,n=p.length-i/\i<=p.length/\J 31= .int .i64 (i:Nat)/\hp 4=some ⟨3,57,[.agg [.bool false,.ab,.ab]],false⟩/\hp 8=some ⟨3,57,[PV.rat (eC vs (p.take i))],false⟩) p.length ?_ ?_
  ·refine⟨0,rfl,by omega,?_⟩;refine Sz1 ew ?_;exact⟨rfl,rfl⟩
  rintro _ J1 gJ ⟨i,rfl,Jj,oF,EV,y7⟩;refine Sz1 oF ?_;refine Qa (fun nP=>?_) (fun nP=>?_)
  ·have aE:i<p.length:=by omega
   have fu:=hp.get aE;have eS:=h1 _ (Kag aE);have cO:=K9 (vs:=vs) aE;have hrp:=HD hp hv hW i Oz;generalize hx:p[i]=x at *
   have zc:=fu.m.len;have FB:=fu.c;have avb:i*(K+64*(1+W*E))<=p.length*(K+64*(1+W*E)):=Kam _ Jj;have Fb:=fun j=>H2 (vs:=vs) fu.m hv hW x.1 j;have ET:∀j,j<=x.2.length->j*(1+W*E)<=64*(1+W*E):=fun j hj=>Kam _ Oz;refine Sz2 oF hx ?_;refine Qm kv [(12,13),(40,55)] [] (fun n J hp=>∃j,n=x.2.length-j/\j<=x.2.length/\J 40= .int .i64 (j:Nat)/\hp 4=some ⟨3,57,[.agg [.bool false,.ab,.ab]],false⟩/\hp 8=some ⟨3,57,[PV.rat (eC vs (p.take i))],false⟩/\hp 11=some ⟨3,57,[PV.rat (x.1*fS vs x.2 j)],false⟩) x.2.length ?_ ?_
   ·refine⟨0,rfl,by omega,?_⟩;have e0:x.1*fS vs x.2 0=x.1:=by show x.1*1=x.1;grind
    rw[e0];refine Sz2 EV y7 ?_;rfl
   rintro _ J2 h2 ⟨j,rfl,hj,tL,tS,tT,oP⟩;refine Sz1 tL ?_;refine Qa (fun jh=>?_) (fun jh=>?_)
   ·have aT:j<x.2.length:=by omega
    have tR:=nq aT;have NJ:=fu.m.eN j;have xB:fS vs x.2 (j+1)=fS vs x.2 j*cQ (vs.getD j 0) (eN x.2 j).toNat:=rfl;generalize hy:x.2[j]=y at *
    obtain⟨m,rfl⟩:∃m:Nat,y=m:=⟨y.toNat,by omega⟩
    rw[tR,Kbs]at xB;rw[tR]at NJ;refine Sz2 tL hy ?_;refine Qa (fun hz=>?_) (fun hz=>?_)
    ·have EU:j<vs.length:=by omega
     have Oc:vs.getD j 0=vs[j]:=by simp[Kac,EU]
     have Oe:=hv _ (Kag EU);rw[Oc]at xB;generalize eA:vs[j]=v at *
     have Fy:rs v*m<=W*E:=KbU Oe Oz;have zy:rs v<=rs v*m:=Kce _ Oz;have hqp:=Dh v m;have vG:=Fb j;have sB:=ET j hj;refine jF tL hy oP eA hP (Q3i (a:=v) (n:=m) Oz Oz Oz) ?_;refine jF tL hy oP eA hP (qD (a:=x.1*fS vs x.2 j) (b:=cQ v m) (k:=2^33) Oz Oz Oz) ?_;refine Sz4 tL hy oP eA ?_;refine Qh (x.2.length-(j+1)) Oz ⟨j+1,rfl,by omega,?_⟩;have e1:x.1*fS vs x.2 (j+1)=x.1*fS vs x.2 j*cQ v m:=by rw[xB];grind
     rw[e1];exact Tz2 tS tT
    ·obtain rfl:m=0:=by omega
     refine Sz2 tL hy ?_;refine Qh (x.2.length-(j+1)) Oz ⟨j+1,rfl,by omega,?_⟩;have e1:x.1*fS vs x.2 (j+1)=x.1*fS vs x.2 j:=by rw[xB,Lu];grind
     rw[e1];exact Tz3 tS tT oP
   ·obtain rfl:j=x.2.length:=by omega
    have vG:=Fb x.2.length;have sB:=ET x.2.length (Kae _);have Fk:=pw (eC vs (p.take i)) (x.1*qn vs x.2);rw[show fS vs x.2 x.2.length=qn vs x.2 from rfl]at oP vG;refine jF oF tL tT oP hP (Gl (a:=eC vs (p.take i)) (b:=x.1*qn vs x.2) (k:=2^33) Oz Oz Oz) ?_;refine Sz4 oF tL tT oP ?_;simp (disch:=decide) only[mu,uJ];refine Qh (p.length-(i+1)) Oz ⟨i+1,rfl,by omega,?_⟩;rw[cO];exact Tz1 tS
  ·obtain rfl:i=p.length:=by omega
   rw[Kba]at y7;refine Sz2 EV y7 ?_;refine iW ?_;refine Sz0 ?_;exact bO (by rw[vn,if_neg (by simp[ho])]) rfl rfl (Qe _) (Qe _)
theorem Qz0(n:Nat):∀(a:Rat),rs a*n<=2^32->n<=2^40->AC 127 [PV.rat a,.int .i64 n] (· =PV.rat (cQ a n)):=by
 have h1:=vh;have gJ:((1:Int):Rat)=1:=rfl;induction n using Nat.strongRecOn with
 | ind n ih=>
  intro a hB hn;have e2:(2:Int)=((2:Nat):Int):=rfl;have oS:∀d fr hp K,cn .rem false (.int .i64 (n:Int)) (.int .i64 2) d fr hp K=K (ae fr d (.int .i64 ((n%2:Nat):Int))) hp:=fun d fr hp K=>by rw[e2,qx Oz]
  have oR:∀d fr hp K,cn .quo false (.int .i64 (n:Int)) (.int .i64 2) d fr hp K=K (ae fr d (.int .i64 ((n/2:Nat):Int))) hp:=fun d fr hp K=>by rw[e2,HW Oz Oz]
  refine aw Qf func127 ajw fun C hP=>?_;refine Sz0 ?_;refine Qa (fun h0=>?_) (fun h0=>?_)
  ·obtain rfl:n=0:=by omega
   refine aq hP (Ab (x:=1) Oz Oz) ?_;refine Sz0 ?_;refine bX ?_;refine Sz0 ?_;exact Qc rfl rfl
  have ha:rs a<=rs a*n:=Kce _ Oz;have zd:=fw a a;have oJ:rs (a*a)*(n/2)<=rs a*(2*(n/2)):=by rw[<-Nat.mul_assoc];exact Kam _ Oz
  have hd3:rs a*(2*(n/2))<=rs a*n:=Kbf _ Oz;have N1:=Dh (a*a) (n/2);refine cR oS oR hP (pj (a:=a) (b:=a) (k:=2^33) Oz Oz Oz) ?_;refine cR oS oR hP (ih (n/2) Oz (a*a) Oz Oz) ?_;refine Sz2 oS oR ?_;refine Qa (fun h2=>?_) (fun h2=>?_)
  ·refine aq hP (pj (a:=cQ (a*a) (n/2)) (b:=a) (k:=2^33) Oz Oz Oz) ?_;refine Sz0 ?_;refine bX ?_;refine Sz0 ?_;exact Qc (by rw[TO Oz]) rfl
  ·refine Sz0 ?_;refine bX ?_;refine Sz0 ?_;exact Qc (by rw[TD Oz]) rfl
theorem Q3j{p:List Tm}{vs:List Rat}{K E W:Nat}(hp:PB K E p)(hv:∀v∈vs,rs v<=W)(hW:1<=W)(hB:1+p.length*(K+64*(1+W*E))+(K+64*(1+W*E))<=2^33)(hE:E<=2^38)(tU:p.length<=2^36)(hlv:vs.length<=2^36):
  AC 89 [PV.ay p,PV.cX vs] (· =vn vs p):=by
 have h0:((0:Int):Rat)=0:=rfl;refine aw Qf func89 am3 fun C hP=>?_;refine aq hP (Ab (x:=0) Oz Oz) ?_;refine Sz0 ?_;refine Qm okB [(5,5),(7,7),(12,27)] [] (fun n J hp=>∃i,n=p.length-i/\i<=p.length/\(∀t∈p.take i,¬vs.length<t.2.length)/\J 7= .int .i64 (i:Nat)/\hp 4=some ⟨3,57,[.agg [.bool false,.ab,.ab]],false⟩/\hp 6=some ⟨3,57,[PV.rat 0],false⟩) p.length ?_ ?_
 ·refine⟨0,rfl,by omega,by simp,?_⟩;refine Sz0 ?_;exact⟨rfl,rfl⟩
 rintro _ J h ⟨i,rfl,hi,h1,h7,ew,NF⟩;refine Sz1 h7 ?_;refine Qa (fun hg=>?_) (fun hg=>?_)
 ·have aE:i<p.length:=by omega
  have fu:=hp.get aE;have tV:=Kag aE;have cO:p.take (i+1)=p.take i++[p[i]]:=Kar aE;generalize hx:p[i]=x at *
  have zc:=fu.m.len;refine Sz2 h7 hx ?_;refine Qa (fun hc=>?_) (fun hc=>?_)
  ·have ho:iI vs p=true:=by unfold iI;rw[KaU];exact⟨x,tV,decide_eq_true Oz⟩
   refine Sz1 ew ?_;refine iW ?_;refine Sz0 ?_;exact bO (p':=PV.rr false [] []) (q':=.int .i64 2) (by rw[vn,if_pos ho]) rfl rfl ⟨rfl,trivial,trivial,trivial⟩ (Qe _)
  ·refine Sz1 h7 ?_;refine Qh (p.length-(i+1)) Oz ⟨i+1,rfl,by omega,?_,?_⟩
   ·rw[cO];intro z hz;rcases KaS.1 hz with hz|hz
    ·exact h1 z hz
    ·simp only[Kay]at hz;subst hz;omega
   ·exact Tz2 ew NF
 ·obtain rfl:i=p.length:=by omega
  rw[Kba]at h1;have ho:iI vs p=false:=by unfold iI;rw[KcI];intro t ht;simpa using h1 t ht
  refine Sz2 ew NF ?_;refine Qm okB [(8,10),(28,66)] [9] (fun n J hp=>∃i,n=p.length-i/\i<=p.length/\J 8= .int .i64 (i:Nat)/\hp 4=some ⟨3,57,[.agg [.bool false,.ab,.ab]],false⟩/\hp 6=some ⟨3,57,[PV.rat (eC vs (p.take i))],false⟩) p.length ?_ ?_
  ·refine⟨0,rfl,by omega,?_⟩;refine Sz2 ew NF ?_;exact⟨rfl,rfl⟩
  rintro _ J1 gJ ⟨i,rfl,Jj,h8,EV,y7⟩;refine Sz1 h8 ?_;refine Qa (fun nP=>?_) (fun nP=>?_)
  ·have aE:i<p.length:=by omega
   have fu:=hp.get aE;have eS:=h1 _ (Kag aE);have cO:=K9 (vs:=vs) aE;have hrp:=HD hp hv hW i Oz;generalize hx:p[i]=x at *
   have zc:=fu.m.len;have FB:=fu.c;have avb:i*(K+64*(1+W*E))<=p.length*(K+64*(1+W*E)):=Kam _ Jj;have Fb:=fun j=>H2 (vs:=vs) fu.m hv hW x.1 j;have ET:∀j,j<=x.2.length->j*(1+W*E)<=64*(1+W*E):=fun j hj=>Kam _ Oz;refine Sz2 h8 hx ?_;refine Qm okB [(10,10),(39,63)] [] (fun n J hp=>∃j,n=x.2.length-j/\j<=x.2.length/\J 10= .int .i64 (j:Nat)/\hp 4=some ⟨3,57,[.agg [.bool false,.ab,.ab]],false⟩/\hp 6=some ⟨3,57,[PV.rat (eC vs (p.take i))],false⟩/\hp 9=some ⟨3,57,[PV.rat (x.1*fS vs x.2 j)],false⟩) x.2.length ?_ ?_
   ·refine⟨0,rfl,by omega,?_⟩;have e0:x.1*fS vs x.2 0=x.1:=by show x.1*1=x.1;grind
    rw[e0];refine Sz2 EV y7 ?_;rfl
   rintro _ J2 h2 ⟨j,rfl,hj,du,tS,tT,oP⟩;refine Sz3 h8 du hx ?_;refine Qa (fun jh=>?_) (fun jh=>?_)
   ·have aT:j<x.2.length:=by omega
    have tR:=nq aT;have NJ:=fu.m.eN j;have xB:fS vs x.2 (j+1)=fS vs x.2 j*cQ (vs.getD j 0) (eN x.2 j).toNat:=rfl;generalize hy:x.2[j]=y at *
    obtain⟨m,rfl⟩:∃m:Nat,y=m:=⟨y.toNat,by omega⟩
    rw[tR,Kbs]at xB;rw[tR]at NJ;have EU:j<vs.length:=by omega
    have Oc:vs.getD j 0=vs[j]:=by simp[Kac,EU]
    have Oe:=hv _ (Kag EU);rw[Oc]at xB;generalize eA:vs[j]=v at *
    have Fy:rs v*m<=W*E:=KbU Oe Oz;have hqp:=Dh v m;have vG:=Fb j;have sB:=ET j hj;refine Sz6 h8 du hx hy oP eA ?_;refine Qo hP (Qz0 m v Oz Oz) ?_;refine Sz6 h8 du hx hy oP eA ?_;refine Qo hP (pj (a:=x.1*fS vs x.2 j) (b:=cQ v m) (k:=2^33) Oz Oz Oz) ?_;refine Sz6 h8 du hx hy oP eA ?_;refine Qh (x.2.length-(j+1)) Oz ⟨j+1,rfl,by omega,?_⟩;have e1:x.1*fS vs x.2 (j+1)=x.1*fS vs x.2 j*cQ v m:=by rw[xB];grind
    rw[e1];exact Tz2 tS tT
   ·obtain rfl:j=x.2.length:=by omega
    have vG:=Fb x.2.length;have sB:=ET x.2.length (Kae _);have Fk:=pw (eC vs (p.take i)) (x.1*qn vs x.2);rw[show fS vs x.2 x.2.length=qn vs x.2 from rfl]at oP vG;refine jF h8 du tT oP hP (C1 (a:=eC vs (p.take i)) (b:=x.1*qn vs x.2) (k:=2^33) Oz Oz Oz) ?_;refine Sz4 h8 du tT oP ?_;simp (disch:=decide) only[mu,uJ];refine Qh (p.length-(i+1)) Oz ⟨i+1,rfl,by omega,?_⟩;rw[cO];exact Tz1 tS
  ·obtain rfl:i=p.length:=by omega
   rw[Kba]at y7;refine Sz2 EV y7 ?_;refine iW ?_;refine Sz0 ?_;exact bO (by rw[vn,if_neg (by simp[ho])]) rfl rfl (Qe _) (Qe _)
end Go.Proofs.YtmkijkjaeljieaaGreat
namespace Go.FW
open Go
theorem Q40(vs:List Rat)(a:Rat):eC vs (dz a)=a:=by unfold eC;rw[K8];exact Rat.mul_one a
theorem Vv{t:Tm}:∀ {p:List Tm},jQ p->t∈p->cy (ind t.2) p=t.1
 | [],_,h=>by cases h
 | a::p,hs,h=>by
  rcases KaH.1 h with rfl|h
  ·exact xW hs
  ·have h1:=AO (hs.1 t h);rw[fP,Vv hs.2 h,ind,if_neg (fun e=>h1 e.symm)];grind
theorem QE{vs:List Rat}{p:List Tm}(hn:bN p):iI vs p=true↔∃m:List Int,vs.length<m.length/\cy (ind m) p≠0:=by
 constructor
 ·intro h;obtain⟨t,ht,hd⟩:=KaU.1 h;exact⟨t.2,of_decide_eq_true hd,by rw[Vv hn.s ht];exact hn.z t ht⟩
 ·rintro⟨m,h1,h2⟩;have:¬∀t∈p,t.2≠m:=fun h=>h2 (Cs h);obtain⟨t,ht⟩:=Classical.not_forall.1 this;obtain⟨ht1,Jy⟩:=Classical.not_imp.1 ht;have e:t.2=m:=Classical.not_not.1 Jy;exact KaU.2 ⟨t,ht1,decide_eq_true (by rw[e];exact h1)⟩
theorem ah4{vs:List Rat}{p:List Tm}(hn:bN p)(a:Rat):iI vs (bF p (dz a))=iI vs p:=by
 have h:iI vs (bF p (dz a))=true↔iI vs p=true:=by
  rw[QE (PZ hn (xT a)),QE hn];have e:∀m:List Int,vs.length<m.length->cy (ind m) (bF p (dz a))=cy (ind m) p:=fun m hm=>by rw[LU _ hn.c (xT a),K8,ind,if_neg (fun e=>by rw[<-e]at hm;simp at hm)];grind
  exact⟨fun⟨m,h1,h2⟩=>⟨m,h1,by rw[<-e m h1];exact h2⟩,fun⟨m,h1,h2⟩=>⟨m,h1,by rw[e m h1];exact h2⟩⟩
 cases h1:iI vs p<;>cases h2:iI vs (bF p (dz a))<;>simp_all
theorem afH{vs:List Rat}{p:List Tm}(hn:bN p)(a:Rat):eC vs (bF p (dz a))=eC vs p-a:=by rw[eC,LU _ hn.c (xT a)];have:=Q40 vs a;rw[eC]at this;rw[this];rfl
def dU(vs:List Rat)(p:List Tm):Bool:= !iI vs p&&decide (eC vs p=0)
def kM(vs:List Rat)(p:List Tm)(a:Rat):Bool:= !iI vs p&&decide (eC vs p=a)
theorem ah5{vs:List Rat}{p:List Tm}(hn:bN p)(a:Rat):dU vs (bF p (dz a))=kM vs p a:=by unfold dU kM;rw[ah4 hn,afH hn];congr 1;exact decide_eq_decide.2 ⟨fun h=>by grind,fun h=>by grind⟩
theorem RK(v k:Nat):eN (jX v) k=if k=v then 1 else 0:=by
 unfold eN jX;rw[Kac];by_cases h:k<v
 ·rw[KbA (by simpa using h),List.getElem?_replicate,if_pos h,if_neg (by omega)];rfl
 ·rw[Kbm (by simp;omega),List.length_replicate];by_cases e:k=v
  ·subst e;simp
  ·rw[if_neg e,Kb8 (by simp;omega)];rfl
theorem QF(vs:List Rat)(v:Nat):∀n,n<=v->fS vs (jX v) n=1
 |0,_=>rfl
 |n+1,h=>by show fS vs (jX v) n*cQ _ _=1;rw[QF vs v n (by omega),RK,if_neg (by omega)];show(1:Rat)*1=1;grind
theorem al6(vs:List Rat)(v:Nat):qn vs (jX v)=vs.getD v 0:=by
 unfold qn;have hl:(jX v).length=v+1:=by simp[jX]
 rw[hl];show fS vs (jX v) v*cQ (vs.getD v 0) (eN (jX v) v).toNat=_;rw[QF vs v v (Kae _),RK,if_pos rfl];show(1:Rat)*cQ (vs.getD v 0) 1=_;have:cQ (vs.getD v 0) 1=vs.getD v 0:=by
  show _*_=_
  try simp[cQ]
  try grind
 rw[this];grind
theorem RL{vs:List Rat}{v:Nat}(h:v<vs.length)(h64:v<64):kM vs (cq (v:Nat)) (vs.getD v 0)=true:=by
 unfold cq;rw[if_neg (by omega)];unfold kM;have h1:iI vs [(1,jX v)]=false:=by unfold iI;simp[jX];omega
 have h2:eC vs [(1,jX v)]=vs.getD v 0:=by rw[eC,fP,lR,al6];grind
 simp only[Kbs];rw[h1,decide_eq_true h2];rfl
end Go.FW
