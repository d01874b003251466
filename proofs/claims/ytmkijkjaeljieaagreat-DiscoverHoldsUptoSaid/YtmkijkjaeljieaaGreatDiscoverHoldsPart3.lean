/- Part 3 of the proof of DiscoverHolds: FwK, FwL, FwLN, FwM, FwN, FwO, FwP, FwQ, FwR, FwS, FwT, FwU, FwV, FwW, FwX, FwY, FwZ, FwBA, FwBB, FwBC, FwBD, FwBE, FwBF, FwBG, FwBH, FwCA, FwCB, FwCC, FwCD, FwCE, FwCF, FwCG, FwCH, FwCI. Own lemmas; no conditions. -/
import Derived.Test.YtmkijkjaeljieaaGreatDiscoverHoldsPart2
import Derived.Deep.RegionHeld3
import Derived.LoopN
set_option maxHeartbeats 1000000
set_option linter.unusedSimpArgs false
set_option linter.unusedVariables false
set_option linter.unnecessarySimpa false
set_option maxRecDepth 100000
namespace Go.FW
open Go
variable {C : Ctx} {ρ : Nat -> Option Nat} {fr : Fr} {hp : HP} {w : World} {a : Act} {K : Qg}
theorem UG(n:Nat):∀(xs:List (List PV))(s:Nat)(pre rest:List PV),(∀x∈xs,x.length=n)->pre.length=s*n->rest.length=xs.length*n->
  iD (pre++rest) ((xs.zipIdx s).map fun p=>(p.2*n,p.1))=pre++xs.flatten
 | [],s,pre,rest,_,_,hr=>by simp at hr;subst hr;simp[iD]
 | x::xs,s,pre,rest,hx,hp,hr=>by
  have JD:=hx x (by simp);simp only[List.zipIdx_cons,Kbn,iD];have e1:(pre++rest).take (s*n)=pre:=by rw[<-hp];exact List.take_left
  have e2:(pre++rest).drop (s*n+x.length)=rest.drop n:=by rw[JD,<-hp,<-List.drop_drop,List.drop_left]
  rw[e1,e2];have hlen:(pre++x).length=(s+1)*n:=by simp[hp,JD,KaM]
  have zr:(rest.drop n).length=xs.length*n:=by simp[hr,KaM]
  rw[UG n xs (s+1) (pre++x) (rest.drop n) (fun y hy=>hx y (by simp[hy])) hlen zr];simp
theorem Pm{n:Nat}(hn:0<n):∀(xs:List (List PV))(i j:Nat)(x:List PV)(y:PV),(∀x∈xs,x.length=n)->xs[i]? =some x->x[j]? =some y->xs.flatten[i*n+j]? =some y
 | [],i,j,x,y,_,h,_=>by simp at h
 |z::xs,0,j,x,y,hl,h,hy=>by simp at h;subst h;have hj:j<z.length:=(Kaf.1 hy).1;simp only[List.flatten_cons,Kb3,Ka1];rw[KbA hj];exact hy
 |z::xs,i+1,j,x,y,hl,h,hy=>by simp at h;have hz:=hl z (by simp);simp only[List.flatten_cons];rw[Kbm (by rw[hz,KaM];omega)];rw[show(i+1)*n+j-z.length=i*n+j by rw[hz,KaM];omega];exact Pm hn xs i j x y (fun q hq=>hl q (by simp[hq])) h hy
theorem Qzo{parts:List (Nat×Operand)}{len i:Nat}{p:Nat×Operand}(h:parts.map (·.1)=List.range len)(hp:parts[i]? =some p):p.1=i:=by
 have h1:(parts.map (·.1))[i]? =some p.1:=by simp[hp]
 rw[h]at h1;have hi:i<len:=by have:=(Kaf.1 h1).1;simpa using this
 rw[KcM hi]at h1;simp at h1;exact h1.symm
theorem Q9v{X:Nat->Prop}{e:TypeId}{n N by_:Nat}{z:PV}{zv:Value}(i5:uF zv=some z)(hz:z.cells.length=n)(hn:0<n):
  Rows w X ((List.range N).map fun k=>z.cells.getD (k%n) .undef) ((Array.range N).map (zv.cells[· %zv.cells.size]!)):=by
 have qU:=(uA (w:=w) (X:=X) i5).cells;refine⟨by simp,fun i x hx=>?_⟩;have hi:i<N:=by have:=(Kaf.1 hx).1;simpa using this
 simp only[Kao,KcM hi,KbT,KaD]at hx;have hm:i%n<z.cells.length:=by rw[hz];exact KbC _ hn
 have aX:z.cells[i%n]? =some x:=by rw[<-hx];simp[hm]
 have:=qU.2 _ x aX;have hs:zv.cells.size=n:=by rw[qU.1];exact hz
 have sB:i%n<zv.cells.size:=by omega
 have e2:((Array.range N).map (zv.cells[· %zv.cells.size]!)).getD i undef=zv.cells.getD (i%n) undef:=by have ZM:i%n<n:=KbC _ hn;simp[Array.getD,hi,hs,ZM,getElem!_def,Kbj sB]
 rw[e2];exact this
theorem afW{o:Oper}{t e:TypeId}{len n by_:Nat}{z:PV}{parts:Array (Nat×Operand)}{ps:List aM}{d:Nat}{Q:Exit->Act->World->Prop}(ho:o.op= .buildSlice t len parts)(hd:o.dst=some d)(ao:d<C.N)(aZ:a.defers=[])(h:Qt C ρ fr hp a.tmps w)
  (hu:C.P.underlying t=some (.slice e)) (hz:ln C.P e=some (n,by_,z)) (vL:parts.toList.map (·.1)=List.range len) (aaj:len*n<=16777216) (lJ:z.cells.length=n) (fZ:(parts.toList.mapM fun p=>cj p.2)=some ps)
  (hv:DU n e (ps.map (ev fr)) d fr hp K):o.wp C.P a w (cY C true w K) Q:=by
 obtain⟨h0,bd,hK⟩:=hv;obtain⟨ti,zv,i1,i2,i3,i4,i5⟩:=uG hz;obtain⟨m1,m2⟩:=nh fZ;have hlen:parts.toList.length=len:=by have:=congrArg List.length vL;simpa using this
 have ej:ps.length=len:=by omega
 let xs:List (List PV):=(ps.map (ev fr)).map fun p=>(Qr hp p).cells
 have eS:∀x∈xs,x.length=n:=by intro x hx;simp only[xs,KaA]at hx;obtain⟨p,⟨q,hq,rfl⟩,rfl⟩:=hx;exact(bd _ (KaA.2 ⟨q,hq,rfl⟩)).2
 have Oi:xs.length=len:=by simp[xs,ej]
 have tP:(parts.map fun(x:Nat×Operand)=>(x.1,a.eval x.2)).toList=parts.toList.map fun x=>(x.1,a.eval x.2):=by simp
 have XQ:Rows w (aI C ρ (Q6 hp ((ps.map (ev fr)).flatMap PV.refs))) ((List.range (len*n)).map fun k=>z.cells.getD (k%n) .undef) ((Array.range (len*n)).map ((if len*n=0 then(#[]:Array Value)else zv.cells)[· %(if len*n=0 then(#[]:Array Value)else zv.cells).size]!)):=by
  by_cases su:len*n=0
  ·rw[if_pos su,su];exact⟨by simp,by simp⟩
  ·rw[if_neg su];exact Q9v (e:=e) (by_:=by_) i5 lJ h0
 obtain⟨eL,g1,g2⟩:=G9 (fun i=>some (i*n,n)) (parts.toList.map fun x=>(x.1,a.eval x.2)) ((xs.zipIdx 0).map fun p=>(p.2*n,p.1)) _ _ XQ (by simp[Oi,hlen]) (fun i p q BO xD=>by
  simp only[Kao,Kaa]at BO xD;obtain⟨x,hx,rfl⟩:=BO;obtain⟨q0,ma,rfl⟩:=xD;rw[List.getElem?_zipIdx]at ma;simp only[Kaa]at ma;obtain⟨y,hy,rfl⟩:=ma;simp only[Ka1];have hyn:=eS y (Kai hy);simp only[xs,Kao,Kaa]at hy;obtain⟨pv,⟨u,nV,rfl⟩,rfl⟩:=hy;obtain⟨x',aX,dv⟩:=m2 i u nV;rw[hx]at aX;cases aX;have hi:i<len:=by have:=(Kaf.1 hx).1;omega
  obtain⟨o1,o2⟩:=bd (ev fr u) (KaA.2 ⟨u,Kai nV,rfl⟩);refine⟨by rw[Qzo vL hx,hyn],(s9 h (cP h dv) (fun O aj=>Kaq.2 ⟨_,KaA.2 ⟨u,Kai nV,rfl⟩,aj⟩) o1).rows,?_⟩;rw[hyn];simp;have:(i+1)*n<=len*n:=Kam n hi;rw[KaM]at this;omega)
 have Ny:=UG n xs 0 [] ((List.range (len*n)).map fun k=>z.cells.getD (k%n) .undef) eS (by simp) (by simp[Oi]);simp only[Kau]at Ny;rw[Ny]at g2;have X7:xs.flatten.length=len*n:=by
  have:=g2.1;have hb:=XQ.1;have h2:iD ((List.range (len*n)).map fun k=>z.cells.getD (k%n) .undef) ((xs.zipIdx 0).map fun p=>(p.2*n,p.1))=xs.flatten:=Ny;rw[List.length_flatten];have:xs.map List.length=List.replicate xs.length n:=by apply List.ext_getElem (by simp);intro i h1 h2;simp only[KbJ,List.getElem_replicate];exact eS _ (Kag _)
  rw[this,List.sum_replicate_nat,Oi]
 have me:eL.size=len*n:=by rw[g2.1,X7]
 obtain⟨hs,he⟩:=(h.freeze ((ps.map (ev fr)).flatMap PV.refs)).JN d (AU ao) ⟨n,e,(ps.map (ev fr)).map (Qr hp),false⟩ eL len _ (.inl rfl) me (by simp[ej]) (by rw[ni];have:len*1<=len*n:=Kbf len h0;omega) h0
  (fun i x hx=>by simp only[Kao,Kaa]at hx;obtain⟨p,⟨u,nV,rfl⟩,rfl⟩:=hx;obtain⟨o1,o2⟩:=bd (ev fr u) (KaA.2 ⟨u,Kai nV,rfl⟩);exact⟨o2,o1⟩)
  (fun i x hx j y hy=>by refine g2.2 _ y (Pm h0 xs i j x.cells y eS ?_ hy);simp only[Kao,Kaa,xs]at hx⊢;obtain⟨p,cK,rfl⟩:=hx;exact⟨p,cK,rfl⟩)
 refine js (v:=.slice (some ⟨w.heap.size,0,none⟩) len len) ?_ (cY.mo hd ao aZ hs (fun _=>he) ?_ hK)
 ·unfold execOp;have hsm:¬(len*n>2^24):=by omega
  have NV:(parts.map fun x=>match x with|(i,x)=>(i,a.eval x)).toList=parts.toList.map fun x=>(x.1,a.eval x.2):=tP;simp only[ho,Instr.buildSlice,Kal,Q9 hu,Kaj,mz (show eV C.P e=some n by simp[eV,i1,i3]),if_neg hsm,NV];by_cases su:len*n=0
  ·simp only[if_pos su]at g1⊢;simp only[KaW,Kaj,Kal,g1,newRow];simp
  ·simp only[if_neg su]at g1⊢;simp only[KaW,Kaj,Kal,xQ i1 i2,g1,newRow];simp
 ·rw[show(ps.map (ev fr)).length=len by simp[ej]];exact Td (by simp[ej]) (n6 w _) me (by rw[ni];have:len*1<=len*n:=Kbf len h0;omega)
theorem Ct(w:World)(b:Nat)(cur:Array Value):Ext (fun c=>c=b) w (w.setRow b cur):=
 ⟨rfl,rfl,rfl,by simp,fun k hk hn=>setRow_other w b k _ hn⟩
theorem Cq{cur:Array Value}{p:Nat}{cs:List Value}{k:Nat}(hle:p+cs.length<=cur.size)(hk:k<cur.size):
  ((cur.toList.take p++cs++cur.toList.drop (p+cs.length)).toArray).getD k undef=if p<=k/\k<p+cs.length then cs.getD (k-p) undef else cur.getD k undef:=by
 have cG:k<cur.toList.length:=by simpa using hk
 have ht:(cur.toList.take p).length=p:=by simp;omega
 simp only[KaL,List.getElem?_toArray,Ka8,Kac];rw[Ka3,ht];by_cases c1:k<p
 ·rw[if_pos c1,if_neg (by omega),KaI c1];simp
 ·rw[if_neg c1,Ka3];by_cases c2:k-p<cs.length
  ·rw[if_pos c2,if_pos (by omega)]
  ·rw[if_neg c2,if_neg (by omega),Ka4];rw[show p+cs.length+(k-p-cs.length)=k by omega];simp
theorem Cr{cur:Array Value}{p:Nat}{cs:List Value}(hle:p+cs.length<=cur.size):((cur.toList.take p++cs++cur.toList.drop (p+cs.length)).toArray).size=cur.size:=by simp;omega
theorem TK{P:Program}{t:TypeId}{n b off:Nat}{ty:TypeId}{v:Value}{cur:Array Value}(hn:eV P t=some n)(hs:v.cells.size=n)(hg:w.heap[b]? =some (.cells cur ty (0,0)))(hle:off+n<=cur.size)(h1:∀u∈v.cells.toList,u.oneCell'=true):
  (storeVar t ⟨b,off,none⟩ v).run P w= .ok () (w.setRow b (cur.toList.take off++v.cells.toList++cur.toList.drop (off+n)).toArray):=by
 unfold storeVar;have bq:=run_storeCells_at P b off ty v.cells.toList 0 cur w hg (by simp[hs];omega) h1;simp only[KaP,Kcm,hs]at bq;have bz:¬(v.cells.size≠n):=by simp[hs]
 simp only[Kal,mz hn,Kaj,if_neg bz];exact bq
theorem afX{x:PV}{o:Nat}{v:PV}{j:Nat}(hl:o+v.cells.length<=x.cells.length)(hj:j<x.cells.length):
  (uh x o v).cells[j]? =if o<=j/\j<o+v.cells.length then v.cells[j-o]? else x.cells[j]? :=by
 show(x.cells.take o++v.cells++x.cells.drop (o+v.cells.length))[j]? =_;rw[Ka8];have ht:(x.cells.take o).length=o:=by simp;omega
 rw[Ka3,ht];by_cases c1:j<o
 ·rw[if_pos c1,if_neg (by omega),KaI c1]
 ·rw[if_neg c1,Ka3];by_cases c2:j-o<v.cells.length
  ·rw[if_pos c2,if_pos (by omega)]
  ·rw[if_neg c2,if_neg (by omega),Ka4];rw[show o+v.cells.length+(j-o-v.cells.length)=j by omega]
theorem amc{x:PV}{o:Nat}{v:PV}(hl:o+v.cells.length<=x.cells.length):(uh x o v).cells.length=x.cells.length:=by show(List.take o x.cells++v.cells++List.drop (o+v.cells.length) x.cells).length=_;simp;omega
theorem Pn{e i j m k n:Nat}(hj:j<e)(hk:k+n<=e)(bz:i≠m):¬(m*e+k<=i*e+j/\i*e+j<m*e+k+n):=by
 intro⟨h1,h2⟩;rcases Nat.lt_or_gt_of_ne bz with h|h
 ·have:(i+1)*e<=m*e:=Kam e h;rw[KaM]at this;omega
 ·have:(m+1)*e<=i*e:=Kam e h;rw[KaM]at this;omega
theorem C6{l:List PV}{i k:Nat}{nx x:PV}(h:(l.set i nx)[k]? =some x):(i=k/\x=nx)∨(i≠k/\l[k]? =some x):=by
 by_cases vD:i=k
 ·subst vD;have hi:i<l.length:=by have:=(Kaf.1 h).1;simpa using this
  rw[List.getElem?_set_self hi]at h;cases h;exact .inl ⟨rfl,rfl⟩
 ·rw[List.getElem?_set_ne vD]at h;exact .inr ⟨vD,h⟩
theorem cZ.bg{p:PV}{v:Value}(h:cZ C ρ hp w p v):p.bg=[p]:=by
 cases p with
 |agg=>cases h
 |aP=>cases h
 |_=>rfl
theorem UH{l:List PV}(h:∀c∈l,c.bg=[c]):(gw l).bg=l:=by
 unfold gw;split
 ·exact h _ (by simp)
 ·exact Q3v _
theorem QL{py:PV}{v:Value}{cs:List PV}(h:Qk C ρ hp w py v)(hs:fO py=some cs):v.cells.size=cs.length/\(∀(j:Nat)(y:PV),cs[j]? =some y->cZ C ρ hp w y (v.cells.getD j undef))/\∀u∈v.cells.toList,u.oneCell'=true:=by
 have one:∀ {p:PV},cZ C ρ hp w p v->p≠ .undef->cs=[p]->v.cells.size=cs.length/\(∀(j:Nat)(y:PV),cs[j]? =some y->cZ C ρ hp w y (v.cells.getD j undef))/\∀u∈v.cells.toList,u.oneCell'=true:=by
  rintro p hr hu rfl;obtain⟨h1,h2⟩:=hr.uf hu;rw[h2];refine⟨rfl,fun j y hy=>?_,fun u nV=>?_⟩
  ·match j,hy with
   |0,hy=>simp at hy;subst hy;exact hr
   |j+1,hy=>simp at hy
  ·simp at nV;subst nV;exact h1
 cases py with
 | aP cs'=>
  simp only[fO]at hs;split at hs
  ·rename_i bC;simp only[KaD]at hs;subst hs;obtain⟨vs,rfl,h1,h2⟩:=h;refine⟨h1,h2,fun u hu=>?_⟩;obtain⟨j,hj,rfl⟩:=KaG hu;have aT:j<vs.size:=by simpa[Value.cells]using hj
   have hp:j<cs'.length:=by omega
   have h3:=h2 j cs'[j] (Kad hp);have h4:=Kav.1 bC cs'[j] (Kag hp);have:=(h3.uf (fun e=>by rw[e]at h4;cases h4)).1;simpa[Array.getD,aT,Value.cells]using this
  ·cases hs
 |aL γ o n=>simp only[fO,KaD]at hs;exact one (p:=.aL γ o n) h (by simp) hs.symm
 |ax O o n=>
  simp only[fO]at hs;split at hs
  ·rename_i hB;simp only[KaD]at hs;exact one (p:=.ax O o n) ⟨hB,h⟩ (by simp) hs.symm
  ·cases hs
 |int k n=>simp only[fO,KaD]at hs;exact one (p:=.int k n) h (by simp) hs.symm
 |bool b=>simp only[fO,KaD]at hs;exact one (p:=.bool b) h (by simp) hs.symm
 |ab=>simp only[fO,KaD]at hs;exact one (p:=.ab) h (by simp) hs.symm
 |sl e xs=>simp only[fO,KaD]at hs;exact one (p:=.sl e xs) h (by simp) hs.symm
 |pt cs'=>simp only[fO,KaD]at hs;exact one (p:=.pt cs') h (by simp) hs.symm
 |agg cs'=>simp only[fO,KaD]at hs;subst hs;have hr:Q8 w (aI C ρ hp) (.agg cs') v:=h;obtain⟨h1,h2⟩:=hr.cells;exact⟨h1,fun j y hy=>cZ.ofC (h2 j y hy),hr.aaV⟩
 |_=>cases hs
theorem Qt.OB{tmps:Array Value}{w':World}(h:Qt C ρ fr hp tmps w){γ b e ty:Nat}{hb:HB}{xs':List PV}{cur':Array Value}{cap:Nat}(hB:bW γ=true)(he:0<e)(ah:hp γ=some hb)(nO:hb.fz=false)(bR:hb.xs=[])(EH:hb.e=e)(ht:hb.ty=ty)(bE:ρ γ=some b)
  (hx:Ext (fun c=>c=b) w w') (dQ:∀e cap,dH w b e cap->dH w' b e cap) (h1:w'.heap[b]? =some (.cells cur' ty (0,0))) (h2:cur'.size=cap*e) (h3:xs'.length<=cap) (h4:cap<=maxLen)
  (h5:∀(i:Nat)(x:PV),xs'[i]? =some x->x.bg.length=e) (h6:∀(i:Nat)(x:PV),xs'[i]? =some x->∀(j:Nat)(y:PV),x.bg[j]? =some y->cZ C ρ hp w y (cur'.getD (i*e+j) undef)):
  Qt C ρ (FW.ae (jv γ fr) γ (.aJ γ e ty xs')) hp tmps w':=by
 have Ni:aI C ρ hp b:=.inr ⟨γ,hb,ah,nO,bE⟩;have zj:fH γ=false:=by
  cases hq:fH γ with
  |false=>rfl
  |true=>have:=(h.own γ hb ah).ro hq;rw[nO]at this;cases this
 have iv:nt w w' (aI C ρ hp) (aI C ρ hp):=⟨fun c hc hn=>hx.block c hc (fun e=>hn (e▸Ni)),fun _ _ hn=>hn,hx.size⟩
 have aS:=(h.own γ hb ah).bV;rw[bE]at aS;have fX:Ext C.Y0 C.w0 w':=by refine h.ext.trans' (Y':=fun c=>c=b) hx ?_;intro c hc he;subst he;exact(Ctx.IG aS.1 zj).resolve_left (by omega)
 have EW:∀O c,C.fx O=some c->∀e cap,dH C.w0 c e cap->dH w' c e cap:=fun b0 c iv e cap jg=>by
  have gJ:=h.fI b0 c iv e cap jg;by_cases jK:c=b
  ·rw[jK]at gJ ⊢;exact dQ e cap gJ
  ·exact mw (hx.block c (mB gJ) jK) gJ
 have qi:∀O hg c,O≠γ->hp O=some hg->ρ O=some c->¬c=b:=fun O hg c bz gZ hr e=>bz (h.inj O γ b (by simp[gZ]) (by simp[ah]) (e▸hr) bE);have c0:∀O,yy ρ ρ hp hp w w' O:=fun O=>⟨rfl,fun hg gZ=>⟨hg,gZ,rfl,Kae _,fun c cap hr jg=>by
  by_cases bz:O=γ
  ·subst bz;rw[bE]at hr;cases hr;exact dQ _ _ jg
  ·exact mw (hx.block c (mB jg) (qi O hg c bz gZ hr)) jg⟩⟩
 refine⟨h.sz,fX,EW,fun O hg aj=>?_,h.inj,fun i=>?_⟩
 ·obtain⟨p1,p2,p3,p4,p5⟩:=h.own O hg aj;refine⟨p1,p2,?_,p4,p5⟩;by_cases bz:O=γ
  ·subst bz;rw[ah]at aj;cases aj;rw[bE]at p3⊢;exact⟨p3.1,KaE p3.2.1 hx.size,cur',cap,by rw[h1,ht],by rw[EH];exact h2,by rw[bR];simp,h4,by rw[bR];simp⟩
  ·cases hr:ρ O with
   |none=>rw[hr]at p3;exact p3
   |some c=>rw[hr]at p3;exact⟨p3.1,KaE p3.2.1 hx.size,p3.2.2.move (hx.block c p3.2.1 (qi O hg c bz aj hr)) rfl rfl rfl iv.rc⟩
 ·unfold FW.ae;split
  ·exact⟨hB,he,b,hb,cur',cap,bE,ah,bR,EH,ht,h1,h2,h3,h4,h5,fun i x hi j y hy=>(h6 i x hi j y hy).move iv (fun O _=>c0 O)⟩
  ·have bo:=h.dm i;unfold jv;generalize fr i=p at bo;have mv:(∀bj e ty xs,p= .aJ bj e ty xs->bj≠γ)->Qk C ρ hp w' p (tmps.getD i undef):=fun hq=>
    bo.move iv (fun O _=>⟨(c0 O).r,(c0 O).h⟩) (fun O _=>c0 O) (fun bj e ty xs e1=>⟨rfl,fun hg gZ=>by have bz:=hq bj e ty xs e1;refine⟨hg,gZ,rfl,Kae _,fun c cap hr jg=>mw (hx.block c (mB jg) (qi bj hg c bz gZ hr)) jg,fun he=>⟨he,rfl,fun c hr=>hx.block c ?_ (qi bj hg c bz gZ hr)⟩⟩;have:=(h.own bj hg gZ).bV;rw[hr]at this;exact this.2.1⟩)
   cases p with
   |aJ bj e' ty' xs=>
    simp only[jT];split
    ·trivial
    ·rename_i bz;exact mv (fun _ _ _ _ e1=>by cases e1;exact bz)
   |_=>exact mv (fun _ _ _ _ e1=>by cases e1)
theorem O8{l cs:List PV}{o j:Nat}(hl:o+cs.length<=l.length)(hj:j<l.length):(rS l o cs)[j]? =if o<=j/\j<o+cs.length then cs[j-o]? else l[j]? :=by
 unfold rS;rw[Ka8];have ht:(l.take o).length=o:=by simp;omega
 rw[Ka3,ht];by_cases c1:j<o
 ·rw[if_pos c1,if_neg (by omega),KaI c1]
 ·rw[if_neg c1,Ka3];by_cases c2:j-o<cs.length
  ·rw[if_pos c2,if_pos (by omega)]
  ·rw[if_neg c2,if_neg (by omega),Ka4];rw[show o+cs.length+(j-o-cs.length)=j by omega]
theorem LH{l cs:List PV}{o:Nat}(hl:o+cs.length<=l.length):(rS l o cs).length=l.length:=by unfold rS;simp;omega
theorem afY {o:Oper} {t:TypeId} {n:Nat} {x y:Operand} {px py:PV} {Q:Exit->Act->World->Prop} (ho:o.op= .store t x y) (hd:o.dst=none) (aZ:a.defers=[]) (h:Qt C ρ fr hp a.tmps w)
  (hn:eV C.P t=some n) (hx:Qk C ρ hp w px (a.eval x)) (hy:Qk C ρ hp w py (a.eval y)) (hv:o8 n px py fr hp K):o.wp C.P a w (cY C false w K) Q:=by
 unfold o8 at hv;split at hv
 ·rename_i O i o';split at hv
  ·rename_i hb aj;obtain⟨h1,h2,h3,h4,h5,hK⟩:=hv;obtain⟨b,lF,g1,g2,ex⟩:=hx.BY;obtain⟨bw,g3,e1,e2,e3,e4,_⟩:=GW (l:=py.refs) g2;rw[aj]at g3;cases g3;have hbb:=e4 h1;subst hbb;have hf:=h.freeze py.refs;have hr:=s9 h hy (fun O aj=>aj) h2;have BS:=hr.cells;have aS:=hf.own O hb aj;have bc:=aS.bV;rw[g1]at bc;obtain⟨b1,b2,cur,cap,c1,c2,c3,c4,c5⟩:=bc;have gm:=Kad h4;have cF:=(aS.len i _ gm).1;have me:(a.eval y).cells.size=n:=by rw[BS.1,h3]
   have kS:i*hb.e+o'+n<=cur.size:=by rw[c2];have:(i+1)*hb.e<=cap*hb.e:=Kam _ (by omega);rw[KaM]at this;omega
   have bQ:=TK (P:=C.P) (w:=w) (off:=i*hb.e+o') hn me c1 kS hr.aaV;have cT:(a.eval y).cells.toList.length=n:=by simp[me]
   have jl:∀k,k<cur.size->((cur.toList.take (i*hb.e+o')++(a.eval y).cells.toList++cur.toList.drop (i*hb.e+o'+n)).toArray).getD k undef=if i*hb.e+o'<=k/\k<i*hb.e+o'+n then(a.eval y).cells.getD (k-(i*hb.e+o')) undef else cur.getD k undef:=by intro k hk;have:=Cq (cur:=cur) (p:=i*hb.e+o') (cs:=(a.eval y).cells.toList) (k:=k) (by omega) hk;rw[cT]at this;rw[this];simp[KaL,Kac]
   have mb:((cur.toList.take (i*hb.e+o')++(a.eval y).cells.toList++cur.toList.drop (i*hb.e+o'+n)).toArray).size=cur.size:=by
    have:=Cr (cur:=cur) (p:=i*hb.e+o') (cs:=(a.eval y).cells.toList) (by omega)
    rwa[cT]at this
   have oQ:(if n=hb.e then Qr hp py else uh (hb.xs[i]'h4) o' (Qr hp py)).cells.length=hb.e/\(if n=hb.e then Qr hp py else uh (hb.xs[i]'h4) o' (Qr hp py)).aG=true:=by
    by_cases hc:n=hb.e
    ·rw[if_pos hc];exact⟨by omega,h2⟩
    ·rw[if_neg hc];exact⟨by rw[amc (by omega)];exact cF,rfl⟩
   obtain⟨nx,nS⟩:∃nx,nx=(if n=hb.e then Qr hp py else uh (hb.xs[i]'h4) o' (Qr hp py)):=⟨_,rfl⟩
   rw[<-nS]at hK oQ;have bq:=hf.store O b hb { hb with xs:=hb.xs.set i nx } aj h1 (by intro e;rw[e]at h4;simp at h4) g1 (Ct w b _) rfl (by simp) h1
    (fun k x hk=>by
     rcases C6 hk with⟨_,rfl⟩|⟨_,hk⟩
     ·exact oQ
     ·exact aS.len k x hk)
    (fun e' eJ dQ=>by obtain⟨cur',ty',d1,d2⟩:=dQ;rw[c1]at d1;cases d1;exact⟨_,_,setRow_heap w b cur _ hb.ty _ c1,by rw[mb];exact d2⟩)
    ⟨_, cap,setRow_heap w b cur _ hb.ty _ c1,by rw[mb];exact c2,by simpa using c3,c4,fun k x hk j z hz=>by
     have BI:k<hb.xs.length:=by have:=(Kaf.1 hk).1;simpa using this
     have eS:x.cells.length=hb.e:=by
      rcases C6 hk with⟨_,rfl⟩|⟨_,hk⟩
      ·exact oQ.1
      ·exact(aS.len k x hk).1
     have hj:j<hb.e:=by have:=(Kaf.1 hz).1;omega
     have ao:k*hb.e+0+j<cap*hb.e:=oc (by omega) (by omega:0+hb.e<=hb.e) hj;show Qn w _ z (Array.getD _ (k*hb.e+j) undef);rw[jl _ (by omega)];rcases C6 hk with⟨vF,JD⟩|⟨vF,hk⟩
     ·subst vF;subst JD;by_cases hc:n=hb.e
      ·rw[nS,if_pos hc]at hz;have ho0:o'=0:=by omega
       subst ho0;rw[if_pos (by omega)];rw[show i*hb.e+j-(i*hb.e+0)=j by omega];exact BS.2 j z hz
      ·rw[nS,if_neg hc]at hz;rw[afX (by omega) (by omega),h3]at hz;by_cases Zx:o'<=j/\j<o'+n
       ·rw[if_pos Zx]at hz;rw[if_pos (by omega)];rw[show i*hb.e+j-(i*hb.e+o')=j-o' by omega];exact BS.2 _ z hz
       ·rw[if_neg Zx]at hz;rw[if_neg (by omega)];exact c5 i _ gm j z hz
     ·rw[if_neg (Pn hj (by omega) (fun e=>vF e.symm))];exact c5 k x hk j z hz⟩
   unfold Oper.wp;have hex:(execOp a.eval o).run C.P w= .ok .skip (w.setRow b (cur.toList.take (i*hb.e+o')++(a.eval y).cells.toList++cur.toList.drop (i*hb.e+o'+n)).toArray):=by unfold execOp;simp only[ho,ex,Kal,Instr.storeAt,Instr.sureAddr,KaW,Kaj,bQ]
   rw[hex];refine⟨by rw[xV];exact aZ,⟨fr,_,⟨ρ,?_⟩,hK⟩,by simp⟩;rw[hd];exact bq
  ·exact hv.elim
 ·rename_i γ i o';split at hv
  ·rename_i bj e ty xs ah;obtain⟨rfl,⟨hb,k1,k2⟩,h1,h2,hv⟩:=hv;split at hv
   ·rename_i cs l9;obtain⟨h3,hK⟩:=hv;obtain⟨r1,r2,r3⟩:=QL hy l9;obtain⟨hB,b,au,g1,g2,ex⟩:=hx.JO;rw[k1]at g2;cases g2;have bo:=h.dm bj;rw[ah]at bo;obtain⟨_,y5,b',au,cur,cap,q1,q2,q3,q4,q5,q6,q7,q8,q9,zN,vV⟩:=bo;rw[g1]at q1;cases q1;rw[k1]at q2;cases q2;rw[q4]at ex;have gm:=Kad h1;have cF:=zN i _ gm;have me:(a.eval y).cells.size=n:=by rw[r1,h3]
    have kS:i*e+o'+n<=cur.size:=by rw[q7];have:(i+1)*e<=cap*e:=Kam _ (by omega);rw[KaM]at this;omega
    have bQ:=TK (P:=C.P) (w:=w) (off:=i*e+o') hn me q6 kS r3;have cT:(a.eval y).cells.toList.length=n:=by simp[me]
    have jl:∀k,k<cur.size->((cur.toList.take (i*e+o')++(a.eval y).cells.toList++cur.toList.drop (i*e+o'+n)).toArray).getD k undef=if i*e+o'<=k/\k<i*e+o'+n then(a.eval y).cells.getD (k-(i*e+o')) undef else cur.getD k undef:=by intro k hk;have:=Cq (cur:=cur) (p:=i*e+o') (cs:=(a.eval y).cells.toList) (k:=k) (by omega) hk;rw[cT]at this;rw[this];simp[KaL,Kac]
    have mb:((cur.toList.take (i*e+o')++(a.eval y).cells.toList++cur.toList.drop (i*e+o'+n)).toArray).size=cur.size:=by
     have:=Cr (cur:=cur) (p:=i*e+o') (cs:=(a.eval y).cells.toList) (by omega)
     rwa[cT]at this
    generalize(cur.toList.take (i*e+o')++(a.eval y).cells.toList++cur.toList.drop (i*e+o'+n)).toArray=W at bQ jl mb;have Fo:o'+cs.length<=(xs[i]).bg.length:=by rw[cF,h3];exact h2
    have pX:∀c∈rS (xs[i]).bg o' cs,c.bg=[c]:=by
     intro c hc;obtain⟨j,hj⟩:=KaF hc;have qc:j<(xs[i]).bg.length:=by have:=(Kaf.1 hj).1;rwa[LH Fo]at this
     rw[O8 Fo qc]at hj;split at hj
     ·exact(r2 _ c hj).bg
     ·exact(vV i _ gm j c hj).bg
    have ct:=UH pX;have bq:=h.OB (w':=w.setRow b W) (xs':=xs.set i (gw (rS (xs[i]).bg o' cs))) (cur':=W) (cap:=cap) hB y5 k1 k2 q3 q4 q5 g1 (Ct w b W)
     (fun e2 yJ hcp=>by obtain⟨aw5,qt,d1,d2⟩:=hcp;rw[q6]at d1;cases d1;exact⟨_,_,setRow_heap w b cur _ ty _ q6,by rw[mb];exact d2⟩)
     (setRow_heap w b cur W ty _ q6) (by rw[mb];exact q7) (by simpa using q8) q9
     (fun k x hk=>by
      rcases C6 hk with⟨_,rfl⟩|⟨_,hk⟩
      ·rw[ct,LH Fo];exact cF
      ·exact zN k x hk)
     (fun k x hk j y' oV=>by
      rcases C6 hk with⟨rfl,rfl⟩|⟨bz,hk⟩
      ·rw[ct]at oV;have qc:j<(xs[i]).bg.length:=by have:=(Kaf.1 oV).1;rwa[LH Fo]at this
       have tR:j<e:=by omega
       have za:i*e+0+j<cap*e:=oc (n:=e) (by omega) (by omega) tR;rw[O8 Fo qc]at oV;rw[jl _ (by omega)];split at oV
       ·rename_i hr;rw[if_pos (by omega),show i*e+j-(i*e+o')=j-o' by omega];exact r2 _ y' oV
       ·rename_i hr;rw[if_neg (by omega)];exact vV i _ gm j y' oV
      ·have BI:k<xs.length:=(Kaf.1 hk).1;have tR:j<e:=by have:=(Kaf.1 oV).1;have:=zN k x hk;omega
       have za:k*e+0+j<cap*e:=oc (n:=e) (by omega) (by omega) tR;rw[jl _ (by omega),if_neg (Pn tR h2 (fun e=>bz e.symm))];exact vV k x hk j y' oV)
    unfold Oper.wp;have hex:(execOp a.eval o).run C.P w= .ok .skip (w.setRow b W):=by unfold execOp;simp only[ho,ex,Kal,Instr.storeAt,Instr.sureAddr,KaW,Kaj,bQ]
    rw[hex];refine⟨by rw[xV];exact aZ,⟨_,hp,⟨ρ,?_⟩,hK⟩,by simp⟩;rw[hd];exact bq
   ·exact hv.elim
  ·exact hv.elim
 ·exact hv.elim
end Go.FW
namespace Go.FW
open Go
variable {C : Ctx} {ρ : Nat -> Option Nat} {fr : Fr} {hp : HP} {w : World} {a : Act} {K : Qg}
theorem Q01{X:Nat->Prop}{x:PV}{e:Nat}{f:Nat->Value}(he:x.cells.length=e)(h0:0<e)(hr:∀(j:Nat)(y:PV),x.cells[j]? =some y->Qn w X y (f j)):x.aG=true:=by
 by_cases ha:∃cs,x= .agg cs
 ·obtain⟨cs,rfl⟩:=ha;rfl
 ·have hc:x.cells=[x]:=by
   cases x with
   |agg cs=>exact absurd ⟨cs,rfl⟩ ha
   |_=>rfl
  have:=hr 0 x (by rw[hc];rfl);exact Q8.data (Q8.sN this)
theorem Lh{e:Nat}{px:PV}{v:Value}{ys:List PV}{e':Nat}(h:Qt C ρ fr hp a.tmps w)(hx:Qk C ρ hp w px v)(hs:kE hp px=some (e',ys))(h0:0<e)(oK:e'=e∨ys=[]):
  ∃ad cap,v= .slice ad ys.length cap/\(ys≠[]->∃(b off:Nat)(f:Nat->Value),ad=some ⟨b,off,none⟩/\(∀k,k<ys.length*e->w.cell? ⟨b,off+k,none⟩=some (f k))/\
   ∀(i:Nat)(y:PV),ys[i]? =some y->y.cells.length=e/\y.aG=true/\∀(j:Nat)(z:PV),y.cells[j]? =some z->Qn w (aI C ρ hp) z (f (i*e+j))):=by
 cases px with
 |ab=>simp[kE]at hs;obtain⟨rfl,rfl⟩:=hs;exact⟨none,0,hx.zL,fun hn=>absurd rfl hn⟩
 | sl e2 xs=>
  simp[kE]at hs;obtain⟨rfl,rfl⟩:=hs;have aX:Qn w (aI C ρ hp) (.sl e2 xs) v:=hx;cases aX with
  |gC _ ad cap hc=>exact⟨ad,cap,rfl,fun hn=>absurd rfl hn⟩
  | sl _ _ b off cap vs hX hb hl hc he hv hr=>
   refine⟨_,cap,rfl,fun hn=>?_⟩;obtain rfl:e2=e:=oK.resolve_right hn;refine⟨b,off,fun k=>vs (k/e2) (k%e2),rfl,fun k hk=>?_,fun i y hy=>?_⟩
   ·have h1:k/e2<xs.length:=(Kbp h0).2 hk;have h2:=KbC k h0;have:=hv _ h1 _ h2;rw[KbW,Ka5,Kbv]at this;exact this
   ·have cF:=he i y hy;refine⟨cF,Q01 cF h0 (hr i y hy),fun j z hz=>?_⟩;have hj:j<e2:=by have:=(Kaf.1 hz).1;omega
    show Qn w _ z (vs ((i*e2+j)/e2) ((i*e2+j)%e2));rw[agr hj,Pk hj];exact hr i y hy j z hz
 | ax O o n=>
  simp only[kE,Kaa,Prod.mk.injEq]at hs;obtain⟨hb,aj,EH,rfl⟩:=hs;obtain⟨cN,g1,g2,g3⟩:=hx;rw[aj]at g1;cases g1;have hlen:((hb.xs.drop o).take n).length=n:=by simp;omega
  rcases g3 with⟨g3,rfl,rfl,rfl⟩|⟨b,cap,g3,rfl,g5,g6⟩
  ·exact⟨none,0,by simp,fun hn=>absurd (by simp) hn⟩
  ·refine⟨_,cap,by rw[hlen],fun hn=>?_⟩;have aS:=h.own O hb aj;have bc:=aS.bV;rw[g3]at bc;obtain⟨_,ao,cur,eJ,c1,c2,c3,c4,c5⟩:=bc;have X6:hb.e=e:=by
    rcases oK with oK|oK
    ·omega
    ·exact absurd oK hn
   refine⟨b,o*hb.e,fun k=>cur.getD (o*hb.e+k) undef,rfl,fun k hk=>?_,fun i y hy=>?_⟩
   ·rw[hlen]at hk;have:(o+n)*e<=eJ*e:=Kam e (by omega);rw[KaM]at this;exact mr c1 (by rw[c2,X6];omega)
   ·have hi:i<n:=by have:=(Kaf.1 hy).1;omega
    rw[KaI hi,Ka4]at hy;obtain⟨l1,l2⟩:=aS.len _ y hy;refine⟨by omega,l2,fun j z hz=>?_⟩;have:=c5 _ y hy j z hz;rw[KaM,KbW]at this
    rwa[X6]at this⊢
 |_=>simp[kE]at hs
theorem Tw{P:Program}{t ty e:TypeId}{i:TypeInfo}(ht:P.underlying t=some (.slice e))(hi:P.info? e=some i){base ad:Option Addr}{n cap c:Nat}(hle:n<=cap)(w:World):
  (Builtin.append_ #[t,t] ty #[.slice base n cap,.slice ad 0 c]).run P w= .ok (.slice base n cap) w:=by
 cases ad<;>cases base<;>simp[Builtin.append_,run_underlying ht,sizeOf,typeInfo,hi,Builtin.lenOf,Builtin.firstCells,hle,storeCells,loadCells,loadCellsFrom]
theorem vY{P:Program}{o:Oper}{s x:Operand}{t:TypeId}(ho:o.op= .call { callee:=.builtin .append,args:= #[s,x],argTypes:= #[t,t] }){vs vx v:Value}{w w':World}(es:a.eval s=vs)(ex:a.eval x=vx)
  (hr:(Builtin.append_ #[t,t] o.type #[vs,vx]).run P w= .ok v w'):(execOp a.eval o).run P w= .ok (.value v) w':=by
 unfold execOp;simp only[ho,resolve,Kal,KaW,Kaj,invoke,builtin];simp[es,ex,hr]
def gu(f:Nat->Value)(n:Nat):List Value:=(List.range n).map f
theorem zW(f:Nat->Value)(n:Nat):(gu f n).length=n:=by simp[gu]
theorem Cu{f:Nat->Value}{n j:Nat}{u:Value}(h:(gu f n)[j]? =some u):j<n/\u=f j:=by
 have hj:j<n:=by have:=(Kaf.1 h).1;simpa[gu]using this
 simp only[gu,Kao,KcM hj,KbT,KaD]at h;exact⟨hj,h.symm⟩
theorem G1{f:Nat->Value}{n j:Nat}(h:j<n):(gu f n).getD j undef=f j:=by simp[gu,Kac,h]
theorem xS(l:List Value)(k:Nat):l.toArray.getD k undef=l.getD k undef:=by simp[KaL,Kac]
theorem lP(xs ys:Array Value)(k:Nat):(xs++ys).getD k undef=if k<xs.size then xs.getD k undef else ys.getD (k-xs.size) undef:=by simp only[KaL,Array.getElem?_append];split<;>rfl
theorem ya{n m e i j:Nat}(h0:i<m)(hj:j<e):i*e+j<m*e/\(n+i)*e+j=n*e+(i*e+j):=by
 constructor
 ·have:(i+1)*e<=m*e:=Kam e h0;rw[KaM]at this;omega
 ·rw[KaM];omega
theorem uD{O:Nat}{p:PV}{v:Value}(h:cZ C ρ hp w p v):cZ C ρ hp w (iV O p) v/\∀γ∈(iV O p).dO,γ≠O:=by
 cases p with
 | ax bY o n=>
  simp only[iV];split
  ·exact⟨trivial,fun γ ah=>by cases ah⟩
  ·rename_i bz;exact⟨h,fun γ ah=>by simp[PV.dO]at ah;subst ah;exact bz⟩
 | aL bj o n=>
  simp only[iV];split
  ·exact⟨trivial,fun γ ah=>by cases ah⟩
  ·rename_i bz;exact⟨h,fun γ ah=>by simp[PV.dO]at ah;subst ah;exact bz⟩
 |np=>cases h
 |_=>exact⟨h,fun γ ah=>by cases ah⟩
theorem ry{l:List PV}{f:PV->PV}{i:Nat}{y:PV}(h:(l.map f)[i]? =some y):∃x,l[i]? =some x/\y=f x:=by simp only[Kao,Kaa]at h;obtain⟨x,h1,h2⟩:=h;exact⟨x,h1,h2.symm⟩
theorem Ac{O:Nat}:AT C ρ hp w O fr (gi O fr):=by
 intro i v h;unfold gi;generalize fr i=p at h;have kill:dC O p=bU O p->(∀γ∈p.aV,γ≠O)->Qk C ρ hp w (dC O p) v/\(∀γ∈(dC O p).refs,γ≠O)/\∀γ∈(dC O p).aV,γ≠O:=fun e hs=>by
  rw[e];refine⟨Qk.kill h,fun γ ah=>(UE γ ah).1,fun γ ah=>?_⟩;unfold bU at ah;split at ah
  ·cases ah
  ·exact hs γ ah
 cases p with
 | aJ γ e ty xs=>
  simp only[dC];split
  ·exact⟨trivial,fun γ ah=>(by cases ah),fun γ ah=>by cases ah⟩
  ·rename_i bz;obtain⟨h0,he,b,hb,cur,cap,h1,h2,h3,h4,h5,h6,h7,h8,h9,du,nG⟩:=h;have pX:∀(i:Nat)(x:PV),xs[i]? =some x->(gw (x.bg.map (iV O))).bg=x.bg.map (iV O):=fun i x hi=>UH fun c hc=>by obtain⟨d,hd,rfl⟩:=KaA.1 hc;obtain⟨j,hj⟩:=KaF hd;exact(uD (nG i x hi j d hj)).1.bg
   refine⟨⟨h0,he,b,hb,cur,cap,h1,h2,h3,h4,h5,h6,h7,by simpa using h8,h9,fun i x hi=>?_,fun i x hi j y hy=>?_⟩,fun γ ah=>(by cases ah),fun bj ah=>?_⟩
   ·obtain⟨x0,bR,rfl⟩:=ry hi;rw[pX i x0 bR,KaJ];exact du i x0 bR
   ·obtain⟨x0,bR,rfl⟩:=ry hi;rw[pX i x0 bR]at hy;obtain⟨y0,dG,rfl⟩:=ry hy;exact(uD (nG i x0 bR j y0 dG)).1
   ·rcases KaH.1 ah with rfl|ah
    ·exact bz
    ·obtain⟨x,hx,ah⟩:=Kaq.1 ah;obtain⟨y,hy,ah⟩:=Kaq.1 ah;obtain⟨i,hi⟩:=KaF hx;obtain⟨x0,bR,rfl⟩:=ry hi;rw[pX i x0 bR]at hy;obtain⟨j,hj⟩:=KaF hy;obtain⟨y0,dG,rfl⟩:=ry hj;exact(uD (nG i x0 bR j y0 dG)).2 bj ah
 | aP cs=>
  obtain⟨vs,rfl,h1,h2⟩:=h;refine⟨⟨vs,rfl,by simpa using h1,fun i x hi=>?_⟩,fun γ ah=>(by cases ah),fun γ ah=>?_⟩
  ·obtain⟨x0,bR,rfl⟩:=ry hi;exact(uD (h2 i x0 bR)).1
  ·obtain⟨x,hx,ah⟩:=Kaq.1 ah;obtain⟨i,hi⟩:=KaF hx;obtain⟨x0,bR,rfl⟩:=ry hi;exact(uD (h2 i x0 bR)).2 γ ah
 | fb cs=>
  obtain⟨vs,rfl,h1,h2⟩:=h;refine⟨⟨vs,rfl,by simpa using h1,fun i x hi=>?_⟩,fun γ ah=>(by cases ah),fun γ ah=>?_⟩
  ·obtain⟨x0,bR,rfl⟩:=ry hi;exact(uD (h2 i x0 bR)).1
  ·obtain⟨x,hx,ah⟩:=Kaq.1 ah;obtain⟨i,hi⟩:=KaF hx;obtain⟨x0,bR,rfl⟩:=ry hi;exact(uD (h2 i x0 bR)).2 γ ah
 | dx cs q=>
  obtain⟨vs,u,rfl,h1,h2,h3⟩:=h;refine⟨⟨vs,u,rfl,by simpa using h1,fun i x hi=>?_,h3⟩,fun γ ah=>(by cases ah),fun γ ah=>?_⟩
  ·obtain⟨x0,bR,rfl⟩:=ry hi;exact(uD (h2 i x0 bR)).1
  ·obtain⟨x,hx,ah⟩:=Kaq.1 ah;obtain⟨i,hi⟩:=KaF hx;obtain⟨x0,bR,rfl⟩:=ry hi;exact(uD (h2 i x0 bR)).2 γ ah
 |aL γ o n=>
  simp only[dC];split
  ·exact⟨trivial,fun γ ah=>(by cases ah),fun γ ah=>by cases ah⟩
  ·rename_i bz;exact⟨h,fun γ ah=>(by cases ah),fun bj ah=>by simp[PV.aV]at ah;subst ah;exact bz⟩
 |np γ o n=>
  simp only[dC];split
  ·exact⟨trivial,fun γ ah=>(by cases ah),fun γ ah=>by cases ah⟩
  ·rename_i bz;exact⟨h,fun γ ah=>(by cases ah),fun bj ah=>by simp[PV.aV]at ah;subst ah;exact bz⟩
 | fn f first cap=>
  by_cases hc:(first.flatMap PV.fa++cap.flatMap PV.fa).contains O=true
  ·simp only[dC,hc,if_true];exact⟨trivial,fun γ ah=>(by cases ah),fun γ ah=>by cases ah⟩
  ·exact kill (by simp only[dC,hc];rfl) (fun γ ah e=>hc (by subst e;exact List.contains_iff_mem.2 ah))
 |_=>exact kill rfl (fun γ ah=>by cases ah)
end Go.FW
namespace Go.FW
open Go
variable {C : Ctx} {ρ : Nat -> Option Nat} {fr : Fr} {hp : HP} {w : World} {a : Act} {K : Qg}
theorem QM{o:Oper}{s x:Operand}{t e:TypeId}{n by_:Nat}{z:PV}{px:PV}{ys:List PV}{e' d:Nat}{O:Nat}{aC:Fr}{Q:Exit->Act->World->Prop}
  (ho:o.op= .call { callee:=.builtin .append,args:= #[s,x],argTypes:= #[t,t] }) (hd:o.dst=some d) (ao:d<C.N) (aZ:a.defers=[]) (h:Qt C ρ fr hp a.tmps w)
  (hu:C.P.underlying t=some (.slice e)) (hz:ln C.P e=some (n,by_,z)) (hx:Qk C ρ hp w px (a.eval x)) (qV:kE hp px=some (e',ys)) (h0:0<n) (lJ:z.cells.length=n) (oK:e'=n∨ys=[])
  (es:a.eval s= .slice none 0 0) (hb:ys.length*by_<=140737488355328) (hm:ys.length<=9223372036854775807)
  (sm:AT C ρ hp w O fr aC) (hB:aQ O=false)
  (hK:K (ae aC d (.ms O ys.length)) (Qj hp O ⟨n,e,ys,false⟩)):o.wp C.P a w (cY C false w K) Q:=by
 obtain⟨ti,zv,i1,i2,i3,i4,i5⟩:=uG hz;obtain⟨ad,cap,ex,EC⟩:=Lh h hx qV h0 oK;by_cases sI:ys=[]
 ·subst sI;have bQ:=Tw (P:=C.P) (ty:=o.type) (ad:=ad) (c:=cap) hu i1 (base:=none) (n:=0) (cap:=0) (Kae 0) w;have hs:=h.B3 (w':=w) O none ⟨n,e,[],false⟩ hB sm (Ext.refl _ _) (by simp) h0 (by simp) (by simp) (by simp);refine js (vY ho es ex bQ) (cY.mo hd ao aZ hs (by simp) ?_ hK);exact⟨⟨n,e,[],false⟩,by simp[Qj],by simp,.inl ⟨ij _ _ _,rfl,rfl,rfl⟩⟩
 ·obtain⟨b,off,f,rfl,hf,ct⟩:=EC sI;have su:0<ys.length:=List.length_pos_iff.2 sI;have bQ:=run_append_nil (P:=C.P) w t o.type e ti zv hu i1 i2 ⟨b,off,none⟩ ys.length cap (gu f (ys.length*n)) (by rw[zW,i3])
   (fun j v hj=>by obtain⟨aT,rfl⟩:=Cu hj;rw[KbQ];exact hf j aT) su (by omega) (by rw[i4];omega)
  have iw:=grownCap_ge w ys.length 0 e;have nM:=grownCap_le_maxLen w ys.length 0 e (by rw[ni];exact hm);generalize grownCap w ys.length 0 e=G at bQ iw nM;have vR:zv.cells.size=n:=by have:=(uA (w:=w) (X:=aI C ρ hp) i5).cells.1;omega
  obtain⟨hs,fX⟩:=h.zK O hB sm ⟨n,e,ys,false⟩ ((gu f (ys.length*n)).toArray++Builtin.zeroCells zv.cells (G-ys.length)) G _ (.inr rfl)
   (by simp[zW,size_zeroCells,vR,<-Nat.add_mul];congr 1;omega) iw nM h0 (fun i y hy=>⟨(ct i y hy).1,(ct i y hy).2.1⟩)
   (fun i y hy j z hz=>by
    have hi:i<ys.length:=(Kaf.1 hy).1;have hj:j<n:=by have:=(Kaf.1 hz).1;have:=(ct i y hy).1;omega
    obtain⟨q1,_⟩:=ya (n:=0) hi hj;show Qn w _ z (Array.getD _ (i*n+j) undef);rw[lP,if_pos (by simpa[zW]using q1)];have:=(ct i y hy).2.2 j z hz;rw[xS,G1 q1];exact this)
  refine js (vY ho es ex bQ) (cY.mo hd ao aZ hs (by simp) ?_ hK);exact⟨⟨n,e,ys,false⟩,by simp[Qj],by simp,.inr ⟨w.heap.size,G,ij _ _ _,by simp,⟨_,e,n6 w.drew _,by simp[zW,size_zeroCells,vR,<-Nat.add_mul];congr 1;omega⟩,by omega⟩⟩
theorem QY{o:Oper}{s x:Operand}{t e:TypeId}{n by_:Nat}{z:PV}{px:PV}{ys:List PV}{e' d:Nat}{O m:Nat}{hb:HB}{aC:Fr}{Q:Exit->Act->World->Prop}
  (ho:o.op= .call { callee:=.builtin .append,args:= #[s,x],argTypes:= #[t,t] }) (hd:o.dst=some d) (ao:d<C.N) (aZ:a.defers=[]) (h:Qt C ρ fr hp a.tmps w)
  (hu:C.P.underlying t=some (.slice e)) (hz:ln C.P e=some (n,by_,z)) (hx:Qk C ρ hp w px (a.eval x)) (qV:kE hp px=some (e',ys)) (h0:0<n) (lJ:z.cells.length=n) (oK:e'=n∨ys=[])
  (hs:Qk C ρ hp w (.ms O m) (a.eval s)) (sm:AT C ρ hp w O fr aC) (hB:aQ O=false) (aj:hp O=some hb) (nO:hb.fz=false) (hbe:hb.e=n) (lG:hb.ty=e) (zc:m<=hb.xs.length)
  (Nm:(m+ys.length)*by_<=140737488355328) (Fa:m+ys.length<=9223372036854775807)
  (hK:K (ae aC d (.ms O (m+ys.length))) (Qj hp O ⟨n,e,hb.xs.take m++ys,false⟩)):o.wp C.P a w (cY C false w K) Q:=by
 obtain⟨cN,g1,g2,g3⟩:=hs;rw[aj]at g1;cases g1;have mT:(hb.xs.take m).length=m:=by simp;omega
 rw[Ka1]at g2;rcases g3 with⟨g3,es,rfl,_⟩|⟨b,cap,g3,es,g5,g6⟩
 ·simp only[Ka1,Kcr,Kau]at hK Nm Fa;exact QM ho hd ao aZ h hu hz hx qV h0 lJ oK es Nm Fa sm hB hK
 rw[Kb3]at es;rw[Ka1]at g5 g6;obtain⟨ti,zv,i1,i2,i3,i4,i5⟩:=uG hz;obtain⟨ad,Gf,ex,EC⟩:=Lh h hx qV h0 oK;have aS:=h.own O hb aj;have bc:=aS.bV;rw[g3]at bc;obtain⟨b1,b2,cur,eJ,c1,c2,c3,c4,c5⟩:=bc;replace b1:=Ctx.w9 b1 hB;obtain⟨cur',ty',d1,d2⟩:=g5;rw[c1]at d1;cases d1;obtain rfl:eJ=cap:=KbI aS.lE (by omega);subst lG;subst hbe;have EK:aI C ρ hp b:=.inr ⟨O,hb,aj,nO,g3⟩;have BK:∀(i:Nat)(x:PV),(hb.xs.take m++ys)[i]? =some x->(i<m/\hb.xs[i]? =some x)∨(m<=i/\ys[i-m]? =some x):=by
  intro i x aX;rw[Ka3,mT]at aX;by_cases hi:i<m
  ·rw[if_pos hi,KaI hi]at aX;exact .inl ⟨hi,aX⟩
  ·rw[if_neg hi]at aX;exact .inr ⟨by omega,aX⟩
 by_cases sI:ys=[]
 ·subst sI;have bQ:=Tw (P:=C.P) (ty:=o.type) (ad:=ad) (c:=Gf) hu i1 (base:=some ⟨b,0,none⟩) (n:=m) (cap:=eJ) (by omega) w;have hr:=h.B3 (w':=w) O (some b) ⟨hb.e,hb.ty,hb.xs.take m++[],false⟩ hB sm (Ext.refl _ _) (fun c hc=>by cases hc;exact⟨b1,b2,.inr ⟨g3,hb,aj,nO⟩⟩) aS.lE
   (fun i x aX=>by
    rcases BK i x aX with⟨_,hq⟩|⟨_,hq⟩
    ·exact aS.len i x hq
    ·simp at hq) (by simp)
   (fun c hc=>by
    cases hc;refine⟨cur,eJ,c1,c2,by simp;omega,c4,fun i x aX j y hy=>?_⟩;rcases BK i x aX with⟨_,hq⟩|⟨_,hq⟩
    ·exact c5 i x hq j y hy
    ·simp at hq)
  refine js (vY ho es ex bQ) (cY.mo hd ao aZ hr (by simp) ?_ hK);exact⟨⟨hb.e,hb.ty,hb.xs.take m++[],false⟩,by simp[Qj],by simp;omega,.inr ⟨b,eJ,ij _ _ _,by simp,⟨cur,hb.ty,c1,by rw[Ka1];exact c2⟩,by omega⟩⟩
 obtain⟨sb,off,f,rfl,hf,ct⟩:=EC sI;have su:0<ys.length:=List.length_pos_iff.2 sI;have BL:∀(j:Nat)(v:Value),(gu f (ys.length*hb.e))[j]? =some v->w.cell? ((⟨sb,off,none⟩:Addr).add j)=some v:=fun j v hj=>by obtain⟨aT,rfl⟩:=Cu hj;rw[KbQ];exact hf j aT
 have BM:∀u∈gu f (ys.length*hb.e),u.oneCell'=true:=by
  intro u nV;obtain⟨k,hk⟩:=KaF nV;obtain⟨cG,rfl⟩:=Cu hk;have hi:k/hb.e<ys.length:=(Kbp h0).2 cG;have hj:=KbC k h0;obtain⟨l1,l2,l3⟩:=ct _ _ (Kad hi);have qc:k%hb.e<(ys[k/hb.e]'hi).cells.length:=by omega
  have:=l3 _ _ (Kad qc);rw[Ka5,Kbv]at this;exact this.uf.1
 have nQ:=zW f (ys.length*hb.e);have xA:m*hb.e+(gu f (ys.length*hb.e)).length=(m+ys.length)*hb.e:=by rw[nQ,KaM]
 by_cases BQ:m+ys.length<=eJ
 ·have qN:m*hb.e+(gu f (ys.length*hb.e)).length<=cur.size:=by rw[xA,c2];exact Kam _ BQ
  have bQ:=run_append_room (P:=C.P) w t o.type hb.ty ti hu i1 b m eJ cur c1 ⟨sb,off,none⟩ ys.length Gf (gu f (ys.length*hb.e)) (by rw[nQ,i3]) BL BM BQ (by rw[i3];exact qN);rw[i3]at bQ;have mb:=Cr (cur:=cur) (p:=m*hb.e) (cs:=gu f (ys.length*hb.e)) qN;have jl:=fun k hk=>Cq (cur:=cur) (p:=m*hb.e) (cs:=gu f (ys.length*hb.e)) (k:=k) qN hk;generalize hW:(cur.toList.take (m*hb.e)++gu f (ys.length*hb.e)++cur.toList.drop (m*hb.e+(gu f (ys.length*hb.e)).length)).toArray=W at bQ mb jl;have hr:=h.B3 (w':=w.setRow b W) O (some b) ⟨hb.e,hb.ty,hb.xs.take m++ys,false⟩ hB sm ((Ct w b W).mono (fun i _ hi=>⟨hi▸g3,hb,aj,nO⟩))
   (fun c hc=>by cases hc;exact⟨b1,by simpa using b2,.inr ⟨g3,hb,aj,nO⟩⟩) aS.lE
   (fun i x aX=>by
    rcases BK i x aX with⟨_,hq⟩|⟨_,hq⟩
    ·exact aS.len i x hq
    ·exact⟨(ct _ x hq).1,(ct _ x hq).2.1⟩) (by simp)
   (fun c hc=>by
    cases hc;refine⟨W,eJ,setRow_heap w b cur W hb.ty _ c1,by rw[mb];exact c2,by simp;omega,c4,fun i x aX j y hy=>?_⟩;show Qn w _ y (Array.getD W (i*hb.e+j) undef);rcases BK i x aX with⟨hi,hq⟩|⟨hi,hq⟩
    ·have hj:j<hb.e:=by have:=(Kaf.1 hy).1;have:=(aS.len i x hq).1;omega
     have q1:=(ya (n:=0) hi hj).1;have q2:m*hb.e<=eJ*hb.e:=Kam _ (by omega);rw[jl _ (by omega),if_neg (by omega)];exact c5 i x hq j y hy
    ·have oN:i-m<ys.length:=(Kaf.1 hq).1;have hj:j<hb.e:=by have:=(Kaf.1 hy).1;have:=(ct _ x hq).1;omega
     obtain⟨q1,q2⟩:=ya (n:=m) oN hj;rw[show m+(i-m)=i by omega]at q2;rw[jl _ (by omega),if_pos (by omega),q2,show m*hb.e+((i-m)*hb.e+j)-m*hb.e=(i-m)*hb.e+j by omega,G1 q1];exact(ct _ x hq).2.2 j y hy)
  refine js (vY ho es ex bQ) (cY.mo hd ao aZ hr (by simp) ?_ hK);exact⟨⟨hb.e,hb.ty,hb.xs.take m++ys,false⟩,by simp[Qj],by simp;omega,.inr ⟨b,eJ,ij _ _ _,by simp,⟨W,hb.ty,setRow_heap w b cur W hb.ty _ c1,by rw[mb,Ka1];exact c2⟩,by omega⟩⟩
 ·have axC:m*hb.e<=cur.size:=by rw[c2];exact Kam _ (by omega)
  have gM:(cur.toList.take (m*hb.e)).length=m*hb.e:=by simp;omega
  have holds:∀(j:Nat)(v:Value),(cur.toList.take (m*hb.e))[j]? =some v->w.cell? ((⟨b,0,none⟩:Addr).add j)=some v:=fun j v hj=>by
   have aT:j<m*hb.e:=by have:=(Kaf.1 hj).1;omega
   rw[KaI aT]at hj;rw[KbQ,Ka1,mr c1 (by omega),GX cur j v hj]
  have bQ:=run_append_grow (P:=C.P) w t o.type hb.ty ti zv hu i1 i2 ⟨b,0,none⟩ m eJ (cur.toList.take (m*hb.e)) (by rw[gM,i3]) holds ⟨sb,off,none⟩ ys.length Gf (gu f (ys.length*hb.e)) (by rw[nQ,i3]) BL
   (by omega) (by omega) (growslice_fits (by omega) (by rw[i4];exact Nm))
  have iw:=grownCap_ge w (m+ys.length) eJ hb.ty;have nM:=grownCap_le_maxLen w (m+ys.length) eJ hb.ty (by rw[ni];exact Fa);generalize grownCap w (m+ys.length) eJ hb.ty=G at bQ iw nM;have vR:zv.cells.size=hb.e:=by have:=(uA (w:=w) (X:=aI C ρ hp) i5).cells.1;omega
  have l9:((cur.toList.take (m*hb.e)).toArray++(gu f (ys.length*hb.e)).toArray++Builtin.zeroCells zv.cells (G-(m+ys.length))).size=G*hb.e:=by simp only[Kci,KaV,gM,nQ,size_zeroCells,vR,<-Nat.add_mul];congr 1;omega
  obtain⟨hr,fX⟩:=h.zK O hB sm ⟨hb.e,hb.ty,hb.xs.take m++ys,false⟩ _ G _ (.inr rfl) l9 (by simp;omega) nM aS.lE
   (fun i x aX=>by
    rcases BK i x aX with⟨_,hq⟩|⟨_,hq⟩
    ·exact aS.len i x hq
    ·exact⟨(ct _ x hq).1,(ct _ x hq).2.1⟩)
   (fun i x aX j y hy=>by
    show Qn w _ y (Array.getD _ (i*hb.e+j) undef);rcases BK i x aX with⟨hi,hq⟩|⟨hi,hq⟩
    ·have hj:j<hb.e:=by have:=(Kaf.1 hy).1;have:=(aS.len i x hq).1;omega
     have q1:=(ya (n:=0) hi hj).1;rw[lP,if_pos (by simp only[Kci,KaV,gM];omega),lP,if_pos (by simp only[KaV,gM];omega),xS,
      Kac,KaI q1]
     have:=c5 i x hq j y hy;simpa[KaL]using this
    ·have oN:i-m<ys.length:=(Kaf.1 hq).1;have hj:j<hb.e:=by have:=(Kaf.1 hy).1;have:=(ct _ x hq).1;omega
     obtain⟨q1,q2⟩:=ya (n:=m) oN hj;rw[show m+(i-m)=i by omega]at q2;rw[q2,lP,if_pos (by simp only[Kci,KaV,gM,nQ];omega),lP,if_neg (by simp only[KaV,gM];omega),xS];simp only[KaV,gM];rw[show m*hb.e+((i-m)*hb.e+j)-m*hb.e=(i-m)*hb.e+j by omega,G1 q1];exact(ct _ x hq).2.2 j y hy)
  refine js (vY ho es ex bQ) (cY.mo hd ao aZ hr (by simp) ?_ hK);exact⟨⟨hb.e,hb.ty,hb.xs.take m++ys,false⟩,by simp[Qj],by simp;omega,.inr ⟨w.heap.size,G,ij _ _ _,by simp,⟨_,hb.ty,n6 w.drew _,by rw[Ka1];exact l9⟩,by omega⟩⟩
theorem Q9w{o:Oper}{s x:Operand}{t e:TypeId}{n by_:Nat}{z:PV}{ps px:PV}{d:Nat}{Q:Exit->Act->World->Prop}
  (ho:o.op= .call { callee:=.builtin .append,args:= #[s,x],argTypes:= #[t,t] }) (hd:o.dst=some d) (ao:d<C.N) (aZ:a.defers=[]) (h:Qt C ρ fr hp a.tmps w)
  (hu:C.P.underlying t=some (.slice e)) (hz:ln C.P e=some (n,by_,z)) (lJ:z.cells.length=n) (hs:Qk C ρ hp w ps (a.eval s)) (hx:Qk C ρ hp w px (a.eval x))
  (ave:kE hp px=none->AR n by_ e ps px d fr hp K->o.wp C.P a w (cY C false w K) Q) (hv:jz n by_ e ps px d fr hp K):o.wp C.P a w (cY C false w K) Q:=by
 unfold jz at hv;split at hv
 ·exact ave (by assumption) hv
 ·rename_i e' ys qV;obtain⟨h0,oK,hv⟩:=hv;cases ps with
  |ab=>obtain⟨k1,k2,hK⟩:=hv;exact QM (O:=d) ho hd ao aZ h hu hz hx qV h0 lJ oK hs.zL k1 k2 (Hb (AU ao)) (yh (AU ao)) hK
  | ax O o' m=>
   cases o' with
   |succ o'=>exact hv.elim
   |zero=>
   simp only at hv;split at hv
   ·rename_i hb aj;rcases hv with⟨k0,k1,k2,k3,k4,k5,k6,hK⟩|⟨k0,kY,⟨_,k1,k2,k3,k4,k5,k6⟩,hK⟩
    ·exact QY ho hd ao aZ h hu hz hx qV h0 lJ oK hs (Hb k0) (yh k0) aj k1 k2 k3 k4 k5 k6 hK
    ·exact QY ho hd ao aZ h hu hz hx qV h0 lJ oK hs Ac kY aj k1 k2 k3 k4 k5 k6 hK
   ·exact hv.elim
  |_=>exact hv.elim
theorem Qzp{P:Program}{t ty e:TypeId}{n:Nat}(ht:P.underlying t=some (.slice e))(hn:eV P e=some n){base ad:Option Addr}{dl dc sl sc:Nat}(hz:Nat.min sl dl=0)(w:World):
  (Builtin.copy_ #[t,t] ty #[.slice base dl dc,.slice ad sl sc]).run P w= .ok (goInt 0) w:=by
 have hs:=mz hn;cases ad<;>cases base<;>simp[Builtin.copy_,run_underlying ht,hs,Builtin.lenOf,Builtin.firstCells,hz,storeCells,loadCells,loadCellsFrom]
theorem TY{P:Program}{o:Oper}{s x:Operand}{t:TypeId}(ho:o.op= .call { callee:=.builtin .copy,args:= #[s,x],argTypes:= #[t,t] }){vs vx v:Value}{w w':World}(es:a.eval s=vs)(ex:a.eval x=vx)
  (hr:(Builtin.copy_ #[t,t] o.type #[vs,vx]).run P w= .ok v w'):(execOp a.eval o).run P w= .ok (.value v) w':=by
 unfold execOp;simp only[ho,resolve,Kal,KaW,Kaj,invoke,builtin];simp[es,ex,hr]
theorem Qzq{P:Program}(w:World)(t ty elem:TypeId)(g o MG atl n:Nat)(a:Addr)(OI awN:Nat)(cur:Array Value)(ty':TypeId)(cs:List Value)
  (hu:P.underlying t=some (.slice elem)) (hs:eV P elem=some n)
  (hg:w.heap[g]? =some (.cells cur ty' (0,0))) (hn:cs.length=Nat.min OI MG*n)
  (qV:∀j v,cs[j]? =some v->w.cell? (a.add j)=some v) (qN:o+cs.length<=cur.size) (h1:∀v∈cs,v.oneCell'=true):
  (Builtin.copy_ #[t,t] ty #[.slice (some ⟨g,o,none⟩) MG atl,.slice (some a) OI awN]).run P w=
   .ok (goInt (Nat.min OI MG)) (w.setRow g (cur.toList.take o++cs++cur.toList.drop (o+cs.length)).toArray):=by
 have hl:=run_loadCells_list (P:=P) w a cs qV;have bq:=run_storeCells_at P g o ty' cs 0 cur w hg (by simpa using qN) h1;have hz:=mz hs;simp[Builtin.copy_,run_underlying hu,hz,Builtin.lenOf,Builtin.firstCells,<-hn,hl,bq]
theorem Q9x{o:Oper}{s x:Operand}{t e:TypeId}{n:Nat}{ps px:PV}{d:Nat}{Q:Exit->Act->World->Prop}
  (ho:o.op= .call { callee:=.builtin .copy,args:= #[s,x],argTypes:= #[t,t] }) (hd:o.dst=some d) (ao:d<C.N) (aZ:a.defers=[]) (h:Qt C ρ fr hp a.tmps w)
  (hu:C.P.underlying t=some (.slice e)) (hn:eV C.P e=some n) (hs:Qk C ρ hp w ps (a.eval s)) (hx:Qk C ρ hp w px (a.eval x))
  (hv:wJ n ps px d fr hp K):o.wp C.P a w (cY C false w K) Q:=by
 unfold wJ at hv;split at hv
 ·rename_i e' ys O m qV;split at hv
  ·rename_i hb aj;obtain⟨k0,k1,k2,k3,k4,hK⟩:=hv;obtain⟨cN,g1,g2,g3⟩:=hs;rw[aj]at g1;cases g1;obtain⟨ad,Gf,ex,EC⟩:=Lh (e:=n) h hx qV k0 k3;have aS:=h.own O hb aj;have zero:Nat.min ys.length m=0->o.wp C.P a w (cY C false w K) Q:=by
    intro h0;have bQ:∀base cap,a.eval s= .slice base m cap->(execOp a.eval o).run C.P w= .ok (.value (goInt 0)) w:=fun base cap es=>
     TY ho es ex (Qzp (P:=C.P) (ty:=o.type) hu hn h0 w)
    have e2:({ hb with xs:=ys.take m++hb.xs.drop ys.length }:HB)=hb:=by
     have:ys.take m++hb.xs.drop ys.length=hb.xs:=by
      rcases Nat.min_eq_zero_iff.1 h0 with hq|hq
      ·have:ys=[]:=KbV hq;subst this;simp
      ·have:hb.xs=[]:=KbV (by omega);subst hq;simp[this]
     rw[this]
    have e3:Qj hp O hb=hp:=by
     funext γ;unfold Qj;split
     ·rename_i he;rw[he,aj]
     ·rfl
    rw[e2,e3,show(min (ys.length:Int) (m:Int))=0 by have:min ys.length m=0:=h0;omega]at hK;obtain⟨ad',eJ,es⟩:=Qk.OA (C:=C) (ρ:=ρ) (hp:=hp) (w:=w) ⟨hb,aj,g2,g3⟩;exact js (bQ _ _ es) (cY.mo hd ao aZ h (by simp) (Qk.mkInt _ _) hK)
   by_cases Fc:Nat.min ys.length m=0
   ·exact zero Fc
   rcases g3 with⟨g3,es,zb,_⟩|⟨b,cap,g3,es,g5,g6⟩
   ·exact(Fc (by rw[zb];simp)).elim
   rw[Kb3]at es;have sI:ys≠[]:=by rintro rfl;exact Fc (by simp)
   obtain⟨sb,off,f,rfl,hf,ct⟩:=EC sI;have bc:=aS.bV;rw[g3]at bc;obtain⟨b1,b2,cur,eJ,c1,c2,c3,c4,c5⟩:=bc;obtain⟨k,hk⟩:∃k,k=min ys.length m:=⟨_,rfl⟩
   have nQ:=zW f (k*n);have xy:k*n<=ys.length*n:=Kam _ (by omega);have BM:∀u∈gu f (k*n),u.oneCell'=true:=by
    intro u nV;obtain⟨q,hq⟩:=KaF nV;obtain⟨kT,rfl⟩:=Cu hq;have hi:q/n<ys.length:=(Kbp k0).2 (by omega);have hj:=KbC q k0;obtain⟨l1,l2,l3⟩:=ct _ _ (Kad hi);have qc:q%n<(ys[q/n]'hi).cells.length:=by omega
    have:=l3 _ _ (Kad qc);rw[Ka5,Kbv]at this;exact this.uf.1
   have hkc:k*n<=eJ*n:=Kam _ (by omega);have qN:0+(gu f (k*n)).length<=cur.size:=by rw[nQ,c2,k2];omega
   have bQ:=Qzq (P:=C.P) w t o.type e b 0 m cap n ⟨sb,off,none⟩ ys.length Gf cur hb.ty (gu f (k*n)) hu hn c1 (by rw[nQ,hk])
    (fun j v hj=>by obtain⟨aT,rfl⟩:=Cu hj;rw[KbQ];exact hf j (by omega)) qN BM
   have mb:=Cr (cur:=cur) (p:=0) (cs:=gu f (k*n)) qN;have jl:=fun q hq=>Cq (cur:=cur) (p:=0) (cs:=gu f (k*n)) (k:=q) qN hq;generalize hW:(cur.toList.take 0++gu f (k*n)++cur.toList.drop (0+(gu f (k*n)).length)).toArray=W at bQ mb jl;have eS:(ys.take m++hb.xs.drop ys.length).length=hb.xs.length:=by simp;omega
   have eR:∀(i:Nat)(x:PV),(ys.take m++hb.xs.drop ys.length)[i]? =some x->(i<k/\ys[i]? =some x)∨(k<=i/\hb.xs[i]? =some x):=by
    intro i x aX;rw[Ka3]at aX;have ht:(ys.take m).length=k:=by simp;omega
    rw[ht]at aX;by_cases hi:i<k
    ·rw[if_pos hi,KaI (by omega)]at aX;exact .inl ⟨hi,aX⟩
    ·rw[if_neg hi,Ka4]at aX;refine .inr ⟨by omega,?_⟩;have fp:ys.length+(i-k)<hb.xs.length:=(Kaf.1 aX).1
     rwa[show ys.length+(i-k)=i by omega]at aX
   have bq:=h.store O b hb { hb with xs:=ys.take m++hb.xs.drop ys.length } aj k1 (by intro e;rw[e]at k4;simp at k4;exact Fc (by simp[k4])) g3 (Ct w b W) rfl eS k1
    (fun i x aX=>by
     rcases eR i x aX with⟨_,hq⟩|⟨_,hq⟩
     ·exact⟨by rw[(ct _ x hq).1];exact k2.symm,(ct _ x hq).2.1⟩
     ·exact aS.len i x hq)
    (fun e' yJ dQ=>by obtain⟨cur',ty',d1,d2⟩:=dQ;rw[c1]at d1;cases d1;exact⟨_,_,setRow_heap w b cur _ hb.ty _ c1,by rw[mb];exact d2⟩)
    ⟨W,eJ,setRow_heap w b cur W hb.ty _ c1,by rw[mb];exact c2,by rw[eS];exact c3,c4,fun i x aX j y hy=>by
     show Qn w _ y (Array.getD W (i*hb.e+j) undef);rcases eR i x aX with⟨hi,hq⟩|⟨hi,hq⟩
     ·have hj:j<n:=by have:=(Kaf.1 hy).1;have:=(ct _ x hq).1;omega
      have q1:=(ya (n:=0) hi hj).1;rw[k2,jl _ (by rw[c2,k2];omega),if_pos (by omega),Kcp,G1 q1];exact(ct _ x hq).2.2 j y hy
     ·have fp:i<hb.xs.length:=(Kaf.1 hq).1;have hj:j<hb.e:=by have:=(Kaf.1 hy).1;have:=(aS.len i x hq).1;omega
      have:=c5 i x hq j y hy;have q2:k*n<=i*n:=Kam _ hi;have q3:=(ya (n:=0) (show i<eJ by omega) (show j<n by omega)).1;rw[jl _ (by rw[c2,k2];omega),if_neg (by rw[k2];omega)];exact this⟩
   rw[show(min (ys.length:Int) (m:Int))=((Nat.min ys.length m:Nat):Int)by have:Nat.min ys.length m=min ys.length m:=rfl;omega]at hK;exact js (TY ho es ex bQ) (cY.mo hd ao aZ bq (by simp) (Qk.mkInt _ _) hK)
  ·exact hv.elim
 ·exact hv.elim
theorem Q61{o:Oper}{t:TypeId}{parts:Array (Nat×Operand)}{z:PV}{n by_:Nat}{ps:List (Nat×Nat×aM)}{d:Nat}(ho:o.op= .build t parts)(hd:o.dst=some d)(ao:d<C.N)(h:Qt C ρ fr hp a.tmps w)
  (hz:ln C.P t=some (n,by_,z)) (fZ:Dr C.P t parts.toList=some ps)
  (hv:wv z.cells.length (ps.map fun p=>(p.1,p.2.1,ev fr p.2.2))/\K (ae fr d (.aP (iD z.cells ((ps.map fun p=>(p.1,p.2.1,ev fr p.2.2)).map fun p=>(p.1,(fO p.2.2).getD []))))) hp):Qx C ρ o a w K:=by
 obtain⟨bd,hK⟩:=hv;obtain⟨ti,zv,i1,i2,i3,i4,i5⟩:=uG hz;have Ok:rG (cZ C ρ hp w) z.cells zv.cells:=by have h0:Rows w (aI C ρ hp) z.cells zv.cells:=(uA i5).rows;exact⟨h0.1,fun i x hx=>cZ.ofC (h0.2 i x hx)⟩
 have tP:(parts.map fun(x:Nat×Operand)=>(x.1,a.eval x.2)).toList=parts.toList.map fun x=>(x.1,a.eval x.2):=by simp
 have key:∀(f:Nat×Operand->Option (Nat×Nat×aM))(place:Nat->Option (Nat×Nat)),parts.toList.mapM f=some ps->(∀x q,f x=some q->place x.1=some (q.1,q.2.1)/\cj x.2=some q.2.2)->
   ∃eL,Instr.fill place zv.cells (parts.map fun(x:Nat×Operand)=>(x.1,a.eval x.2)).toList=some eL/\
    rG (cZ C ρ hp w) (iD z.cells ((ps.map fun p=>(p.1,p.2.1,ev fr p.2.2)).map fun p=>(p.1,(fO p.2.2).getD []))) eL:=by
  intro f place hm hf;rw[tP];refine G9 place _ _ _ _ Ok (by simp[(nh hm).1]) (fun i p q BO xD=>?_);simp only[KcW,Kao,Kaa]at xD;obtain⟨q0,ma,rfl⟩:=xD;obtain⟨x,hx,pZ,rfl⟩:=VF hm BO ma;obtain⟨f1,f2⟩:=hf x q0 pZ;obtain⟨cs,o1,o2,o3⟩:=bd (q0.1,q0.2.1,ev fr q0.2.2) (KaA.2 ⟨q0,Kai ma,rfl⟩);simp only[Function.comp]at o1 o2 o3⊢;simp only[o1,Ka9];obtain⟨r1,r2,_⟩:=QL (cP h f2) o1;exact⟨by rw[o2];exact f1,⟨r1,r2⟩,by rw[o2];exact o3⟩
 have fin:∀eL,(∀w',(Instr.build t (parts.map fun(x:Nat×Operand)=>(x.1,a.eval x.2))).run C.P w'= .ok (.agg eL) w')->
   rG (cZ C ρ hp w) (iD z.cells ((ps.map fun p=>(p.1,p.2.1,ev fr p.2.2)).map fun p=>(p.1,(fO p.2.2).getD []))) eL->Qx C ρ o a w K:=by
  intro eL bQ hr;refine⟨.agg eL,fun w'=>?_,_,_,by rw[hd];exact h.ae (p:=.aP _) ⟨eL,rfl,hr.1,hr.2⟩ ao,hK⟩;unfold execOp;simp only[ho,Kal];have:=bQ w';rw[show(parts.map fun(x:Nat×Operand)=>(x.1,a.eval x.2))=(parts.map fun x=>match x with|(i,x)=>(i,a.eval x))from rfl]at this;rw[this];rfl
 unfold Dr at fZ;split at fZ
 ·rename_i fs hu;simp only[Kab]at fZ;obtain⟨pl,ej,hm⟩:=fZ;obtain⟨eL,g1,g2⟩:=key _ (fun i=>pl[i]?) hm (fun x q hq=>by simp only[Kab,Kaa]at hq;obtain⟨r,hr,y,hy,rfl⟩:=hq;exact⟨by simpa using hr,hy⟩);refine fin eL (fun w'=>?_) g2;unfold Instr.build;have cK:=run_places (P:=C.P) w' fs.toList pl ej;simp[Kal,xQ i1 i2,Q9 hu,Kbz,cK]at g1⊢;simp[g1]
 ·rename_i len e hu;simp only[Kab]at fZ;obtain⟨m,zb,hm⟩:=fZ;obtain⟨eL,g1,g2⟩:=key _ (fun i=>some (i*m,m)) hm (fun x q hq=>by simp only[Kaa]at hq;obtain⟨y,hy,rfl⟩:=hq;exact⟨rfl,hy⟩);refine fin eL (fun w'=>?_) g2;unfold Instr.build;simp only[Kal,xQ i1 i2,Q9 hu,mz zb,Kaj,g1,KaW]
 ·simp at fZ
end Go.FW
namespace Go.FW
open Go
variable {C : Ctx} {ρ : Nat -> Option Nat} {fr : Fr} {hp : HP} {tmps : Array Value} {w : World} {a : Act} {K : Qg}
theorem K3{x:PV}(h:nn x=true):∃O n,x= .ax O 0 n/\5000000<=O:=by
 unfold nn at h;split at h
 ·exact⟨_,_,rfl,by simpa using h⟩
 ·cases h
theorem VG{γ:Nat}:jv γ (gi γ fr)=gi γ fr:=by
 funext i;unfold jv gi;generalize fr i=p;cases p with
 |aJ bj e ty xs=>
  simp only[dC];split
  ·rfl
  ·rename_i bz;simp[jT,bz]
 |aL bj o n=>simp only[dC];split<;>rfl
 |np bj o n=>simp only[dC];split<;>rfl
 |fn f first cap=>
  simp only[dC];split
  ·rfl
  ·unfold bU;split<;>rfl
 |aP cs=>rfl
 |fb cs=>rfl
 |dx cs q=>rfl
 |_=>simp only[dC,bU];split<;>rfl
theorem Ah{γ O o n:Nat}{b':Option Nat}{au:HB}{w':World}{v:Value}(h:Qt C ρ fr hp tmps w)(hx:Ext (fun b=>ρ γ=some b/\∃hb,hp γ=some hb/\hb.fz=false) w w')(bz:O≠γ)
  (hr:fm ρ hp w O o n v):fm (rb ρ γ b') (Qj hp γ au) w' O o n v:=
 fm.move hr ⟨qA bz,fun hb aj=>⟨hb,by simp[Qj,bz,aj],rfl,Kae _,fun b cap h1 h2=>
  mw (hx.block b (mB h2) (fun⟨e1,lF,e2,_⟩=>bz (h.inj O γ b (by simp[aj]) (by simp[e2]) h1 e1))) h2⟩⟩
theorem fm.slice{O o n:Nat}{v:Value}(h:fm ρ hp w O o n v):∃ad m c,v= .slice ad m c:=by
 obtain⟨_,_,_,⟨_,e,_⟩|⟨_,_,_,e,_⟩⟩:=h
 ·exact⟨_,_,_,e⟩
 ·exact⟨_,_,_,e⟩
theorem H8{O:Nat}(h:1000000<=O):bW O=true:=by simp[bW];omega
theorem L5{O:Nat}(h:2000000<=O):aQ O=false:=by simp[aQ];omega
theorem Qt.JM{γ b ty cap:Nat}{cur:Array Value}{xs:List PV}(h:Qt C ρ (gi γ fr) hp tmps w)(hB:bW γ=true)(ah:hp γ=some ⟨1,ty,[],false⟩)(bE:ρ γ=some b)
  (h1:w.heap[b]? =some (.cells cur ty (0,0))) (h2:cur.size=cap) (h3:xs.length<=cap) (h4:cap<=maxLen) (hr:xs.all nn=true)
  (h6:∀(i O n:Nat),xs[i]? =some (.ax O 0 n)->fm ρ hp w O 0 n (cur.getD i undef)):Qt C ρ (FW.ae (gi γ fr) γ (.aJ γ 1 ty xs)) hp tmps w:=by
 have qU:∀(i:Nat)(x:PV),xs[i]? =some x->∃O n,x= .ax O 0 n/\5000000<=O:=fun i x hx=>K3 (Kav.1 hr _ (Kai hx));have:=h.OB (w':=w) (γ:=γ) (b:=b) (e:=1) (ty:=ty) (xs':=xs) (cur':=cur) (cap:=cap) hB (by omega) ah rfl rfl rfl rfl bE (Ext.refl _ _) (fun _ _ h=>h) h1 (by omega) h3 h4
  (fun i x hx=>by obtain⟨O,n,rfl,_⟩:=qU i x hx;rfl)
  (fun i x hx j y hy=>by
   obtain⟨O,n,rfl,aj⟩:=qU i x hx;rw[show(PV.ax O 0 n).bg=[.ax O 0 n]from rfl]at hy;have hj:j<1:=by have:=(Kaf.1 hy).1;simpa using this
   obtain rfl:j=0:=by omega
   simp at hy;subst hy;rw[Kcn,KaP];exact⟨H8 (by omega),h6 i O n hx⟩)
 rwa[VG]at this
theorem H9{γ k cap:Nat}{ρ':Nat->Option Nat}{hp':HP}{b ty:Nat}{cur:Array Value}(hB:bW γ=true)(h1:hp' γ=some ⟨1,ty,[],false⟩)(h2:ρ' γ=some b)(h3:w.heap[b]? =some (.cells cur ty (0,0)))(h4:cur.size=cap)(h5:cap<=maxLen)(h6:k<=cap):
  Qk C ρ' hp' w (.aL γ 0 k) (.slice (some ⟨b,0,none⟩) k cap):=
 ⟨hB,⟨1,ty,[],false⟩,b,cap,h1,h2,by simp,⟨cur,ty,h3,by simp[h4]⟩,by omega,h6⟩
theorem Q9y{o:Oper}{t e:TypeId}{len n by_:Nat}{z:PV}{parts:Array (Nat×Operand)}{ps:List aM}{d:Nat}{Q:Exit->Act->World->Prop}(ho:o.op= .buildSlice t len parts)(hd:o.dst=some d)(ao:d<C.N)(aZ:a.defers=[])(h:Qt C ρ fr hp a.tmps w)
  (hu:C.P.underlying t=some (.slice e)) (hz:ln C.P e=some (n,by_,z)) (vL:parts.toList.map (·.1)=List.range len) (lJ:z.cells.length=n) (fZ:(parts.toList.mapM fun p=>cj p.2)=some ps)
  (nL:ot (ps.map (ev fr))=true) (hv:WR n e (ps.map (ev fr)) d fr hp K):o.wp C.P a w (cY C true w K) Q:=by
 obtain⟨rfl,hK⟩:=hv;obtain⟨ti,zv,i1,i2,i3,i4,i5⟩:=uG hz;obtain⟨m1,m2⟩:=nh fZ;obtain⟨u,rfl⟩:∃u,ps=[u]:=by
  match ps,nL with
  | [],hb=>simp[ot]at hb
  | [u],_=>exact⟨u,rfl⟩
  |u::v::ps,hb=>simp[ot]at hb
 have qU:nn (ev fr u)=true:=by simpa[ot]using nL
 obtain⟨O,m,tP,aj⟩:=K3 qU;obtain⟨⟨i,x⟩,zo⟩:∃p,parts.toList=[p]:=by
  match hq:parts.toList with
  | []=>rw[hq]at m1;simp at m1
  | [p]=>exact⟨p,rfl⟩
  |p::q::r=>rw[hq]at m1;simp at m1
 rw[zo]at vL m2;obtain rfl:len=1:=by have:=congrArg List.length vL;simpa using this.symm
 obtain rfl:i=0:=by simpa using vL
 have hxu:cj x=some u:=by obtain⟨x',aX,dv⟩:=m2 0 u rfl;simp at aX;subst aX;exact dv
 have hx:=cP h hxu;rw[tP]at hx;have ua:fm ρ hp w O 0 m (a.eval x):=hx;obtain⟨ad,m',c',hvx⟩:=ua.slice;have hN:=C.hN;have sj:dB d<5000000:=by unfold dB;omega
 have hB:bW (dB d)=true:=H8 (by unfold dB;omega);have hY:aQ (dB d)=false:=L5 (by unfold dB;omega);obtain⟨hs,he⟩:=h.zK (dB d) hY Ac ⟨1,e,[],false⟩ #[a.eval x] 1 _ (.inl rfl) (by simp) (by simp) (by rw[ni];omega) (by simp) (by simp) (by simp);have dF:=hs.JM (cur:= #[a.eval x]) (cap:=1) (xs:=[.ax O 0 m]) hB (by simp[Qj]) (ij _ _ _) (n6 w _) (by simp) (by simp) (by rw[ni];omega) (by simp[nn,aj]) (fun i bY n' hi=>by
  match i,hi with
  |0,hi=>simp at hi;obtain⟨rfl,rfl⟩:=hi;exact Ah h (Ext.alloc w _ _) (by omega) ua
  |i+1,hi=>simp at hi)
 rw[Kbn,KbG,tP]at hK;refine js (v:=.slice (some ⟨w.heap.size,0,none⟩) 1 1) ?_ (cY.mo hd ao aZ dF (fun _=>he) (H9 hB (by simp[Qj]) (ij _ _ _) (n6 w _) (by simp) (by rw[ni];omega) (by omega)) hK);unfold execOp;have NV:(parts.map fun x=>match x with|(i,x)=>(i,a.eval x)).toList=[(0,a.eval x)]:=by simp[zo]
 simp only[ho,Instr.buildSlice,Kal,Q9 hu,Kaj,mz (show eV C.P e=some 1 by simp[eV,i1,i3]),NV];simp[KaW,Kal,xQ i1 i2,Instr.fill,hvx,Value.cells,newRow,show Array.range 1= #[0]from rfl]
theorem Q62{o:Oper}{t:TypeId}{n:Nat}{x:Operand}{cs:List PV}{d:Nat}{Q:Exit->Act->World->Prop}(ho:o.op= .box t x)(hd:o.dst=some d)(ao:d<C.N)(aZ:a.defers=[])(h:Qt C ρ fr hp a.tmps w)
  (hx:Qk C ρ hp w (.aP cs) (a.eval x)) (hv:wI n t cs d fr hp K):o.wp C.P a w (cY C true w K) Q:=by
 obtain⟨⟨hlen,hn,hU,nR⟩,hK⟩:=hv;obtain⟨vs,ex,fh,l9⟩:=hx;have hN:=C.hN;have hB:bW (dB d)=true:=H8 (by unfold dB;omega);have hY:aQ (dB d)=false:=L5 (by unfold dB;omega);obtain⟨hs,he⟩:=h.zK (dB d) hY Ac ⟨n,t,[],false⟩ vs 1 _ (.inl rfl) (by simp;omega) (by simp) (by rw[ni];omega) hn (by simp) (by simp);have bo:∀(i:Nat)(y:PV),cs[i]? =some y->cZ C (rb ρ (dB d) (some w.heap.size)) (Qj hp (dB d) ⟨n,t,[],false⟩) (w.alloc (.cells vs t)) y (vs.getD i undef):=fun i y hi=>by
  have hm:=Kai hi;have ZQ:∀O∈y.dO,O≠dB d:=fun O aj e=>by have:=Kav.1 nR y hm;subst e;simp[aj]at this
  refine(l9 i y hi).move ⟨fun b hb _=>GY w _ b hb,fun b hb hX=>?_,by rw[GZ];omega⟩ (fun O aj=>⟨qA (ZQ O aj),fun hb hh=>⟨hb,by simp[Qj,ZQ O aj,hh],rfl,Kae _,fun b cap _ hc=>mw (GY w _ b (mB hc)) hc⟩⟩);rintro(bR|⟨γ,hg,h1,h2,h3⟩)
  ·exact hX (.inl bR)
  ·by_cases ah:γ=dB d
   ·subst ah;rw[ij]at h3;cases h3;omega
   ·refine hX (.inr ⟨γ,hg,?_,h2,by rwa[qA ah]at h3⟩);simpa[Qj,ah]using h1
 have:=hs.OB (w':=w.alloc (.cells vs t)) (γ:=dB d) (b:=w.heap.size) (e:=n) (ty:=t) (xs':=[.aP cs]) (cur':=vs) (cap:=1) hB hn (show Qj hp (dB d) ⟨n,t,[],false⟩ (dB d)=some ⟨n,t,[],false⟩by simp[Qj]) rfl rfl rfl rfl (ij _ _ _) (Ext.refl _ _) (fun _ _ h=>h) (n6 w _) (by omega) (by simp) (by rw[ni];omega)
  (fun i x hx=>by
   match i,hx with
   |0,hx=>simp at hx;subst hx;exact hlen
   |i+1,hx=>simp at hx)
  (fun i x hx j y hy=>by
   match i,hx with
   |0,hx=>simp at hx;subst hx;rw[Kb3,Ka1];exact bo j y hy
   |i+1,hx=>simp at hx)
 rw[VG]at this;refine js (v:=.pointer (some ⟨w.heap.size,0,none⟩)) (w':=w.alloc (.cells vs t)) ?_ (cY.mo (p:=.np (dB d) 0 0) hd ao aZ this (fun _=>he) ⟨hB,w.heap.size,⟨n,t,[],false⟩,ij _ _ _,by simp[Qj],by simp⟩ hK);unfold execOp;simp only[ho,Instr.box,newVar,newRow,ex,Value.cells];simp
theorem Q63{o:Oper}{t:TypeId}{n:Nat}{x:Operand}{px:PV}{d:Nat}{Q:Exit->Act->World->Prop}(ho:o.op= .box t x)(hd:o.dst=some d)(ao:d<C.N)(aZ:a.defers=[])(h:Qt C ρ fr hp a.tmps w)
  (hx:Qk C ρ hp w px (a.eval x)) (hv:fQ n t px d fr hp K):o.wp C.P a w (cY C true w K) Q:=
 Q9u ho hd ao aZ h hx (fun _ e hb=>Q62 ho hd ao aZ h (e▸hx) hb) hv
theorem Q64 {o:Oper} {s x:Operand} {t e:TypeId} {n by_:Nat} {z:PV} {ps px:PV} {d:Nat} {Q:Exit->Act->World->Prop}
  (ho:o.op= .call { callee:=.builtin .append,args:= #[s,x],argTypes:= #[t,t] }) (hd:o.dst=some d) (ao:d<C.N) (aZ:a.defers=[]) (h:Qt C ρ fr hp a.tmps w)
  (hu:C.P.underlying t=some (.slice e)) (hz:ln C.P e=some (n,by_,z)) (lJ:z.cells.length=n) (hs:Qk C ρ hp w ps (a.eval s)) (hx:Qk C ρ hp w px (a.eval x))
  (hv:AR n by_ e ps px d fr hp K):o.wp C.P a w (cY C false w K) Q:=by
 obtain⟨ti,zv,i1,i2,i3,i4,i5⟩:=uG hz;have hN:=C.hN;have sj:dB d<5000000:=by unfold dB;omega
 have Xp:bW (dB d)=true:=H8 (by unfold dB;omega);have hYd:aQ (dB d)=false:=L5 (by unfold dB;omega);unfold AR at hv;split at hv
 ·rename_i δ;split at hv
  ·rename_i O1 ty' y auE;obtain⟨rfl,hyr,rfl,hv⟩:=hv;obtain⟨O,m,rfl,aj⟩:=K3 hyr;obtain⟨_,axk,b,cap,gδ,rδ,ex,_,_,_⟩:=hx;have EJ:=h.dm O1;rw[auE]at EJ;obtain⟨_,_,b2,cN,cur,yJ,q1,q2,q3,q4,q5,q6,q7,q8,q9,_,vV⟩:=EJ;rw[gδ]at q2;cases q2;rw[rδ]at q1;cases q1;rw[Kb3]at ex;have dw:=vV 0 _ rfl 0 (.ax O 0 m) rfl;simp only[Kb3,Ka1]at dw;have ua:fm ρ hp w O 0 m (cur.getD 0 undef):=dw.2;obtain⟨ad,m',c',Jc⟩:=ua.slice;have h0s:0<cur.size:=by simp at q8;omega
   have pX:w.cell? ⟨b,0,none⟩=some (cur.getD 0 undef):=mr q6 h0s;obtain⟨u,hu0⟩:∃u,cur.getD 0 undef=u:=⟨_,rfl⟩
   rw[hu0]at ua Jc pX;have BL:∀(j:Nat)(v:Value),[u][j]? =some v->w.cell? ((⟨b,0,none⟩:Addr).add j)=some v:=fun j v hj=>by
    have Zv:j<1:=by have:=(Kaf.1 hj).1;simpa using this
    obtain rfl:j=0:=by omega
    simp at hj;subst hj;rw[KbQ,KaP];exact pX
   have vR:zv.cells.size=1:=by have:=(uA (w:=w) (X:=aI C ρ hp) i5).cells.1;omega
   split at hv
   ·obtain⟨hb,hK⟩:=hv;have es:=hs.zL;have bQ:=run_append_nil (P:=C.P) w t o.type e ti zv hu i1 i2 ⟨b,0,none⟩ 1 cap [u] (by simp[i3]) BL (by omega) (by omega) (by rw[i4];omega);have iw:=grownCap_ge w 1 0 e;have nM:=grownCap_le_maxLen w 1 0 e (by rw[ni];omega);generalize grownCap w 1 0 e=G at bQ iw nM;have l9:([u].toArray++Builtin.zeroCells zv.cells (G-1)).size=G:=by simp[size_zeroCells,vR];omega
    have aul:([u].toArray++Builtin.zeroCells zv.cells (G-1)).size=G*1:=by omega
    have oL:([u].toArray++Builtin.zeroCells zv.cells (G-1)).getD 0 undef=u:=by rw[lP,if_pos (by simp),xS];rfl
    obtain⟨fM,_⟩:=h.zK (dB d) hYd Ac ⟨1,e,[],false⟩ ([u].toArray++Builtin.zeroCells zv.cells (G-1)) G _ (.inr rfl) aul (by simp) nM (by simp) (by simp) (by simp);have dF:=fM.JM (cap:=G) (xs:=[.ax O 0 m]) Xp (by simp[Qj]) (ij _ _ _) (n6 w.drew _) l9 (by simpa using iw) nM (by simp[nn,aj]) (fun i bY n' hi=>by
     match i,hi with
     |0,hi=>simp at hi;obtain⟨rfl,rfl⟩:=hi;rw[oL];exact Ah h ((Ext.drew w _).trans (Ext.alloc w.drew _ _)) (by omega) ua
     |i+1,hi=>simp at hi)
    exact js (vY ho es ex bQ) (cY.mo hd ao aZ dF (by simp) (H9 Xp (by simp[Qj]) (ij _ _ _) (n6 w.drew _) l9 nM iw) hK)
   ·rename_i γ k;split at hv
    ·rename_i bj qt xs auD;obtain⟨⟨rfl,axU,hY,rfl,rfl,mV,hby,Fa⟩,⟨hb,ah,nO⟩,hK⟩:=hv;obtain⟨hB,vB,b1,IE,g1,g2,es,g4,g5,g6⟩:=hs;rw[ah]at g1;cases g1;have EJ:=h.dm bj;rw[auD]at EJ;obtain⟨_,_,WN,au,mH,vk,p1,p2,p3,p4,p5,p6,p7,p8,p9,_,p11⟩:=EJ;rw[ah]at p2;cases p2;rw[g2]at p1;cases p1;rw[Kb3]at es;obtain⟨aw4,axW,d1,d2⟩:=g4;rw[p6]at d1;cases d1;rw[p4,Kcn,Ka1]at d2;rw[Kcn]at p7;obtain rfl:vk=IE:=by omega
     have Z':∀(i bY n':Nat),xs[i]? =some (.ax bY 0 n')->fm ρ hp w bY 0 n' (mH.getD i undef):=fun i bY n' hi=>by have:=p11 i _ hi 0 (.ax bY 0 n') rfl;simp only[Kcn,KaP]at this;exact this.2
     have aaa:∀(i bY n':Nat),xs[i]? =some (.ax bY 0 n')->bY≠bj:=fun i bY n' hi=>by have:=Kav.1 mV _ (Kai hi);simp[nn]at this;omega
     have bC:(xs++[PV.ax O 0 m]).all nn=true:=by rw[List.all_append,mV];simp[nn,aj]
     have aS:=(h.own bj hb ah).bV;rw[g2]at aS;obtain⟨o1,o2,_⟩:=aS;replace o1:=Ctx.w9 o1 hY;have BM:∀u'∈[u],u'.oneCell'=true:=by intro u' nV;simp at nV;subst nV;rw[Jc];rfl
     by_cases BQ:xs.length+1<=vk
     ·have bQ:=run_append_room (P:=C.P) w t o.type qt ti hu i1 b1 xs.length vk mH p6 ⟨b,0,none⟩ 1 cap [u] (by simp[i3]) BL BM BQ (by simp[i3];omega);rw[i3,Kcn]at bQ;have qN:xs.length+[u].length<=mH.size:=by simp;omega
      have mb:=Cr (cur:=mH) (p:=xs.length) (cs:=[u]) qN;have jl:=fun k hk=>Cq (cur:=mH) (p:=xs.length) (cs:=[u]) (k:=k) qN hk;generalize hW:(mH.toList.take xs.length++[u]++mH.toList.drop (xs.length+[u].length)).toArray=W at bQ mb jl;have hE:Ext (fun c=>ρ bj=some c/\∃hb,hp bj=some hb/\hb.fz=false) w (w.setRow b1 W):=(Ct w b1 W).mono (fun i _ hi=>⟨hi▸g2,hb,ah,nO⟩);have NG:(w.setRow b1 W).heap[b1]? =some (.cells W qt (0,0)):=setRow_heap w b1 mH W qt _ p6;have fM:=h.B3 (w':=w.setRow b1 W) bj (some b1) ⟨1,qt,[],false⟩ hY Ac hE
       (fun c hc=>by cases hc;exact⟨o1,by simpa using o2,.inr ⟨g2,hb,ah,nO⟩⟩) (by simp) (by simp) (by simp)
       (fun c hc=>by cases hc;exact⟨W,vk,NG,by simp[mb];omega,by simp,p9,by simp⟩)
      have dF:=fM.JM (cap:=vk) (xs:=xs++[.ax O 0 m]) hB (by simp[Qj]) (ij _ _ _) NG (by omega) (by simpa using BQ) p9 bC (fun i bY n' hi=>by
       rw[Ka3]at hi;by_cases fp:i<xs.length
       ·rw[if_pos fp]at hi;rw[jl i (by omega),if_neg (by omega)];exact Ah h hE (aaa i bY n' hi) (Z' i bY n' hi)
       ·rw[if_neg fp]at hi;have sr:i-xs.length<1:=by have:=(Kaf.1 hi).1;simpa using this
        obtain rfl:i=xs.length:=by omega
        rw[Kbw]at hi;simp at hi;obtain⟨rfl,rfl⟩:=hi;rw[jl _ (by omega),if_pos (by simp),Kbw];exact Ah h hE (by omega) ua)
      exact js (vY ho es ex bQ) (cY.mo hd ao aZ dF (by simp) (H9 hB (by simp[Qj]) (ij _ _ _) NG (by omega) p9 BQ) hK)
     ·have gM:(mH.toList.take xs.length).length=xs.length:=by simp;omega
      have holds:∀(j:Nat)(v:Value),(mH.toList.take xs.length)[j]? =some v->w.cell? ((⟨b1,0,none⟩:Addr).add j)=some v:=fun j v hj=>by
       have aT:j<xs.length:=by have:=(Kaf.1 hj).1;omega
       rw[KaI aT]at hj;rw[KbQ,Ka1,mr p6 (by omega),GX mH j v hj]
      have bQ:=run_append_grow (P:=C.P) w t o.type qt ti zv hu i1 i2 ⟨b1,0,none⟩ xs.length vk (mH.toList.take xs.length) (by rw[gM,i3,Kcn]) holds ⟨b,0,none⟩ 1 cap [u] (by simp[i3]) BL
       (by omega) (by omega) (growslice_fits (by omega) (by rw[i4];exact hby))
      have iw:=grownCap_ge w (xs.length+1) vk qt;have nM:=grownCap_le_maxLen w (xs.length+1) vk qt (by rw[ni];exact Fa);generalize grownCap w (xs.length+1) vk qt=G at bQ iw nM;have l9:((mH.toList.take xs.length).toArray++[u].toArray++Builtin.zeroCells zv.cells (G-(xs.length+1))).size=G:=by simp only[Kci,KaV,gM,size_zeroCells,vR,Kaz,KaR];omega
      have kk:∀i,i<xs.length+1->((mH.toList.take xs.length).toArray++[u].toArray++Builtin.zeroCells zv.cells (G-(xs.length+1))).getD i undef=if i<xs.length then mH.getD i undef else u:=fun i hi=>by
       rw[lP,if_pos (by simp only[Kci,KaV,gM,Kaz,KaR];omega),lP,KaV,gM];by_cases fp:i<xs.length
       ·rw[if_pos fp,if_pos fp,xS,Kac,KaI fp];simp[KaL]
       ·rw[if_neg fp,if_neg fp,xS,show i-xs.length=0 by omega];rfl
      generalize hW:(mH.toList.take xs.length).toArray++[u].toArray++Builtin.zeroCells zv.cells (G-(xs.length+1))=W at bQ l9 kk;obtain⟨fM,_⟩:=h.zK bj hY Ac ⟨1,qt,[],false⟩ W G _ (.inr rfl) (by simp[l9]) (by simp) nM (by simp) (by simp) (by simp);have hE:Ext (fun c=>ρ bj=some c/\∃hb,hp bj=some hb/\hb.fz=false) w (w.drew.alloc (.cells W qt)):=(Ext.drew w _).trans (Ext.alloc w.drew _ _);have dF:=fM.JM (cap:=G) (xs:=xs++[.ax O 0 m]) hB (by simp[Qj]) (ij _ _ _) (n6 w.drew _) l9 (by simpa using iw) nM bC (fun i bY n' hi=>by
       rw[Ka3]at hi;by_cases fp:i<xs.length
       ·rw[if_pos fp]at hi;rw[kk i (by omega),if_pos fp];exact Ah h hE (aaa i bY n' hi) (Z' i bY n' hi)
       ·rw[if_neg fp]at hi;have sr:i-xs.length<1:=by have:=(Kaf.1 hi).1;simpa using this
        obtain rfl:i=xs.length:=by omega
        rw[Kbw]at hi;simp at hi;obtain⟨rfl,rfl⟩:=hi;rw[kk _ (by omega),if_neg (by omega)];exact Ah h hE (by omega) ua)
      exact js (vY ho es ex bQ) (cY.mo hd ao aZ dF (by simp) (H9 hB (by simp[Qj]) (ij _ _ _) (n6 w.drew _) l9 nM iw) hK)
    ·exact hv.elim
   ·exact hv.elim
  ·exact hv.elim
 ·exact hv.elim
theorem Q9z{o:Oper}{t e:TypeId}{len n by_:Nat}{z:PV}{parts:Array (Nat×Operand)}{ps:List aM}{d:Nat}{Q:Exit->Act->World->Prop}(ho:o.op= .buildSlice t len parts)(hd:o.dst=some d)(ao:d<C.N)(aZ:a.defers=[])(h:Qt C ρ fr hp a.tmps w)
  (hu:C.P.underlying t=some (.slice e)) (hz:ln C.P e=some (n,by_,z)) (vL:parts.toList.map (·.1)=List.range len) (aaj:len*n<=16777216) (lJ:z.cells.length=n) (fZ:(parts.toList.mapM fun p=>cj p.2)=some ps)
  (hv:l7 n e (ps.map (ev fr)) d fr hp K):o.wp C.P a w (cY C true w K) Q:=by
 unfold l7 at hv;split at hv
 ·rename_i hb;exact Q9y ho hd ao aZ h hu hz vL lJ fZ hb hv
 ·exact afW ho hd ao aZ h hu hz vL aaj lJ fZ hv
theorem Q65{o:Oper}{s x:Operand}{t e:TypeId}{n by_:Nat}{z:PV}{ps px:PV}{d:Nat}{Q:Exit->Act->World->Prop}
  (ho:o.op= .call { callee:=.builtin .append,args:= #[s,x],argTypes:= #[t,t] }) (hd:o.dst=some d) (ao:d<C.N) (aZ:a.defers=[]) (h:Qt C ρ fr hp a.tmps w)
  (hu:C.P.underlying t=some (.slice e)) (hz:ln C.P e=some (n,by_,z)) (lJ:z.cells.length=n) (hs:Qk C ρ hp w ps (a.eval s)) (hx:Qk C ρ hp w px (a.eval x))
  (hv:jz n by_ e ps px d fr hp K):o.wp C.P a w (cY C false w K) Q:=
 Q9w ho hd ao aZ h hu hz lJ hs hx (fun _ hn=>Q64 ho hd ao aZ h hu hz lJ hs hx hn) hv
end Go.FW
namespace Go.FW
open Go
variable {C : Ctx} {ρ : Nat -> Option Nat} {fr : Fr} {hp : HP} {w : World} {a : Act} {K : Qg}
theorem Q02 {P : Program} {g : FuncId} (hg : (P.funcs[g]?).any (fun fn => fn.body.isSome && fn.name != "runtime.NumGoroutine") = true) (args : Array Value) (w : World) :
  (callFunc g args).run P w= .ok (.enter g args) w:=by
 cases hf:P.funcs[g]? with
 |none=>simp[hf]at hg
 |some fn=>
  simp only[hf,Option.any_some,Ka2,bne_iff_ne,ne_eq]at hg;obtain⟨h1,h2⟩:=hg;have h3:fn.body.isNone=false:=by cases hb:fn.body<;>simp[hb]at h1⊢
  have h4 : (fn.name == "runtime.NumGoroutine") = false := by simpa using h2
  have hn:¬(fn.body=none):=fun he=>by simp[he]at h1
  unfold callFunc;simp[hf,h2,hn]
theorem Q66{o:Oper}{f:Operand}{args:Array Operand}{ts:Array TypeId}{pf:aM}{aU:List aM}{pr:Bool}{Q:Exit->Act->World->Prop}
  (ho:o.op= .call { callee:=.value f,args:=args,argTypes:=ts }) (ao:∀d,o.dst=some d->d<C.N) (aZ:a.defers=[]) (h:Qt C ρ fr hp a.tmps w)
  (hf:cj f=some pf) (dk:args.toList.mapM cj=some aU) (hv:gF C pr (ev fr pf) (aU.map (ev fr)) o.dst fr hp K):o.wp C.P a w (cY C pr w K) Q:=by
 have xw:=cP h hf;unfold gF at hv;split at hv
 ·rename_i g first cap tP
  rw[tP]at xw;obtain⟨hg,aug⟩:=hv;obtain⟨fv,cv,ef,h1,h2,h3,h4⟩:=xw;obtain⟨m1,m2⟩:=LG h dk;have au9:(args.toList.map a.eval).toArray=args.map a.eval:=Array.ext' (by simp);rw[au9]at m2;have hc:=aug ρ a.tmps w fv cv (args.map a.eval) ao h h1 h2 (by simpa using m1.symm) h3 h4 m2;have hex:(execOp a.eval o).run C.P w= .ok (.enter g (fv++args.map a.eval++cv)) w:=by unfold execOp;simp only[ho,resolve,Kal,KaW,Kaj,ef,Deferred.ofValue,invoke];rw[Q02 hg]
  unfold Oper.wp;rw[hex];refine hc.mono fun e w' hp'=>?_;obtain⟨v,aC,hp',rfl,hs,hx,hK⟩:=hp';refine⟨by rw[xV];exact aZ,⟨aC,hp',?_,hK⟩,hx⟩;cases hd:o.dst with
  |some d=>rw[hd]at hs;exact hs
  |none=>rw[hd]at hs;exact hs
 ·exact hv.elim
theorem wc{α:Type}{xs:Array α}{l:List α}(h:xs.toList=l):xs=l.toArray:=by subst h;simp
theorem CT{P:Program}{t e:TypeId}(h:uW P t=some e):P.underlying t=some (.slice e):=by
 unfold uW at h;split at h
 ·rename_i hq;cases h;exact hq
 ·cases h
theorem UI{dr:Bool}{o:Oper}(cJ:(gq C.P dr o).cls=0)(ao:∀d,o.dst=some d->d<C.N)(h:Qt C ρ fr hp a.tmps w)(hv:bA C (gq C.P dr o) fr hp K):Qx C ρ o a w K:=by
 unfold gq at cJ hv;cases aa:n8 C.P dr o with
 |none=>rw[aa]at hv;exact hv.elim
 | some so=>
  rw[aa]at cJ hv;simp only[Ka9]at cJ hv;unfold n8 at aa;split at aa
  case h_1 x d hop hd=>simp only[Kaa]at aa;obtain⟨y,hy,rfl⟩:=aa;exact Pg (.inl hop) hd (ao d hd) h (cP h hy) hv
  case h_2 x d hop hd=>simp only[Kaa]at aa;obtain⟨y,hy,rfl⟩:=aa;exact Pg (.inr hop) hd (ao d hd) h (cP h hy) hv
  case h_3 c x y d hop hd=>
   simp only[Kab,Kaa]at aa;obtain⟨pc,hc,px,hx,py,hy,rfl⟩:=aa;exact Q6x hop hd (ao d hd) h (cP h hc) (cP h hx) (cP h hy) hv
  case h_4 op t x y t2 d hop hd=>
   simp only[Kab,Kaa]at aa;obtain⟨px,hx,py,hy,rfl⟩:=aa;unfold Ca at hv;split at hv
   ·rename_i ng vJ;split at vJ
    ·rename_i dF;exact Q9o hop vJ dF hd (ao d hd) h (cP h hx) (cP h hy) hv
    ·cases vJ
   split at hv
   ·rename_i ng vJ;split at vJ
    ·rename_i dF;exact Q9m hop vJ dF hd (ao d hd) h (cP h hx) (cP h hy) hv
    ·cases vJ
   refine Q9i hop hd (ao d hd) h (cP h hx) (cP h hy) (fun hb=>?_) hv;split at hb
   ·assumption
   ·cases hb
  case h_5 op t x d hop hd=>simp only[Kaa]at aa;obtain⟨y,hy,rfl⟩:=aa;exact agl hop hd (ao d hd) h (cP h hy) hv
  case h_6 s t x d hop hd=>
   split at aa
   ·rename_i ds k hS hT;simp only[Kaa]at aa;obtain⟨y,hy,rfl⟩:=aa;exact Q6w hop hd (ao d hd) h hS hT (cP h hy) hv
   ·cases aa
  case h_7 t x i d hop hd=>
   simp only[Kab]at aa;obtain⟨px,hx,pi,hi,aa⟩:=aa;split at aa
   ·rename_i e hu;simp only[Kaa]at aa;obtain⟨n,hn,rfl⟩:=aa;exact Q9p hop hd (ao d hd) h hu hn (cP h hx) (cP h hi) hv
   ·rename_i len e hu;simp only[Kaa]at aa;obtain⟨n,hn,rfl⟩:=aa;exact Q6y hop hd (ao d hd) h hu hn (cP h hx) (cP h hi) hv
   ·cases aa
  case h_8 t x i d hop hd=>
   simp only[Kab]at aa;obtain⟨px,hx,pi,hi,aa⟩:=aa;split at aa
   ·rename_i len e hu;simp only[Kab,Kaa]at aa;obtain⟨n,hn,ag,kj,rfl⟩:=aa;exact Q9s hop hd (ao d hd) h hu hn kj (cP h hx) (cP h hi) hv
   ·rename_i hu;cases aa;exact Q9r hop hd (ao d hd) h hu (cP h hx) (cP h hi) hv
   ·cases aa
  case h_9 t x j d hop hd=>
   simp only[Kab]at aa;obtain⟨px,hx,aa⟩:=aa;split at aa
   ·rename_i fs hu;simp only[Kab]at aa;obtain⟨f,hf,n,hn,aa⟩:=aa;split at aa
    ·cases aa
    ·rename_i jk;simp only[KaD]at aa;subst aa;exact Q9q hop hd (ao d hd) h hu hf hn jk (cP h hx) hv
   ·cases aa
  case h_10 t x j d hop hd=>
   simp only[Kab]at aa;obtain⟨px,hx,aa⟩:=aa;split at aa
   ·rename_i fs hu;simp only[Kab,Kaa]at aa;obtain⟨f,hf,n,hn,ag,kj,rfl⟩:=aa;exact Q6z hop hd (ao d hd) h hu hf hn kj (cP h hx) hv
   ·cases aa
  case h_17 t parts d hop hd=>
   simp only[Kab,Kaa]at aa;obtain⟨⟨n,by_,z⟩,hz,ps,fZ,rfl⟩:=aa;simp only[bA,lW]at hv;split at hv
   ·exact Q61 hop hd (ao d hd) h hz fZ hv
   ·exact Q9t hop hd (ao d hd) h hz fZ hv
  case h_18 t x lo hi m d hop hd=>
   simp only[Kab,Kaa]at aa;obtain⟨px,hx,JR,mQ,Gc,xx,pm,hm,e,he,n,hn,rfl⟩:=aa;have hu:C.P.underlying t=some (.slice e):=by
    unfold uW at he;split at he
    ·rename_i hq;cases he;exact hq
    ·cases he
   exact agp hop hd (ao d hd) h hu hn (cP h hx) mQ xx hm hv
  case h_19 x i d hop hd=>simp only[Kaa]at aa;obtain⟨y,hy,rfl⟩:=aa;exact Q9n hop hd (ao d hd) h (cP h hy) hv
  case h_20 f first cap d hop hd=>
   simp only[Kab,Kaa]at aa;obtain⟨pf,h1,pc,h2,rfl⟩:=aa;exact agq hop hd (ao d hd) h h1 h2 hv
  case h_11=>simp only[Kab,Kaa]at aa;obtain⟨_,_,_,_,_,_,rfl⟩:=aa;cases cJ
  case h_12=>simp only[Kab,Kaa]at aa;obtain⟨_,_,_,_,_,_,rfl⟩:=aa;cases cJ
  case h_13=>simp only[Kab,Kaa]at aa;obtain⟨_,_,_,_,rfl⟩:=aa;cases cJ
  case h_14=>simp only[Kaa]at aa;obtain⟨_,_,rfl⟩:=aa;cases cJ
  case h_15=>simp only[Kab,Kaa]at aa;obtain⟨_,_,_,_,_,_,_,_,rfl⟩:=aa;cases cJ
  case h_16=>
   simp only[Kab]at aa;obtain⟨_,_,_,_,aa⟩:=aa;split at aa
   ·simp only[Kaa]at aa;obtain⟨_,_,rfl⟩:=aa;cases cJ
   ·cases aa
  case h_21 hop=>simp only[Kaa]at aa;obtain⟨y,hy,rfl⟩:=aa;exact Q60 hop ao h (cP h hy) hv
  case h_22 c hop=>
   obtain⟨callee,args,ts⟩:=c;split at aa
   ·simp only[Kab,Kaa]at aa;obtain⟨_,_,_,_,rfl⟩:=aa;cases cJ
   ·rename_i x t d si dk mU hd;obtain rfl:args= #[x]:=wc dk;obtain rfl:ts= #[t]:=wc mU;cases si;split at aa
    ·rename_i hs;simp only[Kaa]at aa;obtain⟨y,hy,rfl⟩:=aa;exact Q9l hop hd (ao d hd) h (cP h hy) hs hv
    simp only[Kab,Kaa]at aa;obtain⟨e,he,y,hy,rfl⟩:=aa;exact Q9k hop hd (ao d hd) h (cP h hy) (CT he) hv
   ·rename_i x y d si dk hd;simp only[Kab,Kaa]at aa;obtain⟨px,hx,py,hy,rfl⟩:=aa;obtain rfl:args= #[x,y]:=wc dk;cases si;exact agj hop hd (ao d hd) h (cP h hx) (cP h hy) hv
   ·rename_i x y d si dk hd;simp only[Kab,Kaa]at aa;obtain⟨px,hx,py,hy,rfl⟩:=aa;obtain rfl:args= #[x,y]:=wc dk;cases si;exact agk hop hd (ao d hd) h (cP h hx) (cP h hy) hv
   ·simp only[Kab]at aa;obtain⟨_,_,_,_,_,_,aa⟩:=aa;split at aa
    ·simp only[Kab]at aa;obtain⟨_,_,aa⟩:=aa;split at aa
     ·cases aa;cases cJ
     ·cases aa
    ·cases aa
   ·simp only[Kab]at aa;obtain⟨_,_,_,_,_,_,aa⟩:=aa;split at aa
    ·simp only[Kaa]at aa;obtain⟨_,_,rfl⟩:=aa;cases cJ
    ·cases aa
   ·cases aa
  case h_23=>cases aa
theorem UJ{dr:Bool}{o:Oper}(cJ:(gq C.P dr o).cls=1)(ao:∀d,o.dst=some d->d<C.N)(h:Qt C ρ fr hp a.tmps w)(hv:bA C (gq C.P dr o) fr hp K):Dp C ρ o a w K:=by
 unfold gq at cJ hv;cases aa:n8 C.P dr o with
 |none=>rw[aa]at hv;exact hv.elim
 | some so=>
  rw[aa]at cJ hv;simp only[Ka9]at cJ hv;unfold n8 at aa;split at aa
  case h_11 t x d hop hd=>
   simp only[Kab,Kaa]at aa;obtain⟨px,hx,n,hn,ag,kj,rfl⟩:=aa;exact ago hop hd (ao d hd) h hn kj (cP h hx) hv
  case h_1=>simp only[Kaa]at aa;obtain⟨_,_,rfl⟩:=aa;cases cJ
  case h_2=>simp only[Kaa]at aa;obtain⟨_,_,rfl⟩:=aa;cases cJ
  case h_3=>simp only[Kab,Kaa]at aa;obtain⟨_,_,_,_,_,_,rfl⟩:=aa;cases cJ
  case h_4=>simp only[Kab,Kaa]at aa;obtain⟨_,_,_,_,rfl⟩:=aa;unfold Ca at cJ;split at cJ<;>first|(cases cJ;done)|(split at cJ<;>cases cJ)
  case h_5=>simp only[Kaa]at aa;obtain⟨_,_,rfl⟩:=aa;cases cJ
  case h_6=>split at aa<;>first|cases aa|(simp only[Kaa]at aa;obtain⟨_,_,rfl⟩:=aa;cases cJ)
  case h_7=>
   simp only[Kab]at aa;obtain⟨_,_,_,_,aa⟩:=aa;split at aa<;>first|cases aa|(simp only[Kaa]at aa;obtain⟨_,_,rfl⟩:=aa;cases cJ)
  case h_8=>
   simp only[Kab]at aa;obtain⟨_,_,_,_,aa⟩:=aa;split at aa<;>first|(simp only[Kab,Kaa]at aa;obtain⟨_,_,_,_,rfl⟩:=aa;cases cJ)|(cases aa;done)|(cases aa;cases cJ)
  case h_9=>
   simp only[Kab]at aa;obtain⟨_,_,aa⟩:=aa;split at aa
   ·simp only[Kab]at aa;obtain⟨_,_,_,_,aa⟩:=aa;split at aa<;>first|(cases aa;done)|(simp only[KaD]at aa;subst aa;cases cJ)
   ·cases aa
  case h_10=>
   simp only[Kab]at aa;obtain⟨_,_,aa⟩:=aa;split at aa<;>first|(cases aa;done)|(simp only[Kab,Kaa]at aa;obtain⟨_,_,_,_,_,_,rfl⟩:=aa;cases cJ)
  case h_12=>simp only[Kab,Kaa]at aa;obtain⟨_,_,_,_,_,_,rfl⟩:=aa;cases cJ
  case h_13=>simp only[Kab,Kaa]at aa;obtain⟨_,_,_,_,rfl⟩:=aa;cases cJ
  case h_14=>simp only[Kaa]at aa;obtain⟨_,_,rfl⟩:=aa;cases cJ
  case h_15=>simp only[Kab,Kaa]at aa;obtain⟨_,_,_,_,_,_,_,_,rfl⟩:=aa;cases cJ
  case h_16=>
   simp only[Kab]at aa;obtain⟨_,_,_,_,aa⟩:=aa;split at aa
   ·simp only[Kaa]at aa;obtain⟨_,_,rfl⟩:=aa;cases cJ
   ·cases aa
  case h_17=>simp only[Kab,Kaa]at aa;obtain⟨_,_,_,_,rfl⟩:=aa;cases cJ
  case h_18=>simp only[Kab,Kaa]at aa;obtain⟨_,_,_,_,_,_,_,_,_,_,_,_,rfl⟩:=aa;cases cJ
  case h_19=>simp only[Kaa]at aa;obtain⟨_,_,rfl⟩:=aa;cases cJ
  case h_20=>simp only[Kab,Kaa]at aa;obtain⟨_,_,_,_,rfl⟩:=aa;cases cJ
  case h_21=>simp only[Kaa]at aa;obtain⟨_,_,rfl⟩:=aa;cases cJ
  case h_22=>
   split at aa
   ·simp only[Kab,Kaa]at aa;obtain⟨_,_,_,_,rfl⟩:=aa;cases cJ
   ·split at aa
    ·simp only[Kaa]at aa;obtain⟨_,_,rfl⟩:=aa;cases cJ
    ·simp only[Kab,Kaa]at aa;obtain⟨_,_,_,_,rfl⟩:=aa;cases cJ
   ·simp only[Kab,Kaa]at aa;obtain⟨_,_,_,_,rfl⟩:=aa;cases cJ
   ·simp only[Kab,Kaa]at aa;obtain⟨_,_,_,_,rfl⟩:=aa;cases cJ
   ·simp only[Kab]at aa;obtain⟨_,_,_,_,_,_,aa⟩:=aa;split at aa
    ·simp only[Kab]at aa;obtain⟨_,_,aa⟩:=aa;split at aa
     ·cases aa;cases cJ
     ·cases aa
    ·cases aa
   ·simp only[Kab]at aa;obtain⟨_,_,_,_,_,_,aa⟩:=aa;split at aa
    ·simp only[Kaa]at aa;obtain⟨_,_,rfl⟩:=aa;cases cJ
    ·cases aa
   ·cases aa
  case h_23=>cases aa
theorem Qx.wp{o:Oper}{two:Bool}{Q:Exit->Act->World->Prop}(aZ:a.defers=[])(h:Qx C ρ o a w K):o.wp C.P a w (cY C two w K) Q:=by obtain⟨v,hr,aC,hp',hs,hK⟩:=h;exact js (hr w) ⟨by rw[xV];exact aZ,⟨aC,hp',⟨ρ,hs⟩,hK⟩,fun _=>Ext.refl _ _⟩
theorem Dp.wp{o:Oper}{two:Bool}{Q:Exit->Act->World->Prop}(aZ:a.defers=[])(h:Dp C ρ o a w K):o.wp C.P a w (cY C two w K) Q:=by obtain⟨v,b,_,hr,aC,hp',hs,hK⟩:=h;exact js (hr w rfl) ⟨by rw[xV];exact aZ,⟨aC,hp',⟨ρ,hs⟩,hK⟩,fun _=>Ext.refl _ _⟩
theorem cY.mono{two abd:Bool}{a':Act}{w':World}(h2:abd=true->two=true)(h:cY C two w K a' w'):cY C abd w K a' w':=⟨h.1,h.2.1,fun hh=>h.2.2 (h2 hh)⟩
theorem afZ{dr:Bool}{o:Oper}{Q:Exit->Act->World->Prop}(ao:∀d,o.dst=some d->d<C.N)(aZ:a.defers=[])(h:Qt C ρ fr hp a.tmps w)(hv:bA C (gq C.P dr o) fr hp K):
  o.wp C.P a w (cY C (!(gq C.P dr o).jI) w K) Q:=by
 by_cases h0:(gq C.P dr o).cls=0
 ·exact(UI h0 ao h hv).wp aZ
 by_cases h1:(gq C.P dr o).cls=1
 ·exact(UJ h1 ao h hv).wp aZ
 unfold gq at h0 h1 hv⊢;cases aa:n8 C.P dr o with
 |none=>rw[aa]at hv;exact hv.elim
 | some so=>
  rw[aa]at h0 h1 hv;simp only[Ka9]at h0 h1 hv⊢;have fin:∀ {two:Bool},(so.jI=false->two=true)->o.wp C.P a w (cY C two w K) Q->o.wp C.P a w (cY C (!so.jI) w K) Q:=fun h2 hw=>
   Oper.wp_mono (fun a' w' hA=>hA.mono (fun hh=>h2 (by simpa using hh))) hw
  unfold n8 at aa;split at aa
  case h_12 t x y hop hd=>
   simp only[Kab,Kaa]at aa;obtain⟨px,hx,py,hy,n,hn,rfl⟩:=aa;exact fin (by simp[cI.jI]) (afY hop hd aZ h hn (cP h hx) (cP h hy) hv)
  case h_13 t x d hop hd=>
   simp only[Kab,Kaa]at aa;obtain⟨px,hx,n,hn,rfl⟩:=aa;exact fin (fun _=>rfl) (Q63 hop hd (ao d hd) aZ h (cP h hx) hv)
  case h_14 t d hop hd=>
   simp only[Kaa]at aa;obtain⟨⟨n,by_,z⟩,hz,rfl⟩:=aa;obtain⟨ti,zv,i1,i2,_,_,i5⟩:=uG hz;exact fin (fun _=>rfl) (Q3z hop hd (ao d hd) aZ h i1 i2 i5 hv)
  case h_15 t l c d hop hd=>
   simp only[Kab,Kaa]at aa;obtain⟨pl,hl,pc,hc,e,he,⟨n,by_,z⟩,hz,rfl⟩:=aa;exact fin (fun _=>rfl) (ags hop hd (ao d hd) aZ h (CT he) hz (cP h hl) (cP h hc) hv)
  case h_16 t len parts d hop hd=>
   simp only[Kab]at aa;obtain⟨e,he,⟨n,by_,z⟩,hz,aa⟩:=aa;split at aa
   ·rename_i ED;simp only[Kaa]at aa;obtain⟨ps,fZ,rfl⟩:=aa;exact fin (fun _=>rfl) (Q9z hop hd (ao d hd) aZ h (CT he) hz ED.1 ED.2.1 ED.2.2 fZ hv)
   ·cases aa
  case h_22 c hop=>
   obtain⟨callee,args,ts⟩:=c;split at aa
   ·rename_i f si;simp only[Kab,Kaa]at aa;obtain⟨pf,hf,aU,dk,rfl⟩:=aa;cases si;exact fin (two:=dr&& !RU C.P pf) (fun hh=>by simpa[cI.jI]using hh) (Q66 hop ao aZ h hf dk hv)
   ·split at aa
    ·simp only[Kaa]at aa;obtain⟨_,_,rfl⟩:=aa;exact absurd rfl h0
    ·simp only[Kab,Kaa]at aa;obtain⟨_,_,_,_,rfl⟩:=aa;exact absurd rfl h0
   ·simp only[Kab,Kaa]at aa;obtain⟨_,_,_,_,rfl⟩:=aa;exact absurd rfl h0
   ·simp only[Kab,Kaa]at aa;obtain⟨_,_,_,_,rfl⟩:=aa;exact absurd rfl h0
   ·rename_i s x t u d si dk mU hd;simp only[Kab]at aa;obtain⟨ps,hs,px,hx,e,he,aa⟩:=aa;split at aa
    ·rename_i N8;subst N8;simp only[Kab]at aa;obtain⟨⟨n,by_,z⟩,hz,aa⟩:=aa;split at aa
     ·rename_i lJ;simp only[KaD]at aa;subst aa;obtain rfl:args= #[s,x]:=wc dk;obtain rfl:ts= #[t,t]:=wc mU;cases si;exact fin (by simp[cI.jI]) (Q65 hop hd (ao d hd) aZ h (CT he) hz lJ (cP h hs) (cP h hx) hv)
     ·cases aa
    ·cases aa
   ·rename_i s x t u d si dk mU hd;simp only[Kab]at aa;obtain⟨ps,hs,px,hx,e,he,aa⟩:=aa;split at aa
    ·rename_i N8;subst N8;simp only[Kaa]at aa;obtain⟨n,hn,rfl⟩:=aa;obtain rfl:args= #[s,x]:=wc dk;obtain rfl:ts= #[t,t]:=wc mU;cases si;exact fin (by simp[cI.jI]) (Q9x hop hd (ao d hd) aZ h (CT he) hn (cP h hs) (cP h hx) hv)
    ·cases aa
   ·cases aa
  all_goals exfalso
  case h_1=>simp only[Kaa]at aa;obtain⟨_,_,rfl⟩:=aa;exact h0 rfl
  case h_2=>simp only[Kaa]at aa;obtain⟨_,_,rfl⟩:=aa;exact h0 rfl
  case h_3=>simp only[Kab,Kaa]at aa;obtain⟨_,_,_,_,_,_,rfl⟩:=aa;exact h0 rfl
  case h_4=>simp only[Kab,Kaa]at aa;obtain⟨_,_,_,_,rfl⟩:=aa;exact h0 (by unfold Ca;split<;>first|rfl|(split<;>rfl))
  case h_5=>simp only[Kaa]at aa;obtain⟨_,_,rfl⟩:=aa;exact h0 rfl
  case h_6=>split at aa<;>first|(cases aa;done)|(simp only[Kaa]at aa;obtain⟨_,_,rfl⟩:=aa;exact h0 rfl)
  case h_7=>
   simp only[Kab]at aa;obtain⟨_,_,_,_,aa⟩:=aa;split at aa<;>first|(cases aa;done)|(simp only[Kaa]at aa;obtain⟨_,_,rfl⟩:=aa;exact h0 rfl)
  case h_8=>
   simp only[Kab]at aa;obtain⟨_,_,_,_,aa⟩:=aa;split at aa<;>first|(cases aa;done)|(simp only[Kab,Kaa]at aa;obtain⟨_,_,_,_,rfl⟩:=aa;exact h0 rfl)|(cases aa;exact h0 rfl)
  case h_9=>
   simp only[Kab]at aa;obtain⟨_,_,aa⟩:=aa;split at aa
   ·simp only[Kab]at aa;obtain⟨_,_,_,_,aa⟩:=aa;split at aa<;>first|(cases aa;done)|(simp only[KaD]at aa;subst aa;exact h0 rfl)
   ·cases aa
  case h_10=>
   simp only[Kab]at aa;obtain⟨_,_,aa⟩:=aa;split at aa<;>first|(cases aa;done)|(simp only[Kab,Kaa]at aa;obtain⟨_,_,_,_,_,_,rfl⟩:=aa;exact h0 rfl)
  case h_11=>simp only[Kab,Kaa]at aa;obtain⟨_,_,_,_,_,_,rfl⟩:=aa;exact h1 rfl
  case h_17=>simp only[Kab,Kaa]at aa;obtain⟨_,_,_,_,rfl⟩:=aa;exact h0 rfl
  case h_18=>simp only[Kab,Kaa]at aa;obtain⟨_,_,_,_,_,_,_,_,_,_,_,_,rfl⟩:=aa;exact h0 rfl
  case h_19=>simp only[Kaa]at aa;obtain⟨_,_,rfl⟩:=aa;exact h0 rfl
  case h_20=>simp only[Kab,Kaa]at aa;obtain⟨_,_,_,_,rfl⟩:=aa;exact h0 rfl
  case h_21=>simp only[Kaa]at aa;obtain⟨_,_,rfl⟩:=aa;exact h0 rfl
  case h_23=>cases aa
end Go.FW
namespace Go.FW
open Go
variable {C : Ctx} {ρ : Nat -> Option Nat} {fr : Fr} {hp : HP} {w : World} {a : Act} {K : Qg}
theorem af0(h:Qt C ρ fr hp a.tmps w){s:Nat}(hs:s<C.N):a.tmps[s]? =some (a.tmps.getD s undef):=by
 have:s<a.tmps.size:=by rw[h.sz];exact hs
 simp[Array.getD,this]
theorem TZ{dr:Bool}{ops:Array Oper}{o:Oper}{g:n5}(h:Qt C ρ fr hp a.tmps w)(hc:lQ C.P C.N dr ops o=some g)(hv:fl C g.g g.o fr hp K):
  (∀d,o.dst=some d->d<C.N)/\g.o=gq C.P dr o/\
  ((Region.wanted o (yielded ops a.tmps)=true/\bA C g.o fr hp K)∨(Region.wanted o (yielded ops a.tmps)=false/\kF g.o fr hp K)):=by
 unfold lQ at hc;split at hc
 ·rename_i bC;have ao:∀d,o.dst=some d->d<C.N:=fun d hd=>by rw[hd]at bC;simpa using bC
  cases hg:o.guard with
  |none=>rw[hg]at hc;cases hc;exact⟨ao,rfl,.inl ⟨by simp[Region.wanted,hg],hv⟩⟩
  | some jw=>
   obtain⟨j,want⟩:=jw;rw[hg]at hc;simp only at hc;split at hc
   ·rename_i s hs;split at hc
    ·rename_i hsN;cases hc;refine⟨ao,rfl,?_⟩;have ht:=af0 h hsN;have hr:=h.dm s;simp only[fl]at hv;split at hv
     ·rename_i t pY;rw[pY]at hr;have hb:=hr.Bk;have hy:yielded ops a.tmps j=some t:=by simp only[yielded,hs,Kcb,ht,hb]
      have zt:∀b,t=b->ae fr s (.bool b)=fr:=fun b au=>by
       funext i;unfold ae;split
       ·rename_i hi;subst hi;subst au;exact pY.symm
       ·rfl
      by_cases hw:t=want
      ·refine .inl ⟨by simp[Region.wanted,hg,hy,hw],?_⟩;have:=hv.1 hw
       rwa[zt want hw]at this
      ·have uc:t= !want:=by cases t<;>cases want<;>simp_all
       refine .inr ⟨by simp[Region.wanted,hg,hy,hw],?_⟩;have:=hv.2 uc
       rwa[zt _ uc]at this
     ·rename_i pY;rw[pY]at hr;obtain⟨vs,ev,fh,_⟩:=hr;have Fu:vs= #[]:=KbR (by simpa using fh);have hy:yielded ops a.tmps j=none:=by simp only[yielded,hs,Kcb,ht,ev]
      exact .inr ⟨by simp[Region.wanted,hg,hy],hv⟩
     ·exact hv.elim
    ·cases hc
   ·cases hc
 ·cases hc
theorem RR{dr:Bool}{o:Oper}:(gq C.P dr o).dst=o.dst:=by
 unfold gq;cases aa:n8 C.P dr o with
 |none=>rfl
 | some so=>
  simp only[Ka9];unfold n8 at aa;split at aa
  case h_1 hd=>simp only[Kaa]at aa;obtain⟨_,_,rfl⟩:=aa;exact hd.symm
  case h_2 hd=>simp only[Kaa]at aa;obtain⟨_,_,rfl⟩:=aa;exact hd.symm
  case h_3 hd=>simp only[Kab,Kaa]at aa;obtain⟨_,_,_,_,_,_,rfl⟩:=aa;exact hd.symm
  case h_4 hd=>simp only[Kab,Kaa]at aa;obtain⟨_,_,_,_,rfl⟩:=aa;unfold Ca;split<;>first|exact hd.symm|(split<;>exact hd.symm)
  case h_5 hd=>simp only[Kaa]at aa;obtain⟨_,_,rfl⟩:=aa;exact hd.symm
  case h_6 hd=>split at aa<;>first|(cases aa;done)|(simp only[Kaa]at aa;obtain⟨_,_,rfl⟩:=aa;exact hd.symm)
  case h_7 hd=>
   simp only[Kab]at aa;obtain⟨_,_,_,_,aa⟩:=aa;split at aa<;>first|(cases aa;done)|(simp only[Kaa]at aa;obtain⟨_,_,rfl⟩:=aa;exact hd.symm)
  case h_8 hd=>
   simp only[Kab]at aa;obtain⟨_,_,_,_,aa⟩:=aa;split at aa<;>first|(cases aa;done)|(simp only[Kab,Kaa]at aa;obtain⟨_,_,_,_,rfl⟩:=aa;exact hd.symm)|(cases aa;exact hd.symm)
  case h_9 hd=>
   simp only[Kab]at aa;obtain⟨_,_,aa⟩:=aa;split at aa
   ·simp only[Kab]at aa;obtain⟨_,_,_,_,aa⟩:=aa;split at aa<;>first|(cases aa;done)|(simp only[KaD]at aa;subst aa;exact hd.symm)
   ·cases aa
  case h_10 hd=>
   simp only[Kab]at aa;obtain⟨_,_,aa⟩:=aa;split at aa<;>first|(cases aa;done)|(simp only[Kab,Kaa]at aa;obtain⟨_,_,_,_,_,_,rfl⟩:=aa;exact hd.symm)
  case h_11 hd=>simp only[Kab,Kaa]at aa;obtain⟨_,_,_,_,_,_,rfl⟩:=aa;exact hd.symm
  case h_12 hd=>simp only[Kab,Kaa]at aa;obtain⟨_,_,_,_,_,_,rfl⟩:=aa;exact hd.symm
  case h_13 hd=>simp only[Kab,Kaa]at aa;obtain⟨_,_,_,_,rfl⟩:=aa;exact hd.symm
  case h_14 hd=>simp only[Kaa]at aa;obtain⟨_,_,rfl⟩:=aa;exact hd.symm
  case h_15 hd=>simp only[Kab,Kaa]at aa;obtain⟨_,_,_,_,_,_,_,_,rfl⟩:=aa;exact hd.symm
  case h_16 hd=>
   simp only[Kab]at aa;obtain⟨_,_,_,_,aa⟩:=aa;split at aa
   ·simp only[Kaa]at aa;obtain⟨_,_,rfl⟩:=aa;exact hd.symm
   ·cases aa
  case h_17 hd=>simp only[Kab,Kaa]at aa;obtain⟨_,_,_,_,rfl⟩:=aa;exact hd.symm
  case h_18 hd=>simp only[Kab,Kaa]at aa;obtain⟨_,_,_,_,_,_,_,_,_,_,_,_,rfl⟩:=aa;exact hd.symm
  case h_19 hd=>simp only[Kaa]at aa;obtain⟨_,_,rfl⟩:=aa;exact hd.symm
  case h_20 hd=>simp only[Kab,Kaa]at aa;obtain⟨_,_,_,_,rfl⟩:=aa;exact hd.symm
  case h_21=>simp only[Kaa]at aa;obtain⟨_,_,rfl⟩:=aa;rfl
  case h_22=>
   split at aa
   ·simp only[Kab,Kaa]at aa;obtain⟨_,_,_,_,rfl⟩:=aa;rfl
   ·rename_i hd;split at aa
    ·simp only[Kaa]at aa;obtain⟨_,_,rfl⟩:=aa;exact hd.symm
    ·simp only[Kab,Kaa]at aa;obtain⟨_,_,_,_,rfl⟩:=aa;exact hd.symm
   ·rename_i hd;simp only[Kab,Kaa]at aa;obtain⟨_,_,_,_,rfl⟩:=aa;exact hd.symm
   ·rename_i hd;simp only[Kab,Kaa]at aa;obtain⟨_,_,_,_,rfl⟩:=aa;exact hd.symm
   ·rename_i hd;simp only[Kab]at aa;obtain⟨_,_,_,_,_,_,aa⟩:=aa;split at aa
    ·simp only[Kab]at aa;obtain⟨_,_,aa⟩:=aa;split at aa
     ·cases aa;exact hd.symm
     ·cases aa
    ·cases aa
   ·rename_i hd;simp only[Kab]at aa;obtain⟨_,_,_,_,_,_,aa⟩:=aa;split at aa
    ·simp only[Kaa]at aa;obtain⟨_,_,rfl⟩:=aa;exact hd.symm
    ·cases aa
   ·cases aa
  case h_23=>cases aa
theorem Q67{dr two:Bool}{o:Oper}(ao:∀d,o.dst=some d->d<C.N)(aZ:a.defers=[])(h:Qt C ρ fr hp a.tmps w)(hv:kF (gq C.P dr o) fr hp K):cY C two w K (a.put o.dst undef) w:=by
 unfold kF at hv;rw[RR]at hv;cases hd:o.dst with
 |some d=>rw[hd]at hv;exact⟨aZ,⟨_,hp,⟨ρ,h.ae Qk.abc (ao d hd)⟩,hv⟩,fun _=>Ext.refl _ _⟩
 |none=>rw[hd]at hv;exact⟨aZ,⟨fr,hp,⟨ρ,h⟩,hv⟩,fun _=>Ext.refl _ _⟩
theorem K4{dr:Bool}{ops:Array Oper}{i:Nat}{o:Oper}{g:n5}{Q:Exit->Act->World->Prop}(hi:ops[i]? =some o)(aZ:a.defers=[])(h:Qt C ρ fr hp a.tmps w)(hc:lQ C.P C.N dr ops o=some g)(hv:fl C g.g g.o fr hp K):
  wpOp C.P ops Q i (cY C (!(gq C.P dr o).jI) w K) a w:=by
 obtain⟨ao,EM,EA⟩:=TZ h hc hv;rw[EM]at EA;unfold wpOp;simp only[hi];rcases EA with⟨hw,hv⟩|⟨hw,hv⟩
 ·rw[if_pos hw];exact .inl (afZ ao aZ h hv)
 ·rw[hw];simp only[KaY,if_false];exact Q67 ao aZ h hv
def Gs(C:Ctx)(K:Qg)(Q:Exit->Act->World->Prop):Prop:=∀fr hp (a:Act) w,a.defers=[]->eE C fr hp a.tmps w->K fr hp->Q .normal a w
theorem Dq{C:Ctx}{R:Qg}{sk:List It}{fr:Fr}{hp:HP}:vc C R (.o .nil::sk) fr hp=vc C R sk fr hp:=by rw[vc]
theorem DF{C:Ctx}{R:Qg}{sk:List It}{g:Option (Nat×Bool)}{o:cI}{r:RT}{fr:Fr}{hp:HP}:vc C R (.o (.o g o r)::sk) fr hp=fl C g o fr hp (vc C R (.o r::sk)):=by rw[vc]
theorem Te{C:Ctx}{R:Qg}{sk:List It}{x y:RT}{fr:Fr}{hp:HP}:vc C R (.o (.br x y)::sk) fr hp=(vc C R (.o x::sk) fr hp/\vc C R (.o y::sk) fr hp):=by rw[vc]
theorem Ic{C:Ctx}{R:Qg}{sk:List It}{r:RT}{fr:Fr}{hp:HP}:vc C R (.o (.wk r)::sk) fr hp=∃aO aA,Wk fr hp aO aA/\vc C R (.o r::sk) aO aA:=by rw[vc]
theorem Ar{C:Ctx}{R:Qg}{sk:List It}{tmps:Array Value}{w:World}:∀(r:RT)(fr:Fr)(hp:HP),eE C fr hp tmps w->vc C R (.o r::sk) fr hp->
  ∃r' aC hp',r'.strip=r.strip/\(∀x,r'≠ .wk x)/\eE C aC hp' tmps w/\vc C R (.o r'::sk) aC hp':=by
 intro r;induction r with
 |wk r ih=>intro fr hp hs hv;rw[Ic]at hv;obtain⟨aO,aA,hw,hv⟩:=hv;exact ih aO aA (hw _ _ _ hs) hv
 |nil=>exact fun fr hp hs hv=>⟨_,fr,hp,rfl,(fun x h=>by cases h),hs,hv⟩
 |o=>exact fun fr hp hs hv=>⟨_,fr,hp,rfl,(fun x h=>by cases h),hs,hv⟩
 |br=>exact fun fr hp hs hv=>⟨_,fr,hp,rfl,(fun x h=>by cases h),hs,hv⟩
theorem VR{r:RT}(h:r.strip= .nil)(hn:∀x,r≠ .wk x):r= .nil:=by
 cases r with
 |nil=>rfl
 |wk x=>exact absurd rfl (hn x)
 |_=>simp[RT.strip]at h
theorem L6{r s:RT}{g:Option (Nat×Bool)}{o:cI}(h:r.strip= .o g o s)(hn:∀x,r≠ .wk x):∃r',r= .o g o r'/\r'.strip=s:=by
 cases r with
 |o g' o' r'=>simp only[RT.strip,RT.o.injEq]at h;obtain⟨rfl,rfl,h⟩:=h;exact⟨r',rfl,h⟩
 |wk x=>exact absurd rfl (hn x)
 |_=>simp[RT.strip]at h
theorem af1{r a b:RT}(h:r.strip= .br a b)(hn:∀x,r≠ .wk x):∃a' b',r= .br a' b'/\a'.strip=a/\b'.strip=b:=by
 cases r with
 |br a' b'=>simp only[RT.strip,RT.br.injEq]at h;exact⟨a',b',rfl,h.1,h.2⟩
 |wk x=>exact absurd rfl (hn x)
 |_=>simp[RT.strip]at h
theorem UU{R:Qg}{sk:List It}{ops:Array Oper}{Q:Exit->Act->World->Prop}(hQ:Gs C (vc C R sk) Q):∀(gs:List n5)(is:List Nat)(r:RT)(fr:Fr)(hp:HP)(a:Act)(w:World),
  is.length=gs.length->(∀(k i:Nat)(g:n5),is[k]? =some i->gs[k]? =some g->∃o,ops[i]? =some o/\lQ C.P C.N false ops o=some g)->
  a.defers=[]->eE C fr hp a.tmps w->r.strip=AW gs->vc C R (.o r::sk) fr hp->wpOps C.P ops Q is a w
 | [],[],r,fr,hp,a,w,_,_,aZ,hs,hr,hv=>by obtain⟨r',aC,hp',h1,h2,hs,hv⟩:=Ar r fr hp hs hv;obtain rfl:=VR (h1.trans hr) h2;rw[Dq]at hv;exact hQ aC hp' a w aZ hs hv
 | [],i::is,_,_,_,_,_,hl,_,_,_,_,_=>by simp at hl
 |g::gs,[],_,_,_,_,_,hl,_,_,_,_,_=>by simp at hl
 |g::gs,i::is,r,fr,hp,a,w,hl,hc,aZ,hs,hr,hv=>by obtain⟨o,ho,aa⟩:=hc 0 i g rfl rfl;obtain⟨r',aC,hp',h1,h2,⟨ρ,hs⟩,hv⟩:=Ar r fr hp hs hv;obtain⟨r2,rfl,lH⟩:=L6 (h1.trans hr) h2;rw[DF]at hv;rw[wpOps_cons];refine wpOp_mono (fun a' w' hA=>?_) (K4 ho aZ hs aa hv);obtain⟨nN,⟨aC,hp',fg,qj⟩,_⟩:=hA;exact UU hQ gs is r2 aC hp' a' w' (by simpa using hl) (fun k j g' h1 h2=>hc (k+1) j g' (by simpa using h1) (by simpa using h2)) nN fg lH qj
end Go.FW
namespace Go.FW
open Go
section
variable {P : Program} {ops : Array Oper} {Q : Exit -> Act -> World -> Prop}
def yj(P:Program)(ops:Array Oper)(Q:Exit->Act->World->Prop)(jI:Nat->Bool):Nat->Array Bool->Act->World->Prop
 |0,bh,a,w=>Region.ready .any ops bh=[]/\Q .normal a w
 |fuel+1,bh,a,w=>
  (Region.ready .any ops bh=[]->Q .normal a w)/\
  ∀i∈Region.ready .any ops bh,wpOp P ops Q i (fun a' w'=>(jI i=false->Ext Q5 w w')/\yj P ops Q jI fuel (bh.setIfInBounds i true) a' w') a w
theorem K5(jI:Nat->Bool):∀(fuel:Nat)(bh:Array Bool)(a:Act)(w:World),yj P ops Q jI fuel bh a w->wpAny P .any ops Q fuel bh a w
 |0,_,_,_,h=>h
 |fuel+1,_,_,_,h=>⟨h.1,fun i hi=>wpOp_mono (fun a' w' h'=>K5 jI fuel _ a' w' h'.2) (h.2 i hi)⟩
def YF(P:Program)(ops:Array Oper)(all:Bool)(o:Oper)(v:Value)(a:Act)(w:World):Prop:=
 (Region.wanted o (yielded ops a.tmps)=true/\∀w',(all=true∨Ext Q5 w w')->(execOp a.eval o).run P w'= .ok (.value v) w')∨
 (Region.wanted o (yielded ops a.tmps)=false/\v=undef)
theorem YF.step{all:Bool}{o:Oper}{v:Value}{a a':Act}{w w':World}(hy:YF P ops all o v a w)(he:execOp a'.eval o=execOp a.eval o)
  (hw:Region.wanted o (yielded ops a'.tmps)=Region.wanted o (yielded ops a.tmps)) (hx:all=true∨Ext Q5 w w'):YF P ops all o v a' w':=by
 unfold YF at *
 rw[he,hw];rcases hy with⟨h1,h2⟩|h
 ·refine .inl ⟨h1,fun w2 h3=>h2 w2 ?_⟩;rcases hx with hx|hx
  ·exact .inl hx
  ·rcases h3 with h3|h3
   ·exact .inl h3
   ·exact .inr (hx.trans h3)
 ·exact .inr h
theorem YF.wpOp{all:Bool}{i:Nat}{o:Oper}{v:Value}{a:Act}{w:World}(hi:ops[i]? =some o)(hy:YF P ops all o v a w)
  {K:Act->World->Prop} (h:K (a.put o.dst v) w):Go.wpOp P ops Q i K a w:=by
 unfold Go.wpOp;simp only[hi];rcases hy with⟨hw,hv⟩|⟨hw,rfl⟩
 ·simp only[hw,if_true,Oper.wp,hv w (.inr (Ext.refl _ _)),Oper.upon];exact .inl h
 ·simp only[hw,KaY,if_false];exact h
theorem Q91{j:Nat}{oi oj:Oper}{v:Value}(hj:ops[j]? =some oj)(hap:oi.apart ops oj=true)
  (hsi:∀cs b,oi.op≠ .select cs b) (hsj:∀cs b,oj.op≠ .select cs b)
  (hQ:∀c a w,Q (.panic c) (a.put oi.dst v) w->Q (.panic c) a w) {K:Act->World->Prop} {a:Act} {w:World}
  (h:Go.wpOp P ops Q j K (a.put oi.dst v) w):
  Go.wpOp P ops Q j (fun a' w'=>(execOp a'.eval oi=execOp a.eval oi/\Region.wanted oi (yielded ops a'.tmps)=Region.wanted oi (yielded ops a.tmps))/\K (a'.put oi.dst v) w') a w:=by
 obtain⟨h1,h2,h3⟩:=Oper.apart_spec hap;have fI:∀u,execOp (a.put oj.dst u).eval oi=execOp a.eval oi/\Region.wanted oi (yielded ops (a.put oj.dst u).tmps)=Region.wanted oi (yielded ops a.tmps):=fun u=>
  ⟨execOp_put oi hsi a oj.dst u h3,wanted_put oi a oj.dst u h3⟩
 have awu:∀d u,execOp (({ a with defers:=d::a.defers }:Act).put oj.dst u).eval oi=execOp a.eval oi/\Region.wanted oi (yielded ops (({ a with defers:=d::a.defers }:Act).put oj.dst u).tmps)=Region.wanted oi (yielded ops a.tmps):=fun d u=>
  ⟨(execOp_put oi hsi ({ a with defers:=d::a.defers }:Act) oj.dst u h3).trans rfl,(wanted_put oi ({ a with defers:=d::a.defers }:Act) oj.dst u h3).trans rfl⟩
 unfold Go.wpOp at *
 simp only[hj]at *
 rw[wanted_put oj a oi.dst v h1]at h;split
 ·rename_i hw;simp only[hw,if_true]at h;rcases h with h|⟨XM,au4⟩
  case inr=>exact .inr ⟨by unfold Oper.asks at *;rw[execOp_put oj hsj a oi.dst v h1]at XM;exact XM,au4⟩
  refine .inl ?_;unfold Oper.wp at *
  rw[execOp_put oj hsj a oi.dst v h1]at h;generalize(execOp a.eval oj).run P w=r at *
  cases r with
  | ok n w'=>
   cases n<;>simp only[Oper.upon]at h⊢
   case value u=>exact⟨fI u,by rw[<-Act.put_comm a v u h2];exact h⟩
   case skip=>exact⟨fI _,by rw[<-Act.put_comm a v undef h2];exact h⟩
   case defer d=>
    refine⟨awu d _,?_⟩;rw[<-Act.put_comm _ v undef h2,<-Act.put_defers];exact h
   case enter f args=>
    refine Calls.mono h fun e w'' he=>?_;cases e with
    |returned u=>exact⟨fI u,by rw[<-Act.put_comm a v u h2];exact he⟩
    |panicked c=>exact hQ _ _ _ he
    |outgrown=>exact he
   case row row args=>exact Rows.mono h fun u w'' he=>⟨fI u,by rw[<-Act.put_comm a v u h2];exact he⟩
  |halt x w'=>
   cases x<;>simp only[Oper.upon]at h⊢
   case panic u=>exact hQ _ _ _ h
 ·rename_i hw;simp only[hw]at h;exact⟨fI _,by rw[<-Act.put_comm a v undef h2];exact h⟩
def nu(ops:Array Oper)(bh:Array Bool):Prop:=∀(j:Nat)(o:Oper),ops[j]? =some o->bh.getD j false=true->∀e∈o.after,Region.binds .any e=true->bh.getD e.on false=true
theorem nu.step{bh:Array Bool}{i:Nat}(h:nu ops bh)(hi:i∈Region.ready .any ops bh):nu ops (bh.setIfInBounds i true):=by
 intro j o hj hl e he hb;obtain⟨h0,oi,vK,bC⟩:=mem_ready.1 hi;by_cases Jk:i=j
 ·subst Jk;rw[hj]at vK;cases vK;exact getD_set_true (bC e he hb)
 ·rw[getD_set_ne false Jk]at hl;exact getD_set_true (h j o hj hl e he hb)
theorem Tx{bh:Array Bool}{i:Nat}(hd:nu ops bh):∀(n k:Nat),bh.getD k false=true->s8 ops n i k=true->bh.getD i false=true
 |0,_,_,h=>by simp[s8]at h
 | n+1,k,hk,h=>by
  unfold s8 at h;cases ho:ops[k]? with
  |none=>simp[ho]at h
  |some o=>
   simp only[ho,KaU,Ka2,KbE,beq_iff_eq]at h;obtain⟨e,he,hb,h⟩:=h;have hl:=hd k o ho hk e (by simpa using he) hb;rcases h with h|h
   ·rw[<-h];exact hl
   ·exact Tx hd n e.on hl h
theorem Qw9{bh:Array Bool}{i j n:Nat}(hd:nu ops bh)(hj:j∈Region.ready .any ops bh)(h:s8 ops n i j=true):bh.getD i false=true:=by
 obtain⟨_,o,ho,bC⟩:=mem_ready.1 hj;cases n with
 |zero=>simp[s8]at h
 |succ n=>
  unfold s8 at h;simp only[ho,KaU,Ka2,KbE,beq_iff_eq]at h;obtain⟨e,he,hb,h⟩:=h;have hl:=bC e (by simpa using he) hb;rcases h with h|h
  ·rw[<-h];exact hl
  ·exact Tx hd n e.on hl h
theorem VS{bh:Array Bool}{i:Nat}(h0:bh.getD i true=false):¬bh.getD i false=true:=by
 intro h1;rcases Kb1 i bh.size with h'|h'
 ·simp[h']at h0 h1;rw[h0]at h1;cases h1
 ·simp[Kbl h']at h1
theorem Q03{jI:Nat->Bool}{all:Bool}{i:Nat}{oi:Oper}{v:Value}(hi:ops[i]? =some oi)(aae:∀(j:Nat)(o:Oper) cs b,ops[j]? =some o->o.op≠ .select cs b)
  (hQ:∀c a w,Q (.panic c) (a.put oi.dst v) w->Q (.panic c) a w)
  (BP:all=true∨∀j,jI j=true->j<ops.size->s8 ops ops.size i j=true∨j=i):
  ∀(fuel:Nat)(bh:Array Bool)(a:Act)(w:World),nu ops bh->
   (∀j oj,ops[j]? =some oj->j≠i->bh.getD j true=false->(∀e∈oj.after,Region.binds .any e=true->e.on≠i)->oi.apart ops oj=true)->
   i∈Region.ready .any ops bh->YF P ops all oi v a w->
   yj P ops Q jI fuel (bh.setIfInBounds i true) (a.put oi.dst v) w->yj P ops Q jI (fuel+1) bh a w:=by
 intro fuel;induction fuel with
 | zero=>
  intro bh a w _ _ hr hy H;refine⟨fun h=>(by rw[h]at hr;cases hr),fun j hj=>?_⟩;by_cases hZ:j=i
  ·subst hZ;exact hy.wpOp hi ⟨fun _=>Ext.refl _ _,H⟩
  ·have:=ready_mono hj hZ;rw[H.1]at this;cases this
 | succ fuel ih=>
  intro bh a w XZ EK hr hy H;refine⟨fun h=>(by rw[h]at hr;cases hr),fun j hj=>?_⟩;by_cases hZ:j=i
  ·subst hZ;exact hy.wpOp hi ⟨fun _=>Ext.refl _ _,H⟩
  ·have h1:=H.2 j (ready_mono hj hZ);obtain⟨ZA,oj,tX,bC⟩:=mem_ready.1 hj;have Zt:¬bh.getD i false=true:=VS (mem_ready.1 hr).1;have avf:∀e∈oj.after,Region.binds .any e=true->e.on≠i:=fun e he hb heq=>Zt (heq▸bC e he hb);have h2:=Q91 tX (EK j oj tX hZ ZA avf) (fun cs b=>aae i oi cs b hi) (fun cs b=>aae j oj cs b tX) hQ h1;have auc:all=true∨jI j=false:=by
    rcases BP with h|h
    ·exact .inl h
    ·cases hb:jI j with
     |false=>exact .inr rfl
     |true=>
      have auQ:j<ops.size:=(Kan.1 tX).1;rcases h j hb auQ with h|h
      ·exact absurd (Qw9 XZ hj h) Zt
      ·exact absurd h hZ
   have auB:∀k ok,ops[k]? =some ok->k≠i->(bh.setIfInBounds j true).getD k true=false->
     (∀e∈ok.after,Region.binds .any e=true->e.on≠i)->oi.apart ops ok=true:=fun k ok hk vF qi nR=>by
    refine EK k ok hk vF ?_ nR;by_cases Zw:j=k
    ·subst Zw;exact ZA
    ·rw[getD_set_ne true Zw]at qi;exact qi
   refine wpOp_mono (fun a' w' h3=>?_) h2;obtain⟨⟨he,hw⟩,hx,zr⟩:=h3;refine⟨hx,ih (bh.setIfInBounds j true) a' w' (XZ.step hj) auB (ready_mono hr (Ne.symm hZ)) (hy.step he hw ?_) ?_⟩
   ·rcases auc with h|h
    ·exact .inl h
    ·exact .inr (hx h)
   ·rw[Array.setIfInBounds_comm _ _ hZ];exact zr
end
section
variable {C : Ctx} {ρ : Nat -> Option Nat} {fr : Fr} {hp : HP} {w : World} {a : Act} {K : Qg}
theorem TG{dr:Bool}{o:Oper}(ao:∀d,o.dst=some d->d<C.N)(h:Qt C ρ fr hp a.tmps w)(hv:kF (gq C.P dr o) fr hp K):∃aC hp',Qt C ρ aC hp' (a.put o.dst undef).tmps w/\K aC hp':=by
 unfold kF at hv;rw[RR]at hv;cases hd:o.dst with
 |some d=>rw[hd]at hv;exact⟨_,hp,h.ae Qk.abc (ao d hd),hv⟩
 |none=>rw[hd]at hv;exact⟨fr,hp,h,hv⟩
theorem amd{P:Program}{dr:Bool}{o:Oper}:(gq P dr o).cls=(gq P true o).cls:=by
 cases dr with
 |true=>rfl
 | false=>
  have h0:(n8 P false o).map cI.cls=(n8 P true o).map cI.cls:=by
   unfold n8;split<;>first|rfl|skip
   split<;>first|rfl|skip
   rename_i f _;cases h1:cj f with
   |none=>simp
   |some pf=>simp only[Kcb,Option.map_map];congr 1
  unfold gq;cases h1:n8 P false o<;>cases h2:n8 P true o<;>simp_all[cI.cls]
theorem TH {dr:Bool} {R:Qg} {sk:List It} {ops:Array Oper} {Q:Exit->Act->World->Prop} (Jq:Region.noSelect ops=true) (hQ:Gs C (vc C R sk) Q):∀(n:Nat) (bh:Array Bool) (r:RT) (fr:Fr) (hp:HP) (a:Act) (w:World),
  rF C.P C.N dr ops n bh=some r.strip->nu ops bh->a.defers=[]->eE C fr hp a.tmps w->vc C R (.o r::sk) fr hp->
  yj C.P ops (NoPanic Q) (AJ C.P dr ops) n bh a w:=by
 intro n;have done:∀(n:Nat)(bh:Array Bool)(r:RT)(fr:Fr)(hp:HP)(a:Act)(w:World),Region.ready .any ops bh=[]->a.defers=[]->eE C fr hp a.tmps w->r.strip= .nil->vc C R (.o r::sk) fr hp->yj C.P ops (NoPanic Q) (AJ C.P dr ops) n bh a w:=by
  intro n bh r fr hp a w hr aZ hs zp hv;obtain⟨r',fr,hp,h1,h2,hs,hv⟩:=Ar r fr hp hs hv;obtain rfl:=VR (h1.trans zp) h2;rw[Dq]at hv;have hq:NoPanic Q .normal a w:=hQ fr hp a w aZ hs hv;cases n with
  |zero=>exact⟨hr,hq⟩
  |succ n=>exact⟨fun _=>hq,by rw[hr];simp⟩
 induction n with
 | zero=>
  intro bh r fr hp a w ho hd aZ hs hv;unfold rF at ho;split at ho
  ·rename_i hr;exact done 0 bh r fr hp a w (by simpa using hr) aZ hs (KcF ho).symm hv
  ·cases ho
 | succ n ih=>
  intro bh r fr hp a w ho hd aZ hs hv;unfold rF at ho;split at ho
  ·rename_i hr;exact done (n+1) bh r fr hp a w (by simpa using hr) aZ hs (KcF ho).symm hv
  ·rename_i hr;obtain⟨r',fr,hp,e1,e2,hs,hv⟩:=Ar r fr hp hs hv;rw[<-e1]at ho;split at ho
   ·rename_i i auA;have iM:=List.find?_some auA;simp only[Kab,Kaa]at ho;obtain⟨g,⟨o,vK,Np⟩,r0,fL,y5⟩:=ho;obtain⟨r',rfl,rfl⟩:=L6 y5.symm e2;unfold J8 at iM;simp only[Ka2,List.contains_iff_mem]at iM;obtain⟨⟨Jt,EK⟩,cJ⟩:=iM;have Ja:wE C.P ops i=(gq C.P dr o).cls:=by rw[amd];simp[wE,vK]
    rw[DF]at hv;obtain⟨ρ,kU⟩:=hs;obtain⟨ao,EM,EA⟩:=TZ kU Np hv;rw[EM]at EA;have BP:∀all:Bool,(all=false->wE C.P ops i=1)->all=true∨∀j,AJ C.P dr ops j=true->j<ops.size->s8 ops ops.size i j=true∨j=i:=by
     intro all bC;cases all with
     |true=>exact .inl rfl
     |false=>
      refine .inr fun j hj qc=>?_;rw[bC rfl]at cJ;have:=Kav.1 cJ j (by simpa using qc);simp only[KbE,Bool.not_eq_true']at this;rcases this with h|h
      ·rw[hj]at h;cases h
      ·exact .inl h
    have fin:∀(all:Bool)(v:Value),(all=false->wE C.P ops i=1)->YF C.P ops all o v a w->(∃aC hp',Qt C ρ aC hp' (a.put o.dst v).tmps w/\vc C R (.o r'::sk) aC hp')->yj C.P ops (NoPanic Q) (AJ C.P dr ops) (n+1) bh a w:=by
     intro all v bC hy ⟨aC,hp',fg,qj⟩;exact Q03 vK (Region.noSelect_spec Jq) (fun _ _ _ h=>h) (BP all bC) n bh a w hd (Region.free_spec vK EK) Jt hy
      (ih _ r' aC hp' _ w fL (hd.step Jt) (by rw[xV];exact aZ) ⟨ρ,fg⟩ qj)
    rcases EA with⟨hw,hv⟩|⟨hw,hv⟩
    ·by_cases h0:wE C.P ops i=0
     ·obtain⟨v,bQ,zr⟩:=UI (by rw[<-Ja];exact h0) ao kU hv;exact fin true v (by simp) (.inl ⟨hw,fun w' _=>bQ w'⟩) zr
     ·by_cases h1:wE C.P ops i=1
      ·obtain⟨v,b,hb,bQ,zr⟩:=UJ (by rw[<-Ja];exact h1) ao kU hv;exact fin false v (fun _=>h1) (.inl ⟨hw,fun w' uc=>bQ w' (uc.elim (fun h=>by cases h) (fun h=>h.block b hb (fun h=>h)))⟩) zr
      ·split at cJ
       ·rename_i h;exact absurd h h0
       ·rename_i h;exact absurd h h1
       ·cases cJ
    ·by_cases h1:wE C.P ops i=1
     ·exact fin false undef (fun _=>h1) (.inr ⟨hw,rfl⟩) (TG ao kU hv)
     ·exact fin true undef (by simp) (.inr ⟨hw,rfl⟩) (TG ao kU hv)
   ·
    simp only[Kaa]at ho;obtain⟨rs,dw,y5⟩:=ho;obtain⟨m1,m2⟩:=nh dw;have hbr:∀(rs:List RT) (r':RT) (fr:Fr) (hp:HP),r'.strip=wX rs->eE C fr hp a.tmps w->vc C R (.o r'::sk) fr hp->∀r∈rs,∃r2 gk cg,r2.strip=r/\(∀x,r2≠ .wk x)/\eE C gk cg a.tmps w/\vc C R (.o r2::sk) gk cg:=by
     intro rs;induction rs with
     |nil=>intro _ _ _ _ _ _ r hr;cases hr
     | cons x xs mf=>
      intro r' fr hp fL hs hv r hr;obtain⟨r2,gk,cg,f1,f2,hs,hv⟩:=Ar r' fr hp hs hv;cases xs with
      |nil=>simp at hr;subst hr;exact⟨r2,gk,cg,f1.trans fL,f2,hs,hv⟩
      | cons y ys=>
       rw[wX]at fL
       ·obtain⟨a',b',rfl,g1,g2⟩:=af1 (f1.trans fL) f2;rw[Te]at hv;rcases KaH.1 hr with rfl|hr
        ·obtain⟨r3,II,qg,k1,k2,k3,k4⟩:=Ar a' gk cg hs hv.1;exact⟨r3,II,qg,k1.trans g1,k2,k3,k4⟩
        ·exact mf b' gk cg g2 hs hv.2 r hr
       ·simp
    refine⟨fun h0=>absurd (by rw[h0];rfl) hr,fun i hi=>?_⟩;obtain⟨k,hk⟩:=KaF hi;have BI:k<rs.length:=by rw[m1];exact(Kaf.1 hk).1
    obtain⟨i',aE,hf⟩:=m2 k _ (Kad BI);rw[hk]at aE;cases aE;simp only[Kab,Kaa]at hf;obtain⟨g,⟨o,vK,Np⟩,r0,fL,he⟩:=hf;obtain⟨r2,gk,cg,f1,f2,hs,qj⟩:=hbr rs r' fr hp y5.symm hs hv _ (Kag BI);obtain⟨r',rfl,rfl⟩:=L6 (f1.trans he.symm) f2;rw[DF]at qj;obtain⟨ρ,kU⟩:=hs;refine wpOp_mono (fun a' w' hA=>?_) (K4 vK aZ kU Np qj);obtain⟨nN,⟨aC,hp',fg,vN⟩,hx⟩:=hA;refine⟨fun hb=>hx ?_,ih _ r' aC hp' a' w' fL (hd.step hi) nN fg vN⟩;simpa[AJ,vK]using hb
theorem eE.drew{tmps:Array Value}(h:eE C fr hp tmps w):eE C fr hp tmps { w with drawn:=w.drawn+1 }:=by obtain⟨ρ,hs⟩:=h;exact⟨ρ,hs.grow (Ext.drew w _)⟩
theorem nu.start(ops:Array Oper):nu ops (Array.replicate ops.size false):=by intro j o _ hl;exfalso;simp[Array.getD]at hl
theorem LI{s:SC}{r:RT}(h:s.strip= .rg r):∃r',s= .rg r'/\r'.strip=r:=by
 cases s with
 |rg r'=>simp only[SC.strip,SC.rg.injEq]at h;exact⟨r',rfl,h⟩
 |_=>simp[SC.strip]at h
theorem Q04{R:Qg}{sk:List It}{ops:Array Oper}{draw:Bool}{id:Nat}{s:SC}{Q:Exit->Act->World->Prop}(hm:C.P.follows .mixedOrders=true)(hQ:Gs C (vc C R sk) Q)
  (hc:CS C.P C.N ops draw=some s.strip) (aZ:a.defers=[]) (hs:eE C fr hp a.tmps w) (hv:vc C R (.c s::sk) fr hp):(Code.region id ops draw).wp C.P Q a w:=by
 unfold CS at hc;split at hc
 ·rename_i hd;subst hd;split at hc
  ·rename_i Jq;have key:∀(dr:Bool)(zI:Nat)(s:SC),CR C.P C.N ops dr zI=some s.strip->vc C R (.c s::sk) fr hp->(Code.region id ops true).wp C.P Q a w:=by
    intro dr zI s hc hv;unfold CR at hc;split at hc
    ·cases hc
    split at hc
    ·rename_i r0 hr;split at hc
     ·obtain⟨r,rfl,rfl⟩:=LI (KcF hc).symm;rw[vc]at hv;exact wp_region_noPanic (wp_region_any hm (K5 _ _ _ _ _ (TH Jq hQ _ _ r fr hp a _ hr (nu.start ops) aZ hs.drew hv)))
     ·cases hc
    ·cases hc
   split at hc
   ·rename_i s' fg;cases hc;split at fg
    ·simp only[Kaa]at fg;obtain⟨r0,hr,he⟩:=fg;obtain⟨r,rfl,rfl⟩:=LI he.symm;rw[vc]at hv;exact wp_region_noPanic (wp_region_any hm (K5 _ _ _ _ _ (TH Jq hQ _ _ r fr hp a _ (GK _ _ _ hr) (nu.start ops) aZ hs.drew hv)))
    ·cases fg
   ·exact key _ _ _ hc hv
  ·cases hc
 ·rename_i hd;have hdf:draw=false:=by simpa using hd
  subst hdf;simp only[Kaa]at hc;obtain⟨gs,Ji,he⟩:=hc;obtain⟨r,rfl,hr⟩:=LI he.symm;rw[vc]at hv;obtain⟨m1,m2⟩:=nh Ji;refine wp_region (UU hQ gs (List.range ops.size) r fr hp a w (by simp[m1]) (fun k i g hk hg=>?_) aZ hs hr hv);obtain⟨o,ho,aa⟩:=m2 k g hg;have BI:k<ops.size:=by have:=(Kaf.1 hk).1;simpa using this
  rw[KcM BI]at hk;cases hk;exact⟨o,by simpa using ho,aa⟩
end
end Go.FW
namespace Go.FW
open Go
variable {C : Ctx} {ρ : Nat -> Option Nat} {fr : Fr} {hp : HP} {w : World} {a : Act} {K R : Qg}
structure O5(C:Ctx)(R:Qg)(sk:List It)(Q:Exit->Act->World->Prop):Prop where
 vT:Gs C (vc C R sk) Q
 ext:∀id fc,FW.cD id sk=some fc->∀fr hp (a:Act) w,a.defers=[]->eE C fr hp a.tmps w->vc C R fc fr hp->Q (.exit id) a w
 ret:∀fr hp (a:Act) w,a.defers=[]->eE C fr hp a.tmps w->R fr hp->Q .ret a w
theorem Ie{sk:List It}{x y:SC}:vc C R (.c (.seq x y)::sk) fr hp=vc C R (.c x:: .c y::sk) fr hp:=by rw[vc]
theorem Hq{sk:List It}{id:Nat}{x:SC}:vc C R (.c (.block id x)::sk) fr hp=vc C R (.c x:: .eb id::sk) fr hp:=by rw[vc]
theorem HR{sk:List It}:vc C R (.c .skip::sk) fr hp=vc C R sk fr hp:=by rw[vc]
theorem Ku{sk:List It}{r:RT}:vc C R (.c (.rg r)::sk) fr hp=vc C R (.o r::sk) fr hp:=by rw[vc]
theorem Is{sk:List It}{id:Nat}:vc C R (.eb id::sk) fr hp=vc C R sk fr hp:=by rw[vc]
theorem yr{sk:List It}{J:Qg}:vc C R (.el J::sk) fr hp=J fr hp:=by rw[vc]
theorem Ig{sk:List It}:vc C R (.c .ret::sk) fr hp=R fr hp:=by rw[vc]
theorem wB:vc C R [] fr hp=R fr hp:=by rw[vc]
def wF(c:PV)(A B:Prop):Prop:=match c with
 |.bool t=>(t=true->A)/\(t=false->B)
 |_=>False
theorem HS{sk:List It}{c:aM}{x y:SC}:vc C R (.c (.cond c x y)::sk) fr hp=wF (ev fr c) (vc C R (.c x::sk) fr hp) (vc C R (.c y::sk) fr hp):=by rw[vc];rfl
def yt(C:Ctx)(R:Qg)(sk:Option (List It))(fr:Fr)(hp:HP):Prop:=match sk with
 |some sk=>vc C R sk fr hp
 |none=>False
theorem HT{sk:List It}{id:Nat}:vc C R (.c (.exit id)::sk) fr hp=yt C R (FW.cD id sk) fr hp:=by
 rw[vc];unfold yt;split
 ·rename_i h;rw[h]
 ·rename_i h;rw[h]
theorem z8{sk:List It}{x:SC}:vc C R (.c (.loop x)::sk) fr hp=∃(I:Qg)(μ:Fr->HP->Nat),(∃aO aA,Wk fr hp aO aA/\I aO aA)/\∀fr hp,I fr hp->vc C R (.c x:: .el (fun aC hp'=>∃aO aA,Wk aC hp' aO aA/\I aO aA/\μ aO aA<μ fr hp)::sk) fr hp:=by rw[vc]
theorem Wk.refl(fr:Fr)(hp:HP):Wk fr hp fr hp:=fun _ _ _ h=>h
theorem Wk.trans{nF gk II:Fr}{cK cg qg:HP}(h:Wk nF cK gk cg)(k:Wk gk cg II qg):Wk nF cK II qg:=fun C t w hs=>k C t w (h C t w hs)
def AK(I:Qg)(μ:Fr->HP->Nat)(n:Nat):Qg:=fun aC hp'=>∃aO aA,Wk aC hp' aO aA/\I aO aA/\μ aO aA<n
theorem af2{sk:List It}{x:SC}(I:Qg)(μ:Fr->HP->Nat){aO:Fr}{aA:HP}(hw:Wk fr hp aO aA)(h0:I aO aA)(h:∀fr hp,I fr hp->vc C R (.c x:: .el (AK I μ (μ fr hp))::sk) fr hp):vc C R (.c (.loop x)::sk) fr hp:=by rw[z8];exact⟨I,μ,⟨aO,aA,hw,h0⟩,h⟩
theorem Q7a{s:SC}(h:s.strip= .skip):s= .skip:=by cases s<;>simp[SC.strip]at h⊢
theorem Q92{s:SC}(h:s.strip= .ret):s= .ret:=by cases s<;>simp[SC.strip]at h⊢
theorem Q7b{s:SC}{id:Nat}(h:s.strip= .exit id):s= .exit id:=by cases s<;>simp[SC.strip]at h ⊢;exact h
theorem Q93{s:SC}{id:Nat}{ops:Array Oper}(h:s.strip= .raw id ops):s= .raw id ops:=by cases s<;>simp[SC.strip]at h ⊢;exact h
theorem Q94{s a b:SC}(h:s.strip= .seq a b):∃a' b',s= .seq a' b'/\a'.strip=a/\b'.strip=b:=by cases s<;>simp[SC.strip]at h;exact⟨_,_,rfl,h.1,h.2⟩
theorem Q7c{s a b:SC}{c:aM}(h:s.strip= .cond c a b):∃a' b',s= .cond c a' b'/\a'.strip=a/\b'.strip=b:=by
 cases s with
 |cond c' a' b'=>simp only[SC.strip,SC.cond.injEq]at h;obtain⟨rfl,h1,h2⟩:=h;exact⟨a',b',rfl,h1,h2⟩
 |_=>simp[SC.strip]at h
theorem Q30{s a:SC}{id:Nat}(h:s.strip= .block id a):∃a',s= .block id a'/\a'.strip=a:=by
 cases s with
 |block c' a'=>simp only[SC.strip,SC.block.injEq]at h;obtain⟨rfl,h1⟩:=h;exact⟨a',rfl,h1⟩
 |_=>simp[SC.strip]at h
theorem Q7d{s a:SC}(h:s.strip= .loop a):∃a',s= .loop a'/\a'.strip=a:=by
 cases s with
 |loop a'=>simp only[SC.strip,SC.loop.injEq]at h;exact⟨a',rfl,h⟩
 |_=>simp[SC.strip]at h
theorem KS(hm:C.P.follows .mixedOrders=true):∀(c:Code)(s:SC)(sk:List It)(Q:Exit->Act->World->Prop)(fr:Fr)(hp:HP)(a:Act)(w:World),
  gg C.P C.N c=some s.strip->O5 C R sk Q->a.defers=[]->eE C fr hp a.tmps w->vc C R (.c s::sk) fr hp->c.wp C.P Q a w:=by
 intro c;induction c with
 |skip=>intro s sk Q fr hp a w hc hL hd hs hv;simp only[gg,KaD]at hc;obtain rfl:=Q7a hc.symm;rw[HR]at hv;exact wp_skip (hL.vT fr hp a w hd hs hv)
 | region id ops draw=>
  intro s sk Q fr hp a w hc hL hd hs hv;simp only[gg]at hc;split at hc
  ·rename_i s' fg;rw[hc]at fg;exact Q04 hm hL.vT fg hd hs hv
  ·split at hc
   ·rename_i xt;obtain rfl:=Q93 (KcF hc).symm;have aut:draw=true:=xt;subst aut;rw[vc]at hv;obtain⟨tmps,defers⟩:=a;simp only at hd hs;subst hd;exact hv tmps w Q hs (fun aC hp' xN w' fg qj=>hL.vT aC hp' _ w' rfl fg qj)
   ·cases hc
 |seq x y mf zC=>
  intro s sk Q fr hp a w hc hL hd hs hv;simp only[gg,Kab,Kaa]at hc;obtain⟨sx,hx,sy,hy,he⟩:=hc;obtain⟨sx,sy,rfl,rfl,rfl⟩:=Q94 he.symm;rw[Ie]at hv;refine wp_seq (mf sx (.c sy::sk) _ fr hp a w hx ⟨fun fr hp a w hd hs hv=>?_,fun id fc he fr hp a w hd hs hv=>?_,fun fr hp a w hd hs hv=>?_⟩ hd hs hv)
  ·exact zC sy sk Q fr hp a w hy hL hd hs hv
  ·exact hL.ext id fc (by simpa[FW.cD]using he) fr hp a w hd hs hv
  ·exact hL.ret fr hp a w hd hs hv
 | cond c x y mf zC=>
  intro s sk Q fr hp a w hc hL hd hs hv;simp only[gg,Kab,Kaa]at hc;obtain⟨pc,ZT,sx,hx,sy,hy,he⟩:=hc;obtain⟨sx,sy,rfl,rfl,rfl⟩:=Q7c he.symm;rw[HS]at hv;obtain⟨ρ,kU⟩:=hs;have hr:=cP kU ZT;unfold wF at hv;split at hv
  ·rename_i t ht;rw[ht]at hr;exact wp_cond_split hr.Bk (fun h=>mf sx sk Q fr hp a w hx hL hd ⟨ρ,kU⟩ (hv.1 h)) (fun h=>zC sy sk Q fr hp a w hy hL hd ⟨ρ,kU⟩ (hv.2 h))
  ·exact hv.elim
 | block id x mf=>
  intro s sk Q fr hp a w hc hL hd hs hv;simp only[gg,Kaa]at hc;obtain⟨sx,hx,he⟩:=hc;obtain⟨sx,rfl,rfl⟩:=Q30 he.symm;rw[Hq]at hv;refine wp_block (mf sx (.eb id::sk) _ fr hp a w hx ⟨fun fr hp a w hd hs hv=>?_,fun id' fc he fr hp a w hd hs hv=>?_,fun fr hp a w hd hs hv=>?_⟩ hd hs hv)
  ·rw[Is]at hv;exact hL.vT fr hp a w hd hs hv
  ·simp only[FW.cD]at he;simp only[Exit.inBlock];by_cases hi:id=id'
   ·subst hi;simp only[if_true]at he ⊢;cases he;exact hL.vT fr hp a w hd hs hv
   ·rw[if_neg hi]at he;rw[if_neg (fun e=>hi e.symm)];exact hL.ext id' fc he fr hp a w hd hs hv
  ·exact hL.ret fr hp a w hd hs hv
 | loop x mf=>
  intro s sk Q fr hp a w hc hL hd hs hv;simp only[gg,Kaa]at hc;obtain⟨sx,hx,he⟩:=hc;obtain⟨sx,rfl,rfl⟩:=Q7d he.symm;rw[z8]at hv;obtain⟨I,μ,⟨aO,aA,hwk,h0⟩,avs⟩:=hv;have key:∀(n:Nat)(fr:Fr)(hp:HP)(a:Act)(w:World),μ fr hp<n->I fr hp->a.defers=[]->eE C fr hp a.tmps w->Code.rounds C.P x Q n a w:=by
   intro n;induction n with
   |zero=>intro _ _ _ _ h;omega
   | succ n ih=>
    intro fr hp a w ao hI hd hs;rw[rounds_succ];refine mf sx _ _ fr hp a w hx ⟨fun aC hp' a' w' nN fg qj=>?_,fun id fc he fr hp a w hd hs hv=>?_,fun fr hp a w hd hs hv=>?_⟩ hd hs (avs fr hp hI)
    ·rw[yr]at qj;obtain⟨gk,cg,hw2,hI2,za⟩:=qj;exact ih gk cg a' w' (by omega) hI2 nN (hw2 _ _ _ fg)
    ·exact hL.ext id fc (by simpa[FW.cD]using he) fr hp a w hd hs hv
    ·exact hL.ret fr hp a w hd hs hv
  exact wp_loop_rounds (μ aO aA+1) (key _ aO aA a w (Kcx _) h0 hd (hwk _ _ _ hs))
 | exit id=>
  intro s sk Q fr hp a w hc hL hd hs hv;simp only[gg,KaD]at hc;obtain rfl:=Q7b hc.symm;rw[HT]at hv;unfold yt at hv;split at hv
  ·rename_i fc he;exact wp_exit (hL.ext id fc he fr hp a w hd hs hv)
  ·exact hv.elim
 |ret=>intro s sk Q fr hp a w hc hL hd hs hv;simp only[gg,KaD]at hc;obtain rfl:=Q92 hc.symm;rw[Ig]at hv;exact wp_ret (hL.ret fr hp a w hd hs hv)
 |_=>intro s sk Q fr hp a w hc;simp[gg]at hc
theorem La(hm:C.P.follows .mixedOrders=true)(c:Code)(s:SC)(sk:List It)(Q:Exit->Act->World->Prop)(fr:Fr)(hp:HP)(a:Act)(w:World)
  (hc:gg C.P C.N c=some s) (hL:O5 C R sk Q) (hd:a.defers=[]) (hs:eE C fr hp a.tmps w) (hv:vc C R (.c s::sk) fr hp):c.wp C.P Q a w:=
 KS hm c s sk Q fr hp a w (by rw[TI _ _ hc];exact hc) hL hd hs hv
def PV.nY:PV->PV->Prop
 |.ab,.sl _ []=>True
 |p,q=>p=q
def PV.F3:List PV->List PV->Prop
 | [],[]=>True
 |p::ps,q::qs=>PV.nY p q/\PV.F3 ps qs
 |_,_=>False
def PV.le:PV->PV->Prop
 |.agg ps,.agg qs=>PV.F3 ps qs
 |p,q=>PV.nY p q
def PV.JJ:List PV->List PV->Prop
 | [],[]=>True
 |p::ps,q::qs=>PV.le p q/\PV.JJ ps qs
 |_,_=>False
def PV.F4:PV->PV->Prop
 |.aK ps,.aK qs=>PV.JJ ps qs
 |p,q=>PV.le p q
theorem Ai(p:PV):PV.nY p p:=by cases p<;>first|rfl|(unfold PV.nY;split<;>trivial)
theorem O9:∀(l:List PV),PV.F3 l l
 | []=>trivial
 |p::ps=>⟨Ai p,O9 ps⟩
theorem Qe(p:PV):PV.le p p:=by cases p<;>first|exact O9 _|(simp only[PV.le];exact Ai _)
theorem Qn.le{X:Nat->Prop}{p q:PV}{v:Value}(h:Qn w X p v)(hl:PV.nY p q):Qn w X q v:=by
 unfold PV.nY at hl;split at hl
 ·cases h;exact .gC _ _ _ (Ka6 _)
 ·subst hl;exact h
theorem Ra:∀(ps qs:List PV),PV.F3 ps qs->qs.length=ps.length/\∀(i:Nat)(q:PV),qs[i]? =some q->∃p,ps[i]? =some p/\PV.nY p q
 | [],[],_=>⟨rfl,by simp⟩
 | [],_::_,h=>h.elim
 |_::_,[],h=>h.elim
 |p::ps,q::qs,h=>by
  obtain⟨h1,h2⟩:=Ra ps qs h.2;refine⟨by simp[h1],fun i x hx=>?_⟩;cases i with
  |zero=>simp at hx;subst hx;exact⟨p,rfl,h.1⟩
  |succ i=>simp at hx;simpa using h2 i x hx
theorem L':∀(ps qs:List PV),PV.JJ ps qs->qs.length=ps.length/\∀(i:Nat)(q:PV),qs[i]? =some q->∃p,ps[i]? =some p/\PV.le p q
 | [],[],_=>⟨rfl,by simp⟩
 | [],_::_,h=>h.elim
 |_::_,[],h=>h.elim
 |p::ps,q::qs,h=>by
  obtain⟨h1,h2⟩:=L' ps qs h.2;refine⟨by simp[h1],fun i x hx=>?_⟩;cases i with
  |zero=>simp at hx;subst hx;exact⟨p,rfl,h.1⟩
  |succ i=>simp at hx;simpa using h2 i x hx
theorem Q8.le{X:Nat->Prop}{p q:PV}{v:Value}(h:Q8 w X p v)(hl:PV.le p q):Q8 w X q v:=by
 by_cases hp:∃ps,p= .agg ps
 ·obtain⟨ps,rfl⟩:=hp;by_cases hq:∃qs,q= .agg qs
  ·obtain⟨qs,rfl⟩:=hq;obtain⟨h1,h2⟩:=Ra ps qs hl;obtain⟨vs,rfl,g1,g2⟩:=h;refine⟨vs,rfl,by omega,fun i x hx=>?_⟩;obtain⟨p,hp,hle⟩:=h2 i x hx;exact(g2 i p hp).le hle
  ·have:PV.nY (.agg ps) q:=by cases q<;>first|exact hl|exact absurd ⟨_,rfl⟩ hq
   have:q= .agg ps:=by
    unfold PV.nY at this;split at this
    ·rename_i h1;cases h1
    ·exact this.symm
   exact absurd ⟨_,this⟩ hq
 ·have h1:Qn w X p v:=by cases p<;>first|exact h|exact absurd ⟨_,rfl⟩ hp
  have h2:PV.nY p q:=by cases p<;>first|exact hl|exact absurd ⟨_,rfl⟩ hp
  exact Q8.sN (h1.le h2)
theorem eX.le{X:Nat->Prop}{p q:PV}{v:Value}(h:eX w X p v)(hl:PV.F4 p q):eX w X q v:=by
 by_cases hp:∃ps,p= .aK ps
 ·obtain⟨ps,rfl⟩:=hp;by_cases hq:∃qs,q= .aK qs
  ·obtain⟨qs,rfl⟩:=hq;obtain⟨h1,h2⟩:=L' ps qs hl;obtain⟨vs,rfl,g1,g2⟩:=h;refine⟨vs,rfl,by omega,fun i x hx=>?_⟩;obtain⟨p,hp,hle⟩:=h2 i x hx;exact(g2 i p hp).le hle
  ·have:PV.le (.aK ps) q:=by cases q<;>first|exact hl|exact absurd ⟨_,rfl⟩ hq
   have:PV.nY (.aK ps) q:=this;have:q= .aK ps:=by
    unfold PV.nY at this;split at this
    ·rename_i h1;cases h1
    ·exact this.symm
   exact absurd ⟨_,this⟩ hq
 ·have h1:Q8 w X p v:=by cases p<;>first|exact h|exact absurd ⟨_,rfl⟩ hp
  have h2:PV.le p q:=by cases p<;>first|exact hl|exact absurd ⟨_,rfl⟩ hp
  exact eX.of1 (h1.le h2)
def lT (P : Program) (f : FuncId) : Prop := (P.funcs[f]?).any (fun fn => fn.body.isSome && fn.name != "runtime.NumGoroutine") = true
def Qb(P:Program)(f:FuncId)(args:List PV)(R:PV->Prop):Prop:=
 lT P f/\∀(w:World)(X:Nat->Prop)(aR:Array Value),(∀b,X b->b<w.heap.size)->aR.size=args.length->(∀(i:Nat)(x:PV),args[i]? =some x->Q8 w X x (aR.getD i undef))->
  Calls P f aR w fun e w'=>∃v r,e= .returned v/\Ext Q5 w w'/\eX w' X r v/\R r
theorem Qb.mono{P:Program}{f:FuncId}{args:List PV}{R R':PV->Prop}(h:Qb P f args R)(hr:∀r,R r->R' r):Qb P f args R':=
 ⟨h.1,fun w X aR h1 h2 h3=>(h.2 w X aR h1 h2 h3).mono fun _ _ ⟨v,r,e1,e2,e3,e4⟩=>⟨v,r,e1,e2,e3,hr r e4⟩⟩
theorem Qb.le{P:Program}{f:FuncId}{args args':List PV}{R:PV->Prop}(h:Qb P f args R)(hl:PV.JJ args' args):Qb P f args' R:=by obtain⟨h1,h2⟩:=L' _ _ hl;refine⟨h.1,fun w X aR g1 g2 g3=>h.2 w X aR g1 (by omega) (fun i x hx=>?_)⟩;obtain⟨p,hp,hle⟩:=h2 i x hx;exact(g3 i p hp).le hle
def iG(args:List PV):Fr:=fun i=>(args[i]?).getD .undef
def lN(fr:Fr)(hp:HP):RV->Prop
 |.t s=>(Qr hp (fr s)).aG=true
 |.cell s n ag=>match fr s with
  |.mp O i o=>match hp O with
   |some hb=>i<hb.xs.length/\o+n<=hb.e/\(ag=false->n=1)
   |none=>False
  |_=>False
def kV(fr:Fr)(hp:HP):RV->PV
 |.t s=>Qr hp (fr s)
 |.cell s n ag=>match fr s with
  |.mp O i o=>match hp O with
   |some hb=>eZ ag n o ((hb.xs[i]?).getD .undef)
   |none=>.undef
  |_=>.undef
def gG(rs:List RV)(R:PV->Prop):Qg:=fun fr hp=>match rs with
 | [r]=>lN fr hp r/\∃p,PV.le (kV fr hp r) p/\R p
 |rs=>(∀r∈rs,lN fr hp r)/\∃p,PV.F4 (.aK (rs.map (kV fr hp))) p/\R p
def lu(tmps:Array Value):ResultVar->Sem Value
 |.tmp t=>pure (tmps.getD t undef)
 |.cell x t=>do loadVar t (<-asAddr (tmps.getD x undef))
def lr(fr:Fr):RV->List Nat
 |.t s=>(fr s).refs
 |.cell _ _ _=>[]
theorem O'{l l':List Nat}(h:∀O∈l,O∈l'){b:Nat}(hx:aI C ρ (Q6 hp l') b):aI C ρ (Q6 hp l) b:=by
 rcases hx with hx|⟨γ,hg,h1,h2,h3⟩
 ·exact .inl hx
 ·obtain⟨oL,g1,_,_,_,g5,g6⟩:=Cp h1;refine .inr ⟨γ,oL,?_,by rw[<-g5 h2];exact h2,h3⟩;have hn:γ ∉ l:=fun hl=>g6 h2 (h γ hl);unfold Q6;rw[if_neg (by simpa using hn)];exact g1
theorem Cv:Q6 hp []=hp:=by funext O;simp[Q6]
theorem Q7e{p:PV}(h:(Qr hp p).aG=true):∀O∈p.refs,aQ O=false:=by
 have h1:∀q:PV,(cx hp q).iz=true->∀O∈q.bS,aQ O=false:=by
  intro q hq O aj;cases q with
  |mp γ i o=>simp only[PV.bS,Kay]at aj;subst aj;cases hy:aQ O with
   |false=>rfl
   |true=>simp[cx,hy,PV.iz]at hq
  |ax γ o n=>simp only[PV.bS,Kay]at aj;subst aj;cases hy:aQ O with
   |false=>rfl
   |true=>simp[cx,hy,PV.iz]at hq
  |rb=>simp[cx,PV.iz]at hq
  |_=>cases aj
 intro O aj;cases p with
 |mp γ i o=>exact h1 (.mp γ i o) (by cases hq:cx hp (.mp γ i o)<;>simp_all[Qr,PV.aG,PV.iz]) O aj
 |ax γ o n=>exact h1 (.ax γ o n) (by cases hq:cx hp (.ax γ o n)<;>simp_all[Qr,PV.aG,PV.iz]) O aj
 |rb=>simp[Qr,cx,PV.aG]at h
 |fn f first cap=>
  simp only[Qr,PV.aG,Ka2,List.all_map,Kav]at h;rcases KaS.1 aj with aj|aj
  ·obtain⟨x,hx,aj⟩:=Kaq.1 aj;exact h1 x (h.1 x hx) O aj
  ·obtain⟨x,hx,aj⟩:=Kaq.1 aj;exact h1 x (h.2 x hx) O aj
 |_=>cases aj
theorem aow{rv:RV}(h:lN fr hp rv):∀O∈lr fr rv,aQ O=false:=by
 cases rv with
 |t s=>exact Q7e h
 |cell=>intro O aj;cases aj
theorem Pa{P:Program}(hP:C.P=P){r:ResultVar}{rv:RV}(hc:ie P r=some rv)(h:Qt C ρ fr hp a.tmps w)(ho:lN fr hp rv):
  ∃v,(lu a.tmps r).run P w= .ok v w/\Q8 w (aI C ρ (Q6 hp (lr fr rv))) (kV fr hp rv) v:=by
 subst hP;cases r with
 |tmp t=>simp[ie]at hc;subst hc;exact⟨_,rfl,s9 h (h.dm t) (fun O aj=>aj) ho⟩
 | cell x t=>
  simp only[ie,Kab,Kaa]at hc;obtain⟨n,hn,ag,kj,rfl⟩:=hc;have hx:=h.dm x;simp only[lN]at ho;split at ho
  ·rename_i O i o pZ;rw[pZ]at hx;split at ho
   ·rename_i hb aj;obtain⟨h1,h2,h3⟩:=ho;obtain⟨b,cN,g1,g2,g3⟩:=hx.BY;rw[aj]at g2;cases g2;have aS:=h.own O hb aj;have bc:=aS.bV;rw[g1]at bc;obtain⟨_,mR,cur,cap,c1,c2,c3,c4,c5⟩:=bc;have gm:=Kad h1;have cF:=(aS.len i _ gm).1;have dQ:i<cap:=by omega
    have kS:∀j,j<n->i*hb.e+o+j<cur.size:=fun j hj=>by rw[c2];exact oc dQ h2 hj
    have bQ:=Co (P:=C.P) (t:=t) (b:=b) (off:=i*hb.e+o) (vs:=Array.ofFn (n:=n) fun j=>cur.getD (i*hb.e+o+j.val) undef) hn kj h3 (by simp) w
     (fun j hj=>by rw[s7 (f:=fun j=>cur.getD (i*hb.e+o+j) undef) hj];exact mr c1 (kS j hj))
    obtain⟨V,hV⟩:∃V:Value,V=(if ag then .agg (Array.ofFn (n:=n) fun j=>cur.getD (i*hb.e+o+j.val) undef)else(Array.ofFn (n:=n) fun j=>cur.getD (i*hb.e+o+j.val) undef).getD 0 undef):=⟨_,rfl⟩
    rw[<-hV]at bQ;refine⟨V,?_,?_⟩
    ·simp only[lu,g3,asAddr,Kal,KaW,Kaj];exact bQ
    ·have:Q8 w (aI C ρ hp) (eZ ag n o (hb.xs[i]'h1)) (if ag then .agg (Array.ofFn (n:=n) fun j=>cur.getD (i*hb.e+o+j.val) undef)else(Array.ofFn (n:=n) fun j=>cur.getD (i*hb.e+o+j.val) undef).getD 0 undef):=
      C5 (by simp) (by rw[cF];exact h2) h3 (fun j y hj hy=>by rw[s7 (f:=fun j=>cur.getD (i*hb.e+o+j) undef) hj,KbW];exact c5 i _ gm (o+j) y hy)
     simp only[kV,pZ,aj,gm,Ka9];rw[hV];simp only[lr,Cv];exact this
   ·exact ho.elim
  ·exact ho.elim
theorem VT{P:Program}(hP:C.P=P)(h:Qt C ρ fr hp a.tmps w):∀(rl:List ResultVar)(rs:List RV),rl.mapM (ie P)=some rs->(∀r∈rs,lN fr hp r)->
  ∃vs:List Value,vs.length=rs.length/\(rl.mapM (lu a.tmps)).run P w= .ok vs w/\∀(i:Nat)(r:RV),rs[i]? =some r->∃v,vs[i]? =some v/\Q8 w (aI C ρ (Q6 hp (rs.flatMap (lr fr)))) (kV fr hp r) v
 | [],rs,hc,_=>by simp at hc;subst hc;exact⟨[],rfl,by simp,by simp⟩
 | x::rl,rs,hc,ho=>by
  rw[Kch]at hc;simp only[KbX,Kcl,Kab,KaD]at hc;obtain⟨r,hr,OH,dw,rfl⟩:=hc;obtain⟨v,h1,h2⟩:=Pa hP hr h (ho r (by simp));obtain⟨vs,g1,g2,g3⟩:=VT hP h rl OH dw (fun q hq=>ho q (by simp[hq]));refine⟨v::vs,by simp[g1],by simp[Kch,Kal,h1,g2],fun i q hq=>?_⟩;cases i with
  |zero=>simp at hq;subst hq;exact⟨v,rfl,h2.mono (fun _ _ _=>rfl) (fun _ _ hn hx=>hn (O' (fun O aj=>by rw[KaC];exact Kcd _ aj) hx)) (Kae _)⟩
  |succ i=>simp at hq;obtain⟨v',k1,k2⟩:=g3 i q hq;exact⟨v',by simpa using k1,k2.mono (fun _ _ _=>rfl) (fun _ _ hn hx=>hn (O' (fun O aj=>by rw[KaC];exact Kby _ aj) hx)) (Kae _)⟩
theorem Lb{P:Program}(hP:C.P=P){fn:Func}{rs:List RV}{Rr:PV->Prop}(hc:fn.results.toList.mapM (ie P)=some rs)(h:Qt C ρ fr hp a.tmps w)(hr:gG rs Rr fr hp):
  ∃v r,(results fn a.tmps).run P w= .ok v w/\eX w (aI C ρ (Q6 hp (rs.flatMap (lr fr)))) r v/\(∀O∈rs.flatMap (lr fr),aQ O=false)/\Rr r:=by
 have bC:(∀r∈rs,lN fr hp r):=by
  intro r fL
  match rs,hr,fL with
  | [r0],hr,fL=>simp at fL;subst fL;exact hr.1
  | [],hr,fL=>cases fL
  |r0::r1::rest,hr,fL=>exact hr.1 r fL
 have hN:∀O∈rs.flatMap (lr fr),aQ O=false:=fun O aj=>by obtain⟨r,hr,aj⟩:=Kaq.1 aj;exact aow (bC r hr) O aj
 obtain⟨vs,hlen,bQ,BR⟩:=VT hP h _ rs hc bC;have fq:(results fn a.tmps).run P w= .ok (if h:vs.toArray.size=1 then vs.toArray[0]else .tuple vs.toArray) w:=by
  have e:results fn a.tmps=(do let vs<-fn.results.mapM (lu a.tmps);pure (if h:vs.size=1 then vs[0]else .tuple vs)):=rfl;rw[e,Kbz];simp only[Kal];have h2:(List.toArray<$>fn.results.toList.mapM (lu a.tmps):Sem (Array Value)).run P w= .ok vs.toArray w:=by simp[bQ]
  rw[h2];rfl
 match rs,hr,hlen,BR,hN with
 | [r0],hr,hlen,BR,hN=>
  have h1:vs.toArray.size=1:=by simpa using hlen
  rw[dif_pos h1]at fq;obtain⟨v,h2,h3⟩:=BR 0 r0 rfl;have e:vs.toArray[0]=v:=by
   have:vs[0]? =some (vs.toArray[0]):=by simp[hlen]
   rw[h2]at this;exact(KcF this).symm
  rw[e]at fq;obtain⟨_,p,hle,Eo⟩:=hr;exact⟨_,_,fq,eX.of1 (h3.le hle),hN,Eo⟩
 | [],hr,hlen,BR,hN=>
  have h1:¬vs.toArray.size=1:=by simp[hlen]
  rw[dif_neg h1]at fq;obtain⟨_,p,hle,Eo⟩:=hr;exact⟨_,_,fq,eX.le (p:=.aK []) ⟨vs.toArray,rfl,by simp[hlen],by simp⟩ hle,hN,Eo⟩
 |r0::r1::rest,hr,hlen,BR,hN=>
  have h1:¬vs.toArray.size=1:=by simp[hlen]
  rw[dif_neg h1]at fq;obtain⟨_,p,hle,Eo⟩:=hr;refine⟨_,_,fq,eX.le (p:=.aK ((r0::r1::rest).map (kV fr hp))) ⟨vs.toArray,rfl,by simp[hlen],fun i x hx=>?_⟩ hle,hN,Eo⟩;simp only[Kao,Kaa]at hx;obtain⟨rv,hrv,rfl⟩:=hx;obtain⟨v,h2,h3⟩:=BR i rv hrv;rw[xS,Kac,h2];exact h3
theorem VU{P:Program}(hP:C.P=P){fn:Func}{rs:List RV}{Rr:PV->Prop}(hc:fn.results.toList.mapM (ie P)=some rs)(h:Qt C ρ fr hp a.tmps w)(hr:gG rs Rr fr hp):
  ∃v r,(results fn a.tmps).run P w= .ok v w/\eX w C.X0 r v/\Rr r:=by
 obtain⟨v,r,h1,h2,_,h3⟩:=Lb hP hc h hr;exact⟨v,r,h1,h2.mono (fun _ _ _=>rfl) (fun _ _ hn hx=>hn (.inl hx)) (Kae _),h3⟩
theorem Q7f{P:Program}(hP:C.P=P){fn:Func}{rs:List RV}{Rr:PV->Prop}(hc:fn.results.toList.mapM (ie P)=some rs)(h:Qt C ρ fr hp a.tmps w)(hr:gG rs Rr fr hp)
  {X:Nat->Prop} (hX:∀c,X c->C.X0 c∨∃O hb,aQ O=true/\hp O=some hb/\hb.fz=false/\ρ O=some c):
  ∃v r,(results fn a.tmps).run P w= .ok v w/\eX w X r v/\Rr r:=by
 obtain⟨v,r,h1,h2,h3,h4⟩:=Lb hP hc h hr;refine⟨v,r,h1,h2.mono (fun _ _ _=>rfl) (fun c _ hn hx=>hn ?_) (Kae _),h4⟩;rcases hX c hx with hx|⟨O,hb,k1,k2,k3,k4⟩
 ·exact .inl hx
 ·refine .inr ⟨O,hb,?_,k3,k4⟩;have hn:O ∉ rs.flatMap (lr fr):=fun hl=>by rw[h3 O hl]at k1;cases k1
  unfold Q6;rw[if_neg (by simpa using hn)];exact k2
theorem wm {P : Program} {f : FuncId} {fn : Func} {sf : az} {args : List PV} {Rr : PV -> Prop} (hm : P.follows .mixedOrders = true) (hf : P.funcs[f]? = some fn) (qe : (fn.name != "runtime.NumGoroutine") = true) (hc : Qd P fn = some sf) (hn : args.length <= sf.n /\ sf.n <= 1000000)
  (hv:∀C:Ctx,C.P=P->vc C (gG sf.rs Rr) [.c sf.body] (iG args) aA):Qb P f args Rr:=by
 simp only[Qd,Kab,Kaa]at hc;obtain⟨c,hb,sb,jK,rs,dw,rfl⟩:=hc;refine⟨by simp[lT,hf,hb];simpa using qe,fun w X aR hX fh gA=>?_⟩
 let C:Ctx:=Ctx.plain P fn.ntmps w X hX hn.2
 refine calls_of_wp hf hb ?_;have qW:(aR++Array.replicate (fn.ntmps-aR.size) undef).size=fn.ntmps:=by simp at hn ⊢;omega
 have qh:eE C (iG args) aA (aR++Array.replicate (fn.ntmps-aR.size) undef) w:=by
  refine⟨fun _=>none,qW,Ext.refl _ _,(fun _ _ h=>by cases h),by simp[aA],by simp[aA],fun i=>?_⟩;unfold iG;cases hi:args[i]? with
  |none=>trivial
  | some p=>
   simp only[Ka9];have fp:i<aR.size:=by rw[fh];exact(Kaf.1 hi).1
   have hr:=gA i p hi;have e:(aR++Array.replicate (fn.ntmps-aR.size) undef).getD i undef=aR.getD i undef:=by rw[lP,if_pos fp]
   rw[e];refine Qk.mZ (hr.mono (fun _ _ _=>rfl) (fun b _ hn hx=>?_) (Kae _));rcases hx with hx|⟨_,_,h1,_⟩
   ·exact hn hx
   ·simp[aA]at h1
 have fin:∀(fr:Fr)(hp:HP)(a:Act)(w':World),a.defers=[]->eE C fr hp a.tmps w'->gG rs Rr fr hp->
   a.defers=[]/\∃v,(results fn a.tmps).run P w'= .ok v w'/\∃v' r,Ending.returned v= .returned v'/\Ext Q5 w w'/\eX w' X r v'/\Rr r:=by
  intro fr hp a w' hd ⟨ρ,hs⟩ hr;obtain⟨v,r,h1,h2,h3⟩:=VU (C:=C) rfl dw hs hr;exact⟨hd,v,h1,v,r,rfl,Ctx.OE hs.ext,h2,h3⟩
 exact La (C:=C) (R:=gG rs Rr) hm c sb [] _ (iG args) aA _ w jK ⟨fun fr hp a w' hd hs hv=>(by rw[wB]at hv;exact fin fr hp a w' hd hs hv),fun id fc he=>(by simp[FW.cD]at he),fin⟩ rfl qh (hv C rfl)
end Go.FW
namespace Go.FW
open Go
variable {C : Ctx} {ρ : Nat -> Option Nat} {fr : Fr} {hp : HP} {w : World} {a : Act} {K R : Qg}
def gS(fr:Fr)(d:Option Nat)(r:PV):Fr:=match d with|some d=>ae fr d r|none=>fr
theorem Qk.JP{p:PV}{v:Value}(h:eX w (aI C ρ hp) p v):Qk C ρ hp w p v:=by
 cases p with
 |aK ps=>exact h
 |_=>exact Qk.mZ h
theorem Dx{tmps:Array Value}(h:Qt C ρ fr hp tmps w):∀b,aI C ρ hp b->b<w.heap.size:=by
 rintro b (hx|⟨O,hb,h1,_,h3⟩)
 ·exact KaE (C.Er b hx) h.ext.size
 ·have:=(h.own O hb h1).bV;rw[h3]at this;exact this.2.1
theorem Qt.J4{tmps:Array Value}{d:Option Nat}(h:Qt C ρ fr hp tmps w){p:PV}{v:Value}(hv:Qk C ρ hp w p v)(hd:∀x,d=some x->x<C.N):Qt C ρ (gS fr d p) hp (wK tmps d v) w:=by
 cases d with
 |some d=>exact h.ae hv (hd d rfl)
 |none=>exact h
theorem Pb{tmps:Array Value}{first cap args:List PV}{fv cv av:Array Value}(hs:Qt C ρ fr hp tmps w)(h1:fv.size=first.length)(_h2:cv.size=cap.length)(h3:av.size=args.length)
  (sD:∀(i:Nat)(x:PV),first[i]? =some x->dp C ρ hp w x (fv.getD i undef)) (lH:∀(i:Nat)(x:PV),cap[i]? =some x->dp C ρ hp w x (cv.getD i undef)) (sE:∀(i:Nat)(x:PV),args[i]? =some x->Qk C ρ hp w x (av.getD i undef))
  (dR:((first++args++cap).map (Qr hp)).all PV.aG=true):
  ∀(i:Nat)(x:PV),((first++args++cap).map (Qr hp))[i]? =some x->Q8 w (aI C ρ (Q6 hp ((first++args++cap).flatMap PV.refs))) x ((fv++av++cv).getD i undef):=by
 intro i x hx;rw[Kav]at dR;have kt:=dR x (Kai hx);simp only[Kao,Kaa]at hx;obtain⟨p,hp',rfl⟩:=hx;have tV:=Kai hp';have hl:∀O∈p.refs,O∈(first++args++cap).flatMap PV.refs:=fun O aj=>Kaq.2 ⟨p,tV,aj⟩;have toF:∀ {p:PV} {v:Value},dp C ρ hp w p v->(Qr hp p).aG=true->Qk C ρ hp w p v:=by
  intro p v hr hd;cases p with
  |undef=>trivial
  |mp=>exact hr
  |ax=>exact hr
  |rb=>exact hr
  |np=>exact hr
  |aL=>exact hr
  |_=>exact Qk.mZ (Q8.sN hr)
 rw[lP];rw[Ka3]at hp';by_cases c1:i<(first++args).length
 ·rw[if_pos c1]at hp';rw[if_pos (by simp only[Kci,h1,h3];simpa using c1),lP];rw[Ka3]at hp';by_cases c2:i<first.length
  ·rw[if_pos c2]at hp';rw[if_pos (by omega)];exact s9 hs (toF (sD i p hp') kt) hl kt
  ·rw[if_neg c2]at hp';rw[if_neg (by omega),h1];exact s9 hs (sE _ p hp') hl kt
 ·rw[if_neg c1]at hp';have fh:(fv++av).size=(first++args).length:=by simp[h1,h3]
  rw[if_neg (by omega),fh];exact s9 hs (toF (lH _ p hp') kt) hl kt
theorem VV{P:Program}(hP:C.P=P){g:FuncId}{first cap args aU:List PV}{pr:Bool}{d:Option Nat}{Rr:PV->Prop}(h:Qb P g aU Rr)(dk:(first++args++cap).map (Qr hp)=aU)(dR:aU.all PV.aG=true)
  (hK:∀r,Rr r->K (gS fr d r) (Q6 hp ((first++args++cap).flatMap PV.refs))):gF C pr (.fn g first cap) args d fr hp K:=by
 subst hP;refine⟨h.1,fun ρ tmps w fv cv av sj hs h1 h2 h3 sD lH sE=>?_⟩;have hf:=hs.freeze ((first++args++cap).flatMap PV.refs);refine(h.2 w _ (fv++av++cv) (Dx hf) (by rw[<-dk];simp[h1,h2,h3]) (by rw[<-dk];exact Pb hs h1 h2 h3 sD lH sE (by rw[dk];exact dR))).mono ?_;rintro e w' ⟨v,r,rfl,hx,hr,hRr⟩;exact⟨v,_,_,rfl,⟨ρ,(hf.grow hx).J4 (Qk.JP hr) sj⟩,fun _=>hx,hK r hRr⟩
theorem ik{P:Program}(hP:C.P=P){g:FuncId}{first cap args aU:List PV}{pr:Bool}{d:Option Nat}{r:PV}(h:Qb P g aU (· =r))(dk:(first++args++cap).map (Qr hp)=aU)(dR:aU.all PV.aG=true)
  (hK:K (gS fr d r) (Q6 hp ((first++args++cap).flatMap PV.refs))):gF C pr (.fn g first cap) args d fr hp K:=
 VV hP h dk dR (fun _ hr=>hr▸hK)
def PV.Om:PV->Bool
 |.int .. | .bool _=>true
 |.aK ps=>ps.all fun p=>match p with| .int .. | .bool _=>true|_=>false
 |_=>false
theorem af3{X X':Nat->Prop}{p:PV}{v:Value}(hs:p.Om=true)(h:eX w X p v):eX w X' p v:=by
 have one:∀(p:PV)(v:Value),(match p with| .int .. | .bool _=>true|_=>false:Bool)=true->Q8 w X p v->Q8 w X' p v:=by
  intro p v hs h;cases p with
  |int k n=>cases h;exact Qn.int k n
  |bool b=>cases h;exact Qn.bool b
  |_=>cases hs
 cases p with
 |int k n=>exact one (.int k n) v rfl h
 |bool b=>exact one (.bool b) v rfl h
 |aK ps=>obtain⟨vs,rfl,h1,h2⟩:=h;simp only[PV.Om,Kav]at hs;exact⟨vs,rfl,h1,fun i x hx=>one x _ (hs x (Kai hx)) (h2 i x hx)⟩
 |_=>cases hs
def rH(C:Ctx)(R:Qg)(c:PV)(x y:SC)(sk:List It)(fr:Fr)(hp:HP):Prop:=wF c (vc C R (.c x::sk) fr hp) (vc C R (.c y::sk) fr hp)
def rX(C:Ctx)(R:Qg)(x y:RT)(sk:List It)(fr:Fr)(hp:HP):Prop:=vc C R (.o x::sk) fr hp/\vc C R (.o y::sk) fr hp
def iT(C:Ctx)(p:PV)(s:Nat)(want:Bool)(o:cI)(fr:Fr)(hp:HP)(K:Qg):Prop:=match p with
  |.bool t=>(t=want->bA C o (ae fr s (.bool want)) hp K)/\(t=(!want)->kF o (ae fr s (.bool !want)) hp K)
  |.aK []=>kF o fr hp K
  |_=>False
theorem Qa{p:Prop}[Decidable p]{x y:SC}{sk:List It}(h1:p->vc C R (.c x::sk) fr hp)(h2:¬p->vc C R (.c y::sk) fr hp):rH C R (.bool (decide p)) x y sk fr hp:=
 ⟨fun h=>h1 (of_decide_eq_true h),fun h=>h2 (of_decide_eq_false h)⟩
theorem CF{b:Bool}{x y:SC}{sk:List It}(h1:b=true->vc C R (.c x::sk) fr hp)(h2:b=false->vc C R (.c y::sk) fr hp):rH C R (.bool b) x y sk fr hp:=⟨h1,h2⟩
theorem ic{p:Prop}[Decidable p]{s:Nat}{o:cI}(h1:p->iT C (.bool true) s true o (ae fr s (.bool true)) hp K)(h2:¬p->iT C (.bool false) s true o (ae fr s (.bool false)) hp K):iT C (.bool (decide p)) s true o fr hp K:=by
 have hu:∀(b:Bool),ae (ae fr s (.bool b)) s (.bool b)=ae fr s (.bool b):=fun b=>by funext i;unfold ae;split<;>rfl
 refine⟨fun h=>?_,fun h=>?_⟩
 ·have:=(h1 (of_decide_eq_true h)).1 rfl
  rwa[hu]at this
 ·have:=(h2 (of_decide_eq_false h)).2 rfl
  rwa[show(!true)=false from rfl,hu]at this
theorem Qp{p:Prop}[Decidable p]{s:Nat}{o:cI}(h1:p->iT C (.bool true) s false o (ae fr s (.bool true)) hp K)(h2:¬p->iT C (.bool false) s false o (ae fr s (.bool false)) hp K):iT C (.bool (decide p)) s false o fr hp K:=by
 have hu:∀(b:Bool),ae (ae fr s (.bool b)) s (.bool b)=ae fr s (.bool b):=fun b=>by funext i;unfold ae;split<;>rfl
 refine⟨fun h=>?_,fun h=>?_⟩
 ·have:=(h2 (of_decide_eq_false h)).1 rfl
  rwa[hu]at this
 ·have:=(h1 (of_decide_eq_true h)).2 rfl
  rwa[show(!false)=true from rfl,hu]at this
theorem z9{b want:Bool}{s:Nat}{o:cI}(h1:b=true->iT C (.bool true) s want o (ae fr s (.bool true)) hp K)(h2:b=false->iT C (.bool false) s want o (ae fr s (.bool false)) hp K):iT C (.bool b) s want o fr hp K:=by
 have:= @ic C fr hp K (b=true) _ s o;have e:b=decide (b=true):=by cases b<;>rfl
 rw[e];cases want with
 |true=>exact ic h1 (fun h=>h2 (by simpa using h))
 |false=>exact Qp h1 (fun h=>h2 (by simpa using h))
theorem af4{sk:List It}{c:aM}{x y:SC}:vc C R (.c (.cond c x y)::sk) fr hp=rH C R (ev fr c) x y sk fr hp:=HS
theorem ame{sk:List It}{x y:RT}:vc C R (.o (.br x y)::sk) fr hp=rX C R x y sk fr hp:=Te
theorem amf{sk:List It}{o:cI}{r:RT}:vc C R (.o (.o none o r)::sk) fr hp=bA C o fr hp (vc C R (.o r::sk)):=DF
theorem amg{sk:List It}{s:Nat}{b:Bool}{o:cI}{r:RT}:vc C R (.o (.o (some (s,b)) o r)::sk) fr hp=iT C (fr s) s b o fr hp (vc C R (.o r::sk)):=DF
theorem vcs:
  (∀(C:Ctx)(R:Qg)(sk:List It)(x y:SC)(fr:Fr)(hp:HP),vc C R (.c (.seq x y)::sk) fr hp=vc C R (.c x:: .c y::sk) fr hp)/\
  (∀(C:Ctx)(R:Qg)(sk:List It)(id:Nat)(x:SC)(fr:Fr)(hp:HP),vc C R (.c (.block id x)::sk) fr hp=vc C R (.c x:: .eb id::sk) fr hp)/\
  (∀(C:Ctx)(R:Qg)(sk:List It)(fr:Fr)(hp:HP),vc C R (.c .skip::sk) fr hp=vc C R sk fr hp)/\
  (∀(C:Ctx)(R:Qg)(sk:List It)(r:RT)(fr:Fr)(hp:HP),vc C R (.c (.rg r)::sk) fr hp=vc C R (.o r::sk) fr hp)/\
  (∀(C:Ctx)(R:Qg)(sk:List It)(id:Nat)(fr:Fr)(hp:HP),vc C R (.eb id::sk) fr hp=vc C R sk fr hp)/\
  (∀(C:Ctx)(R:Qg)(sk:List It)(J:Qg)(fr:Fr)(hp:HP),vc C R (.el J::sk) fr hp=J fr hp)/\
  (∀(C:Ctx)(R:Qg)(sk:List It)(fr:Fr)(hp:HP),vc C R (.c .ret::sk) fr hp=R fr hp)/\
  (∀(C:Ctx)(R:Qg)(fr:Fr)(hp:HP),vc C R [] fr hp=R fr hp)/\
  (∀(C:Ctx)(R:Qg)(sk:List It)(c:aM)(x y:SC)(fr:Fr)(hp:HP),vc C R (.c (.cond c x y)::sk) fr hp=rH C R (ev fr c) x y sk fr hp)/\
  (∀(C:Ctx)(R:Qg)(sk:List It)(id:Nat)(fr:Fr)(hp:HP),vc C R (.c (.exit id)::sk) fr hp=yt C R (FW.cD id sk) fr hp)/\
  (∀(C:Ctx)(R:Qg)(sk:List It)(fr:Fr)(hp:HP),vc C R (.o .nil::sk) fr hp=vc C R sk fr hp)/\
  (∀(C:Ctx)(R:Qg)(sk:List It)(o:cI)(r:RT)(fr:Fr)(hp:HP),vc C R (.o (.o none o r)::sk) fr hp=bA C o fr hp (vc C R (.o r::sk)))/\
  (∀(C:Ctx)(R:Qg)(sk:List It)(s:Nat)(b:Bool)(o:cI)(r:RT)(fr:Fr)(hp:HP),vc C R (.o (.o (some (s,b)) o r)::sk) fr hp=iT C (fr s) s b o fr hp (vc C R (.o r::sk)))/\
  (∀(C:Ctx)(R:Qg)(sk:List It)(x y:RT)(fr:Fr)(hp:HP),vc C R (.o (.br x y)::sk) fr hp=rX C R x y sk fr hp)/\
  (∀(C:Ctx)(R:Qg)(x y:SC)(sk:List It)(fr:Fr)(hp:HP),rH C R (.bool true) x y sk fr hp=vc C R (.c x::sk) fr hp)/\
  (∀(C:Ctx)(R:Qg)(x y:SC)(sk:List It)(fr:Fr)(hp:HP),rH C R (.bool false) x y sk fr hp=vc C R (.c y::sk) fr hp)/\
  (∀(C:Ctx)(R:Qg)(sk:List It)(fr:Fr)(hp:HP),yt C R (some sk) fr hp=vc C R sk fr hp)/\
  (∀(id:Nat)(s:SC)(sk:List It),FW.cD id (.c s::sk)=FW.cD id sk)/\
  (∀(id:Nat)(r:RT)(sk:List It),FW.cD id (.o r::sk)=FW.cD id sk)/\
  (∀(id:Nat)(J:Qg)(sk:List It),FW.cD id (.el J::sk)=FW.cD id sk)/\
  (∀(id i:Nat)(sk:List It),FW.cD id (.eb i::sk)=if i=id then some sk else FW.cD id sk)/\
  (∀(C:Ctx)(s:Nat)(o:cI)(fr:Fr)(hp:HP)(K:Qg),iT C (.bool true) s true o fr hp K=bA C o (ae fr s (.bool true)) hp K)/\
  (∀(C:Ctx)(s:Nat)(o:cI)(fr:Fr)(hp:HP)(K:Qg),iT C (.bool false) s true o fr hp K=kF o (ae fr s (.bool false)) hp K)/\
  (∀(C:Ctx)(s:Nat)(o:cI)(fr:Fr)(hp:HP)(K:Qg),iT C (.bool true) s false o fr hp K=kF o (ae fr s (.bool true)) hp K)/\
  (∀(C:Ctx)(s:Nat)(o:cI)(fr:Fr)(hp:HP)(K:Qg),iT C (.bool false) s false o fr hp K=bA C o (ae fr s (.bool false)) hp K)/\
  (∀(C:Ctx)(s:Nat)(b:Bool)(o:cI)(fr:Fr)(hp:HP)(K:Qg),iT C (.aK []) s b o fr hp K=kF o fr hp K):=by
 refine⟨fun _ _ _ _ _ _ _=>Ie,fun _ _ _ _ _ _ _=>Hq,fun _ _ _ _ _=>HR,fun _ _ _ _ _ _=>Ku,fun _ _ _ _ _ _=>Is,fun _ _ _ _ _ _=>yr,fun _ _ _ _ _=>Ig,fun _ _ _ _=>wB,fun _ _ _ _ _ _ _ _=>af4,
  fun _ _ _ _ _ _=>HT,fun _ _ _ _ _=>Dq,fun _ _ _ _ _ _ _=>amf,fun _ _ _ _ _ _ _ _ _=>amg,fun _ _ _ _ _ _ _=>ame,fun _ _ _ _ _ _ _=>?_,fun _ _ _ _ _ _ _=>?_,fun _ _ _ _ _=>rfl,fun _ _ _=>rfl,fun _ _ _=>rfl,fun _ _ _=>rfl,fun _ _ _=>rfl,?_,?_,?_,?_,fun _ _ _ _ _ _ _=>rfl⟩
 ·simp[rH,wF]
 ·simp[rH,wF]
 all_goals intros;simp[iT]
end Go.FW
namespace Go.FW
open Go
variable {C : Ctx} {fr : Fr} {hp : HP} {K R : Qg}
theorem yc{n:Int}(h1: -9223372036854775808<=n)(h2:n<=9223372036854775807):IntKind.i64.wrap n=n:=by rw[IntKind.wrap_i64];omega
theorem af5{n:Int}(h1: -2147483648<=n)(h2:n<=2147483647):IntKind.i32.wrap n=n:=by rw[IntKind.wrap_i32];omega
theorem uC{n:Int}(h1:0<=n)(h2:n<=18446744073709551615):IntKind.u64.wrap n=n:=by rw[IntKind.wrap_u64];omega
theorem Hr{n:Int}(h1:0<=n)(h2:n<=4294967295):IntKind.u32.wrap n=n:=by rw[IntKind.wrap_u32];omega
theorem agD{n:Int}(h1:0<=n)(h2:n<=65535):IntKind.u16.wrap n=n:=by simp only[IntKind.wrap,IntKind.bits,IntKind.signed];simp;omega
theorem ai0{n:Int}(h1:0<=n)(h2:n<=255):IntKind.u8.wrap n=n:=by rw[IntKind.wrap_u8];omega
theorem ai1{x y:Int}(h:0<=x):x.tdiv y=x/y:=Int.tdiv_eq_ediv_of_nonneg h
theorem ai2{x y:Int}(h:0<=x):x.tmod y=x%y:=Int.tmod_eq_emod_of_nonneg h
def jm(hb:Option HB)(n:Nat)(ag:Bool)(i o:Nat)(d:Nat)(fr:Fr)(hp:HP)(K:Qg):Prop:=match hb with
 |some hb=>∃h:i<hb.xs.length,o+n<=hb.e/\(ag=false->n=1)/\K (ae fr d (eZ ag n o (hb.xs[i]'h))) hp
 |none=>False
def stM (hb:Option HB) (O:Nat) (n:Nat) (i o:Nat) (v:PV) (fr:Fr) (hp:HP) (K:Qg):Prop:=match hb with
  |some hb=>hb.fz=false/\v.aG=true/\v.cells.length=n/\∃h:i<hb.xs.length,o+n<=hb.e/\
        K fr (Qj hp O { hb with xs:=hb.xs.set i (if n=hb.e then v else uh (hb.xs[i]'h) o v) })
  |none=>False
def yz(R:PV->Prop)(p:PV):Prop:=p.aG=true/\∃q,PV.le p q/\R q
theorem Qc{p r:PV}(h:p=r)(hd:r.aG=true):yz (· =r) p:=by subst h;exact⟨hd,_,Qe _,rfl⟩
theorem wx{p r:PV}(h:PV.le p r)(hd:p.aG=true):yz (· =r) p:=⟨hd,_,h,rfl⟩
theorem Rb{e ty n:Nat}{ag fz:Bool}{o d:Nat}{x:PV}(h:o+n<=e)(ha:ag=false->n=1):jm (some ⟨e,ty,[x],fz⟩) n ag 0 o d fr hp K=K (ae fr d (eZ ag n o x)) hp:=by simp[jm,h];intro _;exact ha
theorem od{e ty n i:Nat}{ag fz:Bool}{o d:Nat}{xs:List PV}(h:i<xs.length)(h1:o+n<=e)(ha:ag=false->n=1):jm (some ⟨e,ty,xs,fz⟩) n ag i o d fr hp K=K (ae fr d (eZ ag n o (xs[i]'h))) hp:=by simp[jm,h,h1];intro _;exact ha
theorem alK{e ty n O i:Nat}{o:Nat}{xs:List PV}{v:PV}(h:i<xs.length)(hv:v.aG=true)(hl:v.cells.length=n)(h1:o+n<=e):stM (some ⟨e,ty,xs,false⟩) O n i o v fr hp K=K fr (Qj hp O ⟨e,ty,xs.set i (if n=e then v else uh (xs[i]'h) o v),false⟩):=by simp[stM,h,h1,hv,hl]
theorem Q95{ty n O i:Nat}{xs:List PV}{v:PV}(h:i<xs.length)(hv:v.aG=true)(hl:v.cells.length=n):stM (some ⟨n,ty,xs,false⟩) O n i 0 v fr hp K=K fr (Qj hp O ⟨n,ty,xs.set i v,false⟩):=by rw[alK h hv hl (by omega)];simp
theorem J7{e d:Nat}{k:IntKind}{m:Int}{xs:List PV}(h0:0<=m)(h:m<xs.length):dt e (.sl e xs) (.int k m) d fr hp K=K (ae fr d (.pt (xs[m.toNat]'(by omega)).cells)) hp:=by
 have:m.toNat<xs.length:=by omega
 simp[dt,h0,this]
theorem yf{α:Type}{f:α->PV}{e d:Nat}{k:IntKind}{m:Int}{xs:List α}(h0:0<=m)(h:m<xs.length):dt e (.sl e (xs.map f)) (.int k m) d fr hp K=K (ae fr d (.pt (f (xs[m.toNat]'(by omega))).cells)) hp:=by rw[J7 h0 (by simpa using h)];simp
theorem Ih{e d O o n:Nat}{k:IntKind}{m:Int}(h0:0<=m)(h:m<n)(he:(hp O).map (·.e)=some e):dt e (.ax O o n) (.int k m) d fr hp K=K (ae fr d (.mp O (o+m.toNat) 0)) hp:=by
 have:m.toNat<n:=by omega
 simp[dt,h0,this,he]
theorem Iu{e by_ ty d:Nat}{z:PV}{k k':IntKind}{L Cc:Int}(h0:0<e)(hz:z.cells.length=e)(h1:0<=L)(h2:L<=Cc)(h3:by_*Cc<=281474976710656)(h4:Cc<=9223372036854775807):
  o6 e by_ ty z (.int k L) (.int k' Cc) d fr hp K=K (ae (bZ d fr) d (.ms d L.toNat)) (Qj hp d ⟨e,ty,List.replicate L.toNat z,false⟩):=by
 simp[o6,h0,hz,h1,h2,h3,h4]
theorem alL{n ty d O o m:Nat}(hB:aQ O=true):fQ n ty (.ax O o m) d fr hp K=K (ae fr d (.rb O o m)) hp:=by simp[fQ,hB]
theorem ao2{d O o m:Nat}:iQ 1 false (.rb O o m) d fr hp K=K (ae fr d (.ax O o m)) hp:=by simp[iQ]
theorem Lc{e by_ ty d:Nat}{x:PV}{ys:List PV}(hs:kE hp x=some (e,ys))(h0:0<e)(h1:ys.length*by_<=140737488355328)(h2:ys.length<=9223372036854775807):
  jz e by_ ty .ab x d fr hp K=K (ae (bZ d fr) d (.ms d ys.length)) (Qj hp d ⟨e,ty,ys,false⟩):=by
 simp[jz,hs,h0,h1,h2]
theorem Ld{e by_ ty d O n:Nat}{x:PV}{ys xs:List PV}(hs:kE hp x=some (e,ys))(hb:hp O=some ⟨e,ty,xs,false⟩)(h0:0<e)(hn:n<=xs.length)(h1:(n+ys.length)*by_<=140737488355328)(h2:n+ys.length<=9223372036854775807)(hB:bW O=false:=by decide):
  jz e by_ ty (.ms O n) x d fr hp K=K (ae (bZ O fr) d (.ms O (n+ys.length))) (Qj hp O ⟨e,ty,xs.take n++ys,false⟩):=by
 simp[jz,hs,hb,h0,hn,h1,h2,hB]
theorem Kw{e d:Nat}{xs:List PV}{lo hi:Option PV}{L H:Int}(h1:iR 0 lo=some L)(h2:iR xs.length hi=some H)(h3:0<=L)(h4:L<=H)(h5:H<=xs.length):
  jo e (.sl e xs) lo hi none d fr hp K=K (ae fr d (.sl e ((xs.take H.toNat).drop L.toNat))) hp:=by
 have hM:iR (xs.length) none=some (xs.length:Int):=rfl;simp only[jo,h1,h2,hM];simp[h3,h4,h5]
theorem ao3{e d:Nat}{xs:List PV}{k:IntKind}{H:Int}(h4:0<=H)(h5:H<=xs.length):
  jo e (.sl e xs) none (some (.int k H)) none d fr hp K=K (ae fr d (.sl e (xs.take H.toNat))) hp:=by
 rw[Kw (L:=0) (H:=H) rfl rfl (by omega) h4 h5];simp
theorem ao4{e d:Nat}{xs:List PV}{k:IntKind}{L:Int}(h4:0<=L)(h5:L<=xs.length):
  jo e (.sl e xs) (some (.int k L)) none none d fr hp K=K (ae fr d (.sl e (xs.drop L.toNat))) hp:=by
 rw[Kw (L:=L) (H:=xs.length) rfl rfl h4 h5 (by omega)];simp
theorem awA:
  (∀(C:Ctx)(d:Nat)(x:aM)(fr:Fr)(hp:HP)(K:Qg),bA C (.mv d x) fr hp K=K (ae fr d (ev fr x)) hp)/\
  (∀(C:Ctx)(d:Nat)(c a b:aM)(fr:Fr)(hp:HP)(K:Qg),bA C (.pick d c a b) fr hp K=uX (ev fr c) (ev fr a) (ev fr b) d fr hp K)/\
  (∀(C:Ctx)(d:Nat)(op:BinOp)(bt:Bool)(a b:aM)(fr:Fr)(hp:HP)(K:Qg),bA C (.bin d op bt a b) fr hp K=cn op bt (ev fr a) (ev fr b) d fr hp K)/\
  (∀(C:Ctx)(d:Nat)(op:UnOp)(a:aM)(fr:Fr)(hp:HP)(K:Qg),bA C (.un d op a) fr hp K=xO op (ev fr a) d fr hp K)/\
  (∀(C:Ctx)(d:Nat)(k:IntKind)(a:aM)(fr:Fr)(hp:HP)(K:Qg),bA C (.conv d k a) fr hp K=yp k (ev fr a) d fr hp K)/\
  (∀(C:Ctx)(d:Nat)(a:aM)(fr:Fr)(hp:HP)(K:Qg),bA C (.len d a) fr hp K=qG (ev fr a) d fr hp K)/\
  (∀(C:Ctx)(d:Nat)(a b:aM)(fr:Fr)(hp:HP)(K:Qg),bA C (.mx d a b) fr hp K=zJ (ev fr a) (ev fr b) d fr hp K)/\
  (∀(C:Ctx)(d:Nat)(a b:aM)(fr:Fr)(hp:HP)(K:Qg),bA C (.mn d a b) fr hp K=zH (ev fr a) (ev fr b) d fr hp K)/\
  (∀(C:Ctx)(d e:Nat)(a b:aM)(fr:Fr)(hp:HP)(K:Qg),bA C (.idx d e a b) fr hp K=dt e (ev fr a) (ev fr b) d fr hp K)/\
  (∀(C:Ctx)(d n e:Nat)(a b:aM)(fr:Fr)(hp:HP)(K:Qg),bA C (.xI d n e a b) fr hp K=mD n e (ev fr a) (ev fr b) d fr hp K)/\
  (∀(C:Ctx)(d n e:Nat)(ag:Bool)(a b:aM)(fr:Fr)(hp:HP)(K:Qg),bA C (.FX d n e ag a b) fr hp K=AQ n e ag (ev fr a) (ev fr b) d fr hp K)/\
  (∀(C:Ctx)(d off:Nat)(a:aM)(fr:Fr)(hp:HP)(K:Qg),bA C (.bG d off a) fr hp K=tD off (ev fr a) d fr hp K)/\
  (∀(C:Ctx)(d off n:Nat)(ag:Bool)(a:aM)(fr:Fr)(hp:HP)(K:Qg),bA C (.Bq d off n ag a) fr hp K=tq off n ag (ev fr a) d fr hp K)/\
  (∀(C:Ctx)(d n:Nat)(ag:Bool)(a:aM)(fr:Fr)(hp:HP)(K:Qg),bA C (.ld d n ag a) fr hp K=iQ n ag (ev fr a) d fr hp K)/\
  (∀(C:Ctx)(n:Nat)(a b:aM)(fr:Fr)(hp:HP)(K:Qg),bA C (.st n a b) fr hp K=o8 n (ev fr a) (ev fr b) fr hp K)/\
  (∀(C:Ctx)(d n ty:Nat)(a:aM)(fr:Fr)(hp:HP)(K:Qg),bA C (.box d n ty a) fr hp K=fQ n ty (ev fr a) d fr hp K)/\
  (∀(C:Ctx)(d n ty:Nat)(z:PV)(fr:Fr)(hp:HP)(K:Qg),bA C (.alloc d n ty z) fr hp K=fQ n ty z d fr hp K)/\
  (∀(C:Ctx)(d e by_ ty:Nat)(z:PV)(l c:aM)(fr:Fr)(hp:HP)(K:Qg),bA C (.mk d e by_ ty z l c) fr hp K=o6 e by_ ty z (ev fr l) (ev fr c) d fr hp K)/\
  (∀(C:Ctx)(d e ty:Nat)(ps:List aM)(fr:Fr)(hp:HP)(K:Qg),bA C (.bs d e ty ps) fr hp K=l7 e ty (ps.map (ev fr)) d fr hp K)/\
  (∀(C:Ctx)(d e by_ ty:Nat)(a b:aM)(fr:Fr)(hp:HP)(K:Qg),bA C (.app d e by_ ty a b) fr hp K=jz e by_ ty (ev fr a) (ev fr b) d fr hp K)/\
  (∀(C:Ctx)(d e:Nat)(a b:aM)(fr:Fr)(hp:HP)(K:Qg),bA C (.xa d e a b) fr hp K=wJ e (ev fr a) (ev fr b) d fr hp K)/\
  (∀(C:Ctx)(d e:Nat)(a:aM)(l h m:Option aM)(fr:Fr)(hp:HP)(K:Qg),bA C (.sl d e a l h m) fr hp K=jo e (ev fr a) (l.map (ev fr)) (h.map (ev fr)) (m.map (ev fr)) d fr hp K)/\
  (∀(C:Ctx)(d:Nat)(a:aM)(i:Nat)(fr:Fr)(hp:HP)(K:Qg),bA C (.ext d a i) fr hp K=ns (ev fr a) i d fr hp K)/\
  (∀(C:Ctx)(d:Nat)(z:List PV)(ps:List (Nat×Nat×aM))(fr:Fr)(hp:HP)(K:Qg),bA C (.dY d z ps) fr hp K=lW z (ps.map fun p=>(p.1,p.2.1,ev fr p.2.2)) d fr hp K)/\
  (∀(C:Ctx)(d f:Nat)(x y:List aM)(fr:Fr)(hp:HP)(K:Qg),bA C (.fn d f x y) fr hp K=((x.map (ev fr)++y.map (ev fr)).all PV.mg=true/\K (ae fr d (.fn f (x.map (ev fr)) (y.map (ev fr)))) hp))/\
  (∀(C:Ctx)(d:Option Nat)(pr:Bool)(f:aM)(Bj:List aM)(fr:Fr)(hp:HP)(K:Qg),bA C (.call d pr f Bj) fr hp K=gF C pr (ev fr f) (Bj.map (ev fr)) d fr hp K)/\
  (∀(C:Ctx)(d:Option Nat)(x:aM)(fr:Fr)(hp:HP)(K:Qg),bA C (.F7 d x) fr hp K=DE (ev fr x) d fr hp K)/\
  (∀(fr:Fr)(n:Nat),ev fr (.t n)=fr n)/\(∀(fr:Fr)(p:PV),ev fr (.c p)=p):=by
 refine⟨?_,?_,?_,?_,?_,?_,?_,?_,?_,?_,?_,?_,?_,?_,?_,?_,?_,?_,?_,?_,?_,?_,?_,?_,?_,?_,?_,?_,?_⟩<;>intros<;>rfl
theorem awB:
  (∀(bt:Bool)(k:IntKind)(x y:Int)(d:Nat)(fr:Fr)(hp:HP)(K:Qg),cn .add bt (.int k x) (.int k y) d fr hp K=K (ae fr d (.int k (k.wrap (x+y)))) hp)/\
  (∀(bt:Bool)(k:IntKind)(x y:Int)(d:Nat)(fr:Fr)(hp:HP)(K:Qg),cn .sub bt (.int k x) (.int k y) d fr hp K=K (ae fr d (.int k (k.wrap (x-y)))) hp)/\
  (∀(bt:Bool)(k:IntKind)(x y:Int)(d:Nat)(fr:Fr)(hp:HP)(K:Qg),cn .mul bt (.int k x) (.int k y) d fr hp K=K (ae fr d (.int k (k.wrap (x*y)))) hp)/\
  (∀(bt:Bool)(k:IntKind)(x y:Int)(d:Nat)(fr:Fr)(hp:HP)(K:Qg),cn .eql bt (.int k x) (.int k y) d fr hp K=K (ae fr d (.bool (decide (x=y)))) hp)/\
  (∀(bt:Bool)(k:IntKind)(x y:Int)(d:Nat)(fr:Fr)(hp:HP)(K:Qg),cn .neq bt (.int k x) (.int k y) d fr hp K=K (ae fr d (.bool (decide (¬x=y)))) hp)/\
  (∀(bt:Bool)(k:IntKind)(x y:Int)(d:Nat)(fr:Fr)(hp:HP)(K:Qg),cn .lss bt (.int k x) (.int k y) d fr hp K=K (ae fr d (.bool (decide (x<y)))) hp)/\
  (∀(bt:Bool)(k:IntKind)(x y:Int)(d:Nat)(fr:Fr)(hp:HP)(K:Qg),cn .leq bt (.int k x) (.int k y) d fr hp K=K (ae fr d (.bool (decide (x<=y)))) hp)/\
  (∀(bt:Bool)(k:IntKind)(x y:Int)(d:Nat)(fr:Fr)(hp:HP)(K:Qg),cn .gtr bt (.int k x) (.int k y) d fr hp K=K (ae fr d (.bool (decide (y<x)))) hp)/\
  (∀(bt:Bool)(k:IntKind)(x y:Int)(d:Nat)(fr:Fr)(hp:HP)(K:Qg),cn .geq bt (.int k x) (.int k y) d fr hp K=K (ae fr d (.bool (decide (y<=x)))) hp)/\
  (∀(x y:Bool)(d:Nat)(fr:Fr)(hp:HP)(K:Qg),cn .eql true (.bool x) (.bool y) d fr hp K=K (ae fr d (.bool (x==y))) hp)/\
  (∀(x y:Bool)(d:Nat)(fr:Fr)(hp:HP)(K:Qg),cn .neq true (.bool x) (.bool y) d fr hp K=K (ae fr d (.bool (!(x==y)))) hp)/\
  (∀(b:Bool)(d:Nat)(fr:Fr)(hp:HP)(K:Qg),xO .not (.bool b) d fr hp K=K (ae fr d (.bool (!b))) hp)/\
  (∀(k:IntKind)(n:Int)(d:Nat)(fr:Fr)(hp:HP)(K:Qg),xO .neg (.int k n) d fr hp K=K (ae fr d (.int k (k.wrap (0-n)))) hp)/\
  (∀(k k':IntKind)(n:Int)(d:Nat)(fr:Fr)(hp:HP)(K:Qg),yp k (.int k' n) d fr hp K=K (ae fr d (.int k (k.wrap n))) hp)/\
  (∀(d:Nat)(fr:Fr)(hp:HP)(K:Qg),qG .ab d fr hp K=K (ae fr d (.int .i64 0)) hp)/\
  (∀(e:Nat)(xs:List PV)(d:Nat)(fr:Fr)(hp:HP)(K:Qg),qG (.sl e xs) d fr hp K=K (ae fr d (.int .i64 xs.length)) hp)/\
  (∀(O o n:Nat)(d:Nat)(fr:Fr)(hp:HP)(K:Qg),qG (.ax O o n) d fr hp K=K (ae fr d (.int .i64 n)) hp)/\
  (∀(k k':IntKind)(x y:Int)(d:Nat)(fr:Fr)(hp:HP)(K:Qg),zJ (.int k x) (.int k' y) d fr hp K=K (ae fr d (.int k (max x y))) hp)/\
  (∀(k k':IntKind)(x y:Int)(d:Nat)(fr:Fr)(hp:HP)(K:Qg),zH (.int k x) (.int k' y) d fr hp K=K (ae fr d (.int k (min x y))) hp)/\
  (∀(a b:PV)(d:Nat)(fr:Fr)(hp:HP)(K:Qg),uX (.bool true) a b d fr hp K=K (ae fr d a) hp)/\
  (∀(a b:PV)(d:Nat)(fr:Fr)(hp:HP)(K:Qg),uX (.bool false) a b d fr hp K=K (ae fr d b) hp)/\
  (∀(off O i o:Nat)(d:Nat)(fr:Fr)(hp:HP)(K:Qg),tD off (.mp O i o) d fr hp K=K (ae fr d (.mp O i (o+off))) hp)/\
  (∀(n:Nat)(ag:Bool)(O i o:Nat)(d:Nat)(fr:Fr)(hp:HP)(K:Qg),iQ n ag (.mp O i o) d fr hp K=jm (hp O) n ag i o d fr hp K)/\
  (∀(c:PV)(cs:List PV)(d:Nat)(fr:Fr)(hp:HP)(K:Qg),iQ 1 false (.pt (c::cs)) d fr hp K=K (ae fr d c) hp)/\
  (∀(n:Nat)(O i o:Nat)(v:PV)(fr:Fr)(hp:HP)(K:Qg),o8 n (.mp O i o) v fr hp K=stM (Q6 hp v.refs O) O n i o (Qr hp v) fr (Q6 hp v.refs) K)/\
  (∀(ps:List PV)(p:PV)(d:Nat)(fr:Fr)(hp:HP)(K:Qg),ns (.aK (p::ps)) 0 d fr hp K=(p.aG=true/\K (ae fr d p) hp))/\
  (∀(ps:List PV)(p q:PV)(d:Nat)(fr:Fr)(hp:HP)(K:Qg),ns (.aK (p::q::ps)) 1 d fr hp K=(q.aG=true/\K (ae fr d q) hp))/\
  (∀(ps:List PV)(p q r:PV)(d:Nat)(fr:Fr)(hp:HP)(K:Qg),ns (.aK (p::q::r::ps)) 2 d fr hp K=(r.aG=true/\K (ae fr d r) hp))/\
  (∀(s:Nat)(Rr:PV->Prop)(fr:Fr)(hp:HP),gG [.t s] Rr fr hp=yz Rr (Qr hp (fr s)))/\
  (∀(e:Nat)(xs:List PV),kE aA (.sl e xs)=some (e,xs))/\
  (∀(hp:HP),Q6 hp []=hp)/\
  (∀(fr:Fr)(r:PV),gS fr none r=fr)/\(∀(fr:Fr)(d:Nat)(r:PV),gS fr (some d) r=ae fr d r)/\
  (∀(O:Nat)(fr:Fr)(i:Nat),bZ O fr i=bU O (fr i)):=by
 refine⟨?_,?_,?_,?_,?_,?_,?_,?_,?_,?_,?_,?_,?_,?_,?_,?_,?_,?_,?_,?_,?_,?_,?_,?_,?_,?_,?_,?_,?_,?_,?_,?_,?_,?_⟩<;>intros
 all_goals first
  |rfl
  |(simp[cn,uX,ns,iQ,eZ,PV.cells,o8,stM];done)
  |(simp[cn,uX,ns,iQ,eZ,PV.cells,o8,stM];try rfl)
  |skip
end Go.FW
namespace Go.FW
open Go
variable {C : Ctx} {ρ : Nat -> Option Nat} {fr : Fr} {hp : HP} {w : World} {K R : Qg}
theorem RS(i O e ty:Nat)(he:0<e)(hi:fr i= .ab)(hB:bW O=false:=by decide):Wk fr hp (ae (bZ O fr) i (.ms O 0)) (Qj hp O ⟨e,ty,[],false⟩):=by
 rintro C tmps w ⟨ρ,hs⟩;have hr:=hs.rebind (w':=w) O none ⟨e,ty,[],false⟩ hB (Ext.refl _ _) (by simp) he (by simp) (by simp) (by simp);refine⟨_,hr.sz,hr.ext,hr.fI,hr.own,hr.inj,fun j=>?_⟩;unfold ae;split
 ·rename_i hj;subst hj;have:=hs.dm j;rw[hi]at this;have e:=Qk.zL this;exact⟨_,by simp[Qj];rfl,by simp,.inl ⟨ij _ _ _,e,rfl,rfl⟩⟩
 ·exact hr.dm j
end Go.FW
namespace Go.FW
open Go
variable {C : Ctx} {ρ : Nat -> Option Nat} {fr : Fr} {hp : HP} {w : World} {K R : Qg}
theorem ai3(fr:Fr)(a:Nat)(v w:PV):ae (ae fr a v) a w=ae fr a w:=by funext i;unfold ae;split<;>rfl
theorem Lm{α:Type}{f:α->PV}{e d:Nat}{xs:List α}{k:IntKind}{H:Int}(h4:0<=H)(h5:H<=xs.length):
  jo e (.sl e (xs.map f)) none (some (.int k H)) none d fr hp K=K (ae fr d (.sl e ((xs.take H.toNat).map f))) hp:=by
 rw[ao3 h4 (by simpa using h5)];simp
theorem Q97{α:Type}{f:α->PV}{e d:Nat}{xs:List α}{k:IntKind}{L:Int}(h4:0<=L)(h5:L<=xs.length):
  jo e (.sl e (xs.map f)) (some (.int k L)) none none d fr hp K=K (ae fr d (.sl e ((xs.drop L.toNat).map f))) hp:=by
 rw[ao4 h4 (by simpa using h5)];simp
theorem Q31{α:Type}{f:α->PV}{e d:Nat}{xs:List α}{k k':IntKind}{L H:Int}(h3:0<=L)(h4:L<=H)(h5:H<=xs.length):
  jo e (.sl e (xs.map f)) (some (.int k L)) (some (.int k' H)) none d fr hp K=K (ae fr d (.sl e (((xs.take H.toNat).drop L.toNat).map f))) hp:=by
 rw[Kw (L:=L) (H:=H) rfl rfl h3 h4 (by simpa using h5)];simp
theorem ai4(hp:HP)(e:Nat)(xs:List PV):Qr hp (.sl e xs)= .sl e xs:=rfl
theorem agE(hp:HP)(k:IntKind)(n:Int):Qr hp (.int k n)= .int k n:=rfl
theorem Q98(hp:HP)(b:Bool):Qr hp (.bool b)= .bool b:=rfl
theorem agF(hp:HP)(cs:List PV):Qr hp (.agg cs)= .agg cs:=rfl
theorem agG(hp:HP):Qr hp .ab= .ab:=rfl
theorem HU(hp:HP)(O n:Nat)(e ty:Nat)(xs:List PV)(fz:Bool)(h:hp O=some ⟨e,ty,xs,fz⟩)(hB:bW O=false:=by decide):Qr hp (.ms O n)= .sl e (xs.take n):=by simp[Qr,cx,h,yh hB]
theorem ai5(e:Nat)(xs:List PV):(PV.sl e xs).refs=[]:=rfl
theorem agH(k:IntKind)(n:Int):(PV.int k n).refs=[]:=rfl
theorem Q99(b:Bool):(PV.bool b).refs=[]:=rfl
theorem agI(cs:List PV):(PV.agg cs).refs=[]:=rfl
theorem agJ:PV.ab.refs=[]:=rfl
theorem agK(O e:Nat)(xs:List PV):bU O (.sl e xs)= .sl e xs:=rfl
theorem aex(O:Nat)(k:IntKind)(n:Int):bU O (.int k n)= .int k n:=rfl
theorem Q7h(O:Nat)(b:Bool):bU O (.bool b)= .bool b:=rfl
theorem aey(O:Nat)(cs:List PV):bU O (.agg cs)= .agg cs:=rfl
theorem aez(O:Nat):bU O .ab= .ab:=rfl
theorem Ps(O γ o n:Nat):bU O (.ax γ o n)=if γ=O then .undef else .ax γ o n:=by
 by_cases h:γ=O
 ·subst h;simp[bU,PV.refs]
 ·simp[bU,PV.refs,h];intro h';exact absurd h'.symm h
theorem agL(O γ o n:Nat):bU O (.rb γ o n)=if γ=O then .undef else .rb γ o n:=by
 by_cases h:γ=O
 ·subst h;simp[bU,PV.refs]
 ·simp[bU,PV.refs,h];intro h';exact absurd h'.symm h
theorem Pu(O γ i o:Nat):bU O (.mp γ i o)=if γ=O then .undef else .mp γ i o:=by
 by_cases h:γ=O
 ·subst h;simp[bU,PV.refs]
 ·simp[bU,PV.refs,h];intro h';exact absurd h'.symm h
theorem ao5:
  (∀(fr:Fr)(a:Nat)(v:PV)(b:Nat),ae fr a v b=if b=a then v else fr b)/\
  (∀(h:HP)(a:Nat)(v:HB)(b:Nat),Qj h a v b=if b=a then some v else h b)/\
  (∀(O:Nat),aA O=none)/\
  (∀(hp:HP)(e:Nat)(xs:List PV),Qr hp (.sl e xs)= .sl e xs)/\
  (∀(hp:HP)(k:IntKind)(n:Int),Qr hp (.int k n)= .int k n)/\
  (∀(hp:HP)(b:Bool),Qr hp (.bool b)= .bool b)/\
  (∀(hp:HP)(cs:List PV),Qr hp (.agg cs)= .agg cs)/\
  (∀(hp:HP),Qr hp .ab= .ab)/\
  (∀(e:Nat)(xs:List PV),(PV.sl e xs).refs=[])/\
  (∀(k:IntKind)(n:Int),(PV.int k n).refs=[])/\
  (∀(b:Bool),(PV.bool b).refs=[])/\
  (∀(cs:List PV),(PV.agg cs).refs=[])/\
  (PV.ab.refs=[])/\
  (∀(O o n:Nat),(PV.ax O o n).refs=[O])/\
  (∀(O i o:Nat),(PV.mp O i o).refs=[O])/\
  (∀(O e:Nat)(xs:List PV),bU O (.sl e xs)= .sl e xs)/\
  (∀(O:Nat)(k:IntKind)(n:Int),bU O (.int k n)= .int k n)/\
  (∀(O:Nat)(b:Bool),bU O (.bool b)= .bool b)/\
  (∀(O:Nat)(cs:List PV),bU O (.agg cs)= .agg cs)/\
  (∀(O:Nat),bU O .ab= .ab)/\
  (∀(O γ o n:Nat),bU O (.ax γ o n)=if γ=O then .undef else .ax γ o n)/\
  (∀(O γ i o:Nat),bU O (.mp γ i o)=if γ=O then .undef else .mp γ i o)/\
  (∀(O γ o n:Nat),bU O (.rb γ o n)=if γ=O then .undef else .rb γ o n)/\
  (∀(O o n:Nat),(PV.rb O o n).refs=[O])/\
  (∀(o:cI)(fr:Fr)(hp:HP)(K:Qg),kF o fr hp K=match o.dst with|some d=>K (ae fr d (.aK [])) hp|none=>K fr hp)/\
  (∀(f:aM->PV),Option.map f none=none)/\(∀(f:aM->PV)(x:aM),Option.map f (some x)=some (f x))/\
  (∀(k:IntKind)(n:Int),(PV.int k n).cells=[.int k n])/\
  (∀(b:Bool),(PV.bool b).cells=[.bool b])/\
  (∀(e:Nat)(xs:List PV),(PV.sl e xs).cells=[.sl e xs])/\
  (∀(cs:List PV),(PV.agg cs).cells=cs):=by
 refine⟨fun _ _ _ _=>rfl,fun _ _ _ _=>rfl,fun _=>rfl,ai4,agE,Q98,agF,agG,ai5,agH,Q99,agI,agJ,fun _ _ _=>rfl,fun _ _ _=>rfl,agK,aex,Q7h,aey,aez,Ps,Pu,agL,fun _ _ _=>rfl,fun _ _ _ _=>rfl,fun _=>rfl,fun _ _=>rfl,fun _ _=>rfl,fun _=>rfl,fun _ _=>rfl,fun _=>rfl⟩
theorem ao6{p:Nat->Prop}(h:∃m,p m):∃m,p m/\∀k,p k->m<=k:=by
 obtain⟨m,hm⟩:=h;induction m using Nat.strongRecOn with
 |ind m ih=>
  by_cases hk:∃k,k<m/\p k
  ·obtain⟨k,h1,h2⟩:=hk;exact ih k h1 h2
  ·exact⟨m,hm,fun k cG=>Nat.le_of_not_lt fun ao=>hk ⟨k,ao,cG⟩⟩
def AD(I:Nat->Qg)(n:Nat):Qg:=fun aC hp'=>∃aO aA,Wk aC hp' aO aA/\∃m,m<n/\I m aO aA
theorem ph{I:Nat->Qg}{n m:Nat}(hl:m<n)(h:I m fr hp):AD I n fr hp:=⟨fr,hp,Wk.refl _ _,m,hl,h⟩
theorem LJ{I:Nat->Qg}{n m:Nat}{aC:Fr}{hp':HP}(hl:m<n)(hw:Wk fr hp aC hp')(h:I m aC hp'):AD I n fr hp:=⟨aC,hp',hw,m,hl,h⟩
theorem CG{sk:List It}{x:SC}(I:Nat->Qg)(m0:Nat){aO:Fr}{aA:HP}(hw:Wk fr hp aO aA)(h0:I m0 aO aA)(h:∀m fr hp,I m fr hp->vc C R (.c x:: .el (AD I m)::sk) fr hp):vc C R (.c (.loop x)::sk) fr hp:=by
 refine af2 (fun fr hp=>∃m,I m fr hp) (fun fr hp=>Classical.epsilon fun m=>I m fr hp/\∀k,I k fr hp->m<=k) hw ⟨m0,h0⟩ ?_;intro fr hp hI;have key:∀fr hp,(∃m,I m fr hp)->I (Classical.epsilon fun m=>I m fr hp/\∀k,I k fr hp->m<=k) fr hp/\∀k,I k fr hp->(Classical.epsilon fun m=>I m fr hp/\∀k,I k fr hp->m<=k)<=k:=fun fr hp hI=>Classical.epsilon_spec (ao6 hI);have e:AK (fun fr hp=>∃m,I m fr hp) (fun fr hp=>Classical.epsilon fun m=>I m fr hp/\∀k,I k fr hp->m<=k) (Classical.epsilon fun m=>I m fr hp/\∀k,I k fr hp->m<=k)=AD I (Classical.epsilon fun m=>I m fr hp/\∀k,I k fr hp->m<=k):=by
  funext aC hp';apply propext;constructor
  ·rintro⟨aO,aA,h1,h2,h3⟩;exact⟨aO,aA,h1,_,h3,(key aO aA h2).1⟩
  ·rintro⟨aO,aA,h1,m,h2,h3⟩;exact⟨aO,aA,h1,⟨m,h3⟩,KcC ((key aO aA ⟨m,h3⟩).2 m h3) h2⟩
 rw[e];exact h _ fr hp (key fr hp hI).1
theorem tc{sk:List It}{x:SC}(I:Nat->Qg)(m0:Nat)(h0:I m0 fr hp)(h:∀m fr hp,I m fr hp->vc C R (.c x:: .el (AD I m)::sk) fr hp):vc C R (.c (.loop x)::sk) fr hp:=
 CG I m0 (Wk.refl _ _) h0 h
theorem alM{α:Type}{e:Nat}{f:α->PV}:PV.le .ab (.sl e (([]:List α).map f)):=trivial
theorem Qy{P:Program}(hP:C.P=P){g:FuncId}{first cap args aU:List PV}{pr:Bool}{d:Option Nat}{r:PV}(h:Qb P g aU (· =r))(dk:(first++args++cap).map (Qr hp)=aU)(dR:aU.all PV.aG=true)(hr:(first++args++cap).flatMap PV.refs=[])
  (hK:K (gS fr d r) hp):gF C pr (.fn g first cap) args d fr hp K:=by
 refine ik hP h dk dR ?_;rw[hr];exact hK
theorem gP{P:Program}(hP:C.P=P){g:FuncId}{first cap args aU:List PV}{pr:Bool}{d:Option Nat}{Rr:PV->Prop}(h:Qb P g aU Rr)(dk:(first++args++cap).map (Qr hp)=aU)(dR:aU.all PV.aG=true)(hr:(first++args++cap).flatMap PV.refs=[])
  (hK:∀r,Rr r->K (gS fr d r) hp):gF C pr (.fn g first cap) args d fr hp K:=by
 refine VV hP h dk dR fun r h=>?_;rw[hr];exact hK r h
theorem ai6{d O n ty:Nat}{xs ys:List PV}(hb:hp O=some ⟨1,ty,xs,false⟩)(hn:n=xs.length):
  wJ 1 (.ms O n) (.sl 1 ys) d fr hp K=K (ae fr d (.int .i64 (min (ys.length:Int) n))) (Qj hp O ⟨1,ty,ys.take n++xs.drop ys.length,false⟩):=by
 simp[wJ,kE,hb,hn]
theorem RZ{by_ ty d:Nat}{kz k k':IntKind}{nz:Int}{L Cc:Int}(h1:0<=L)(h2:L<=Cc)(h3:by_*Cc<=281474976710656)(h4:Cc<=9223372036854775807):
  o6 1 by_ ty (.int kz nz) (.int k L) (.int k' Cc) d fr hp K=K (ae (bZ d fr) d (.ms d L.toNat)) (Qj hp d ⟨1,ty,List.replicate L.toNat (.int kz nz),false⟩):=by
 exact Iu (e:=1) (by omega) rfl h1 h2 h3 h4
theorem R3{ty O i:Nat}{xs:List PV}{k:IntKind}{n:Int}(h:i<xs.length):stM (some ⟨1,ty,xs,false⟩) O 1 i 0 (.int k n) fr hp K=K fr (Qj hp O ⟨1,ty,xs.set i (.int k n),false⟩):=
 Q95 h rfl rfl
theorem aeA(h:HP)(a:Nat)(v w:HB):Qj (Qj h a v) a w=Qj h a w:=by funext i;unfold Qj;split<;>rfl
theorem alN{ty d:Nat}{k:IntKind}{n:Int}:l7 1 ty [.int k n] d fr hp K=K (ae (bZ d fr) d (.ms d 1)) (Qj hp d ⟨1,ty,[.int k n],false⟩):=by simp[l7,ot,nn,DU,HO,Qr,cx,PV.refs,PV.aG,PV.cells];rfl
theorem ig{O n e ty:Nat}{xs:List PV}{fz:Bool}{r:PV}(hb:hp O=some ⟨e,ty,xs,fz⟩)(h:PV.sl e (xs.take n)=r)(hB:bW O=false:=by decide):yz (· =r) (Qr hp (.ms O n)):=by rw[HU hp O n e ty xs fz hb hB];exact Qc h (by rw[<-h];rfl)
theorem LL{e by_ ty ty' d O γ n:Nat}{xs:List PV}{y:PV}{fz:Bool}(hb:hp O=some ⟨e,ty,xs,false⟩)(hy:hp γ=some ⟨e,ty',[y],fz⟩)(h0:0<e)(hn:n=xs.length)(h1:(n+1)*by_<=140737488355328)(h2:n+1<=9223372036854775807)(hB:bW O=false:=by decide):
  jz e by_ ty (.ms O n) (.ms γ 1) d fr hp K=K (ae (bZ O fr) d (.ms O (n+1))) (Qj hp O ⟨e,ty,xs++[y],false⟩):=by
 subst hn;rw[Ld (ys:=[y]) (xs:=xs) (by simp[kE,hy]) hb h0 (Kae _) (by simpa using h1) (by simpa using h2) hB];simp
theorem TS(n:Nat):IntKind.u16.wrap (n:Int)=((n%65536:Nat):Int):=by simp only[IntKind.wrap,IntKind.bits,IntKind.signed];simp
theorem Kb{bt:Bool}{k k':IntKind}{x y:Int}{d:Nat}(h:0<=y):cn .shr bt (.int k x) (.int k' y) d fr hp K=K (ae fr d (.int k (x.fdiv (2^(min y.toNat k.bits))))) hp:=by simp[cn,h]
theorem VW{bt:Bool}{k':IntKind}{n d:Nat}:cn .shr bt (.int .u64 (n:Int)) (.int k' 16) d fr hp K=K (ae fr d (.int .u64 ((n/65536:Nat):Int))) hp:=by
 rw[Kb (by omega)];have:min (16:Int).toNat IntKind.u64.bits=16:=by decide
 rw[this,KcK _ (by omega)];simp
theorem aeB{bt:Bool}{k':IntKind}{n d:Nat}:cn .shr bt (.int .u32 (n:Int)) (.int k' 16) d fr hp K=K (ae fr d (.int .u32 ((n/65536:Nat):Int))) hp:=by
 rw[Kb (by omega)];have:min (16:Int).toNat IntKind.u32.bits=16:=by decide
 rw[this,KcK _ (by omega)];simp
end Go.FW
namespace Go.FW
def val:List Nat->Nat
 | []=>0
 |x::xs=>x+65536*val xs
def Qi(l:List Nat):Prop:=∀x∈l,x<65536
def ak(n:Nat):List Nat:=if h:n=0 then []else n%65536::ak (n/65536)
termination_by n
decreasing_by omega
def nl(n:Nat):Nat:=(ak n).length
theorem pg:Qi []:=by simp[Qi]
theorem iC{x:Nat}{l:List Nat}:Qi (x::l)↔x<65536/\Qi l:=by simp[Qi]
theorem o9{l m:List Nat}:Qi (l++m)↔Qi l/\Qi m:=by
 simp only[Qi,KaS];constructor
 ·intro h;exact⟨fun x hx=>h x (.inl hx),fun x hx=>h x (.inr hx)⟩
 ·rintro⟨h1,h2⟩ x (hx|hx)
  ·exact h1 x hx
  ·exact h2 x hx
theorem z'{l:List Nat}(h:Qi l)(n:Nat):Qi (l.take n):=fun x hx=>h x (Kbi hx)
theorem Cw{l:List Nat}(h:Qi l)(n:Nat):Qi (l.drop n):=fun x hx=>h x (KbP hx)
theorem fe{l:List Nat}(h:Qi l){i:Nat}(hi:i<l.length):l[i]<65536:=h _ (Kag hi)
theorem gp:ak 0=[]:=by rw[ak];simp
theorem wy{n:Nat}(h:n≠0):ak n=n%65536::ak (n/65536):=by rw[ak];simp[h]
theorem Ql(n:Nat):Qi (ak n):=by
 induction n using ak.induct with
 |case1=>rw[gp];exact pg
 |case2 n h ih=>rw[wy h,iC];exact⟨by omega,ih⟩
theorem Qw(n:Nat):val (ak n)=n:=by
 induction n using ak.induct with
 |case1=>rw[gp];rfl
 |case2 n h ih=>rw[wy h,val,ih];omega
theorem m9{n:Nat}:ak n=[]↔n=0:=by
 constructor
 ·intro h;have:=Qw n;rw[h]at this;exact this.symm
 ·rintro rfl;exact gp
theorem C7:nl 0=0:=by simp[nl,gp]
theorem Cx{n:Nat}:nl n=0↔n=0:=by rw[nl,Kas,m9]
theorem alO{n:Nat}(h:n≠0):nl n=nl (n/65536)+1:=by simp[nl,wy h]
theorem n9(l m:List Nat):val (l++m)=val l+65536^l.length*val m:=by
 induction l with
 |nil=>simp[val]
 |cons x l ih=>simp only[Kaw,val,ih,Kaz,KbH];rw[Ka0,<-Nat.mul_assoc,Ka5 65536 (65536^_)];omega
theorem qy{l:List Nat}(h:Qi l):val l<65536^l.length:=by
 induction l with
 |nil=>simp[val]
 |cons x l ih=>rw[iC]at h;have:=ih h.2;simp only[val,Kaz,KbH];omega
theorem VX(n:Nat):val (List.replicate n 0)=0:=by
 induction n with
 |zero=>rfl
 |succ n ih=>simp[KbN,val,ih]
theorem C8{l:List Nat}(h:Qi l)(hl:l.getLast? ≠some 0):ak (val l)=l:=by
 induction l with
 |nil=>simp[val,gp]
 | cons x l ih=>
  rw[iC]at h;have ss:l.getLast? ≠some 0:=by intro hh;apply hl;rw[KcD,hh];rfl
  have bz:val (x::l)≠0:=by
   simp only[val];intro h0;have h1:val l=0:=by omega
   have:=ih h.2 ss;rw[h1,gp]at this;subst this;simp at hl;omega
  rw[wy bz];simp only[val];rw[show(x+65536*val l)%65536=x by omega,show(x+65536*val l)/65536=val l by omega,ih h.2 ss]
theorem LM(n:Nat):(ak n).getLast? ≠some 0:=by
 induction n using ak.induct with
 |case1=>simp[gp]
 | case2 n h ih=>
  rw[wy h,KcD];cases hd:(ak (n/65536)).getLast? with
  |none=>
   have:n/65536=0:=by rw[List.getLast?_eq_none_iff,m9]at hd;exact hd
   simp;omega
  |some y=>rw[hd]at ih;simpa using ih
def cut(l:List Nat):Nat->List Nat
 |0=>[]
 |n+1=>if l[n]? =some 0 then cut l n else l.take (n+1)
theorem R4{l:List Nat}(h:Qi l):∀n,n<=l.length->cut l n=ak (val (l.take n))
 |0,_=>by simp[cut,val,gp]
 | n+1,hn=>by
  have e:l.take (n+1)=l.take n++[l[n]]:=by rw[Kar (by omega)]
  unfold cut;split
  ·rename_i hz;rw[R4 h n (by omega),e,n9];rw[Kad (by omega)]at hz;have vQ:l[n]=0:=by simpa using hz
   simp[val,vQ]
  ·rename_i hz;rw[C8 (z' h _)];rw[e,List.getLast?_concat];intro h0;apply hz;rw[Kad (by omega)];exact h0
theorem C9{l:List Nat}(h:Qi l):cut l l.length=ak (val l):=by rw[R4 h _ (Kae _),Kba]
theorem cE{l:List Nat}(h:Qi l):nl (val l)<=l.length:=by
 rw[nl,<-C9 h];have:∀n,(cut l n).length<=n:=by
  intro n;induction n with
  |zero=>simp[cut]
  |succ n ih=>
   unfold cut;split
   ·omega
   ·simp;omega
 have h1:=this l.length;exact h1
theorem oe{n k:Nat}:nl n<=k↔n<65536^k:=by
 induction k generalizing n with
 |zero=>simp[Cx]
 | succ k ih=>
  by_cases h:n=0
  ·subst h;simp[C7];exact KbY (by omega)
  ·rw[alO h,Nat.add_le_add_iff_right,ih,KbH,Kbp (by omega)]
theorem gE{m n:Nat}(h:m<=n):nl m<=nl n:=oe.2 (KcC h (oe.1 (Kae _)))
theorem Dy(m n:Nat):nl (m+n)<=max (nl m) (nl n)+1:=by rw[oe,KbH];have h1:m<65536^(max (nl m) (nl n)):=oe.1 (by omega);have h2:n<65536^(max (nl m) (nl n)):=oe.1 (by omega);omega
theorem mC(m n:Nat):nl (m*n)<=nl m+nl n:=by rw[oe,Nat.pow_add];exact Nat.mul_lt_mul'' (oe.1 (Kae _)) (oe.1 (Kae _))
theorem td{n:Nat}(h:n<18446744073709551616):nl n<=4:=oe.2 (by simpa using h)
theorem Hd{n:Nat}:nl n<=4↔n<18446744073709551616:=by rw[oe]
theorem uH:ak 1=[1]:=by rw[wy (by omega)];simp[gp]
open Go
variable {C : Ctx} {ρ : Nat -> Option Nat} {fr : Fr} {hp : HP} {w : World} {K R : Qg}
abbrev bJ(l:List Nat):List PV:=l.map fun(x:Nat)=>.int .u16 x
abbrev tE(l:List Int):List PV:=l.map fun(x:Int)=>.int .i64 x
theorem alP(a b:Nat):(a:Int)+(b:Int)=((a+b:Nat):Int):=rfl
theorem ai7(a:Nat):(a:Int)+1=((a+1:Nat):Int):=rfl
theorem ai8(a:Nat):(a:Int)+2=((a+2:Nat):Int):=rfl
theorem ai9(a:Nat):(a:Int)+3=((a+3:Nat):Int):=rfl
theorem alQ(a b:Nat):(a:Int)*(b:Int)=((a*b:Nat):Int):=rfl
theorem aja{α:Type}{f:α->PV}{e d:Nat}{k:IntKind}{i:Nat}{xs:List α}(h:i<xs.length):
  dt e (.sl e (xs.map f)) (.int k (i:Int)) d fr hp K=K (ae fr d (.pt (f (xs[i]'h)).cells)) hp:=by
 rw[yf (by omega) (by omega)];rfl
theorem ajb{e d O o n i:Nat}{k:IntKind}(h:i<n)(he:(hp O).map (·.e)=some e):dt e (.ax O o n) (.int k (i:Int)) d fr hp K=K (ae fr d (.mp O (o+i) 0)) hp:=by rw[Ih (by omega) (by omega) he];rfl
theorem alR{α:Type}{f:α->PV}{e d:Nat}{xs:List α}{k:IntKind}{n:Nat}(h5:n<=xs.length):
  jo e (.sl e (xs.map f)) none (some (.int k (n:Int))) none d fr hp K=K (ae fr d (.sl e ((xs.take n).map f))) hp:=by
 rw[Lm (by omega) (by omega)];rfl
theorem alS{α:Type}{f:α->PV}{e d:Nat}{xs:List α}{k:IntKind}{n:Nat}(h5:n<=xs.length):
  jo e (.sl e (xs.map f)) (some (.int k (n:Int))) none none d fr hp K=K (ae fr d (.sl e ((xs.drop n).map f))) hp:=by
 rw[Q97 (by omega) (by omega)];rfl
theorem agM{α:Type}{f:α->PV}{e d:Nat}{xs:List α}{k k':IntKind}{m n:Nat}(h4:m<=n)(h5:n<=xs.length):
  jo e (.sl e (xs.map f)) (some (.int k (m:Int))) (some (.int k' (n:Int))) none d fr hp K=K (ae fr d (.sl e (((xs.take n).drop m).map f))) hp:=by
 rw[Q31 (by omega) (by omega) (by omega)];rfl
theorem alT{by_ ty d:Nat}{k k':IntKind}{n c:Nat}(h2:n<=c)(h3:by_*c<=281474976710656)(h4:c<=9223372036854775807):
  o6 1 by_ ty (.int .u16 0) (.int k (n:Int)) (.int k' (c:Int)) d fr hp K=K (ae (bZ d fr) d (.ms d n)) (Qj hp d ⟨1,ty,bJ (List.replicate n 0),false⟩):=by
 rw[RZ (by omega) (by omega) (by omega) (by omega)];simp[bJ]
theorem aml{ty i d:Nat}{fz:Bool}{l:List Nat}(h:i<l.length):jm (some ⟨1,ty,bJ l,fz⟩) 1 false i 0 d fr hp K=K (ae fr d (.int .u16 (l[i]'h:Nat))) hp:=by rw[od (by simpa using h) (by omega) (by simp)];simp[eZ,PV.cells]
theorem amm{ty i d:Nat}{fz:Bool}{l:List Int}(h:i<l.length):jm (some ⟨1,ty,tE l,fz⟩) 1 false i 0 d fr hp K=K (ae fr d (.int .i64 (l[i]'h))) hp:=by rw[od (by simpa using h) (by omega) (by simp)];simp[eZ,PV.cells]
theorem R5{ty O i v:Nat}{l:List Nat}(h:i<l.length):stM (some ⟨1,ty,bJ l,false⟩) O 1 i 0 (.int .u16 (v:Int)) fr hp K=K fr (Qj hp O ⟨1,ty,bJ (l.set i v),false⟩):=by rw[R3 (by simpa using h)];simp[bJ,List.map_set]
theorem amn{ty O i:Nat}{v:Int}{l:List Int}(h:i<l.length):stM (some ⟨1,ty,tE l,false⟩) O 1 i 0 (.int .i64 v) fr hp K=K fr (Qj hp O ⟨1,ty,tE (l.set i v),false⟩):=by rw[R3 (by simpa using h)];simp[tE,List.map_set]
theorem agN{O n ty:Nat}{l:List Nat}{fz:Bool}(h:hp O=some ⟨1,ty,bJ l,fz⟩)(hn:n=l.length)(hB:bW O=false:=by decide):Qr hp (.ms O n)= .sl 1 (bJ l):=by rw[HU hp O n _ _ _ _ h hB,Kah (by simp[hn])]
theorem xX{P:Program}(hP:C.P=P){g:FuncId}{first cap args aU:List PV}{pr:Bool}{d:Option Nat}{r:PV}(h:Qb P g aU (· =r))(dk:(first++args++cap).map (Qr hp)=aU)(dR:aU.all PV.aG=true)
  (hK:∀hp',K (gS fr d r) hp'):gF C pr (.fn g first cap) args d fr hp K:=ik hP h dk dR (hK _)
end Go.FW
namespace Go.FW
def iq(x y:Nat):Int:=if x<y then -1 else if y<x then 1 else 0
theorem Ma{x y:Nat}(h:x<y):iq x y= -1:=by simp[iq,h]
theorem Mb{x y:Nat}(h:y<x):iq x y=1:=by simp[iq,h];omega
theorem Rc{x y:Nat}(h:x=y):iq x y=0:=by simp[iq,h]
theorem Pv{x y:Nat}(h:nl x<nl y):x<y:=by
 rcases Kb1 x y with h1|h1
 ·exact h1
 ·have:=gE h1;omega
theorem rf(l:List Nat)(k:Nat)(hk:k<=l.length):val l=val (l.take k)+65536^k*val (l.drop k):=by have:=n9 (l.take k) (l.drop k);rw[Kbk,KaB,Kb7 hk]at this;exact this
theorem vZ{l:List Nat}(h:Qi l)(k:Nat)(hk:k<=l.length):val (l.take k)<65536^k:=by
 have:=qy (z' h k)
 rwa[KaB,Kb7 hk]at this
theorem nd{l:List Nat}{k:Nat}(hk:k<l.length):val (l.drop k)=l[k]+65536*val (l.drop (k+1)):=by rw[Kax hk,val]
theorem Q32{a b:List Nat}(ha:Qi a){k:Nat}(BH:k<=a.length)(vE:k<=b.length)(h:val (a.drop k)<val (b.drop k)):val a<val b:=by rw[rf a k BH,rf b k vE];have h1:=vZ ha k BH;have h2:65536^k*(val (a.drop k)+1)<=65536^k*val (b.drop k):=Kbf _ h;rw[Ka0]at h2;omega
theorem VY{a b:List Nat}(ha:Qi a){k:Nat}(BH:k<a.length)(vE:k<b.length)(h:a[k]<b[k])(he:val (a.drop (k+1))=val (b.drop (k+1))):val a<val b:=by refine Q32 ha (k:=k) (by omega) (by omega) ?_;rw[nd BH,nd vE,he];omega
def jW:List Nat->List Nat->Nat->List Nat
 | [],_,c=>if c=0 then []else [c]
 |x::xs,ys,c=>(c+x+ys.headD 0)%65536::jW xs ys.tail ((c+x+ys.headD 0)/65536)
theorem CH(l:List Nat):val l=l.headD 0+65536*val l.tail:=by cases l<;>simp[val]
theorem Pw:∀(a b:List Nat)(c:Nat),b.length<=a.length->val (jW a b c)=val a+val b+c
 | [],b,c,h=>by have:b=[]:=Kas.1 (by simpa using h);subst this;unfold jW;split<;>simp[val];omega
 |x::xs,b,c,h=>by rw[jW,val,Pw xs b.tail _ (by simp at h ⊢;omega),val,CH b];omega
theorem UW:∀(a b:List Nat)(c:Nat),c<65536->Qi a->Qi b->b.length<=a.length->Qi (jW a b c)
 | [],b,c,hc,_,_,_=>by unfold jW;split<;>simp[Qi];exact hc
 |x::xs,b,c,hc,ha,hb,h=>by
  rw[iC]at ha;have lF:b.headD 0<65536:=by cases b with|nil=>simp|cons y ys=>exact hb _ (by simp)
  rw[jW,iC];exact⟨by omega,UW xs b.tail _ (by omega) ha.2 (fun x hx=>hb x (List.mem_of_mem_tail hx)) (by simp at h ⊢;omega)⟩
theorem VZ:∀(a b:List Nat)(c:Nat),a.getLast? ≠some 0->(jW a b c).getLast? ≠some 0
 | [],b,c,_=>by unfold jW;split<;>simp;assumption
 | x::xs,b,c,h=>by
  rw[jW,KcD];cases xs with
  |nil=>
   simp only[List.getLast?_singleton,ne_eq,KaD]at h;simp only[jW];generalize b.headD 0=y;split
   ·rename_i h0;simp;omega
   ·rename_i h0;simp;omega
  |cons y ys=>
   have ih:=VZ (y::ys) b.tail ((c+x+b.headD 0)/65536) (by rw[KcD]at h;simpa[KcD]using h);cases hl:(jW (y::ys) b.tail ((c+x+b.headD 0)/65536)).getLast? with
   |none=>rw[List.getLast?_eq_none_iff]at hl;simp[jW]at hl
   |some z=>rw[hl]at ih;simpa using ih
theorem agO{x y:Nat}(h:nl y<=nl x):jW (ak x) (ak y) 0=ak (x+y):=by have h1:=Pw (ak x) (ak y) 0 h;rw[Qw,Qw,KaP]at h1;rw[<-h1,C8 (UW _ _ _ (by omega) (Ql x) (Ql y) h) (VZ _ _ _ (LM x))]
def nw:List Nat->List Nat->Nat->List Nat
 | [],_,_=>[]
 |x::xs,ys,c=>(x+65536-c-ys.headD 0)%65536::nw xs ys.tail (if x<c+ys.headD 0 then 1 else 0)
theorem UX:∀(a b:List Nat)(c:Nat),Qi (nw a b c)
 | [],_,_=>pg
 |x::xs,b,c=>by rw[nw,iC];exact⟨by omega,UX xs _ _⟩
theorem Ua:∀(a b:List Nat)(c:Nat),(nw a b c).length=a.length
 | [],_,_=>rfl
 |x::xs,b,c=>by simp[nw,Ua xs]
theorem Px:∀(a b:List Nat)(c:Nat),c<=1->Qi a->Qi b->b.length<=a.length->val b+c<=val a->val (nw a b c)+val b+c=val a
 | [],b,c,_,_,_,h,h2=>by have:b=[]:=Kas.1 (by simpa using h);subst this;simp[val]at h2 ⊢;simp[nw,val,h2]
 |x::xs,b,c,hc,ha,hb,h,h2=>by
  rw[iC]at ha;have lF:b.headD 0<65536:=by cases b with|nil=>simp|cons y ys=>exact hb _ (by simp)
  rw[val,CH b]at h2;rw[nw,val,val,CH b];have ih:=Px xs b.tail (if x<c+b.headD 0 then 1 else 0) (by split<;>omega) ha.2 (fun x hx=>hb x (List.mem_of_mem_tail hx)) (by simp at h ⊢;omega) (by generalize b.headD 0=y at *;split<;>omega);generalize b.headD 0=y at *
  split at ih
  ·rename_i h0;rw[if_pos h0];omega
  ·rename_i h0;rw[if_neg h0];omega
theorem CU{done:List Nat}{i n v:Nat}(h:done.length=i)(hn:0<n):(done++List.replicate n 0).set i v=(done++[v])++List.replicate (n-1) 0:=by
 subst h;obtain⟨n,rfl⟩:∃k,n=k+1:=⟨n-1,by omega⟩
 simp[KbN]
theorem LN{done:List Nat}{i n m:Nat}(h:done.length=i)(hn:i+n=m):(done++List.replicate n 0).length=m:=by simp[h,hn]
theorem aeC{a b:List Nat}{i c:Nat}(h:i<a.length):jW (a.drop i) (b.drop i) c=(c+a[i]+b.getD i 0)%65536::jW (a.drop (i+1)) (b.drop (i+1)) ((c+a[i]+b.getD i 0)/65536):=by rw[Kax h,jW];simp[KbM,Kcv,Kac]
theorem aeD{a b:List Nat}{i c:Nat}(h:i<a.length):nw (a.drop i) (b.drop i) c=(a[i]+65536-c-b.getD i 0)%65536::nw (a.drop (i+1)) (b.drop (i+1)) (if a[i]<c+b.getD i 0 then 1 else 0):=by rw[Kax h,nw];simp[KbM,Kcv,Kac]
theorem gQ{b:List Nat}{i:Nat}(h:i<b.length):b.getD i 0=b[i]:=by simp[Kac,h]
theorem gR{b:List Nat}{i:Nat}(h:¬i<b.length):b.getD i 0=0:=by simp[Kac,h]
open Go
variable {C : Ctx} {ρ : Nat -> Option Nat} {fr : Fr} {hp : HP} {w : World} {K K' R : Qg}
theorem LO(h:∀fr hp,K fr hp->K' fr hp)(o:cI):bA C o fr hp K->bA C o fr hp K':=by
 cases o with
 | call d pr f args=>
  simp only[bA,gF];split
  ·rintro⟨h1,h2⟩;refine⟨h1,fun ρ tmps w fv cv av a1 a2 a3 a4 a5 a6 a7 a8=>(h2 ρ tmps w fv cv av a1 a2 a3 a4 a5 a6 a7 a8).mono ?_⟩;rintro e w' ⟨v,aC,hp',e1,e2,e3,e4⟩;exact⟨v,aC,hp',e1,e2,e3,h _ _ e4⟩
  ·exact id
 |bs d e ty ps=>
  simp only[bA,l7];split
  ·exact fun H=>⟨H.1,h _ _ H.2⟩
  ·exact fun H=>⟨H.1,H.2.1,h _ _ H.2.2⟩
 | app d e by_ ty s x=>
  simp only[bA,jz];intro H;revert H;split
  ·unfold AR;split
   ·split
    ·rintro⟨a1,a2,a3,H⟩;refine⟨a1,a2,a3,?_⟩;revert H;split
     ·exact fun H=>⟨H.1,h _ _ H.2⟩
     ·split
      ·exact fun H=>⟨H.1,H.2.1,h _ _ H.2.2⟩
      ·exact id
     ·exact id
    ·exact id
   ·exact id
  ·rintro⟨h0,h1,H⟩;refine⟨h0,h1,?_⟩;revert H;split
   ·rintro⟨a,b,c⟩;exact⟨a,b,h _ _ c⟩
   ·split
    ·rintro(⟨a1,a2,a3,a4,a5,a6,a7,c⟩|⟨a1,a2,a3,c⟩)
     ·exact .inl ⟨a1,a2,a3,a4,a5,a6,a7,h _ _ c⟩
     ·exact .inr ⟨a1,a2,a3,h _ _ c⟩
    ·exact id
   ·exact id
 |bin d op bt x y=>
  simp only[bA,cn];intro H;revert H;split
  ·split<;>first|exact fun H=>⟨H.1,H.2.1,h _ _ H.2.2⟩|exact fun H=>⟨H.1,h _ _ H.2⟩|exact id
  ·split<;>first|exact fun H=>⟨H.1,h _ _ H.2⟩|exact id
  ·exact id
 | _=>
  simp only[bA,tB,tC,yx,wH,uX,xO,yp,qG,zJ,zH,dt,mD,AQ,tD,tq,iQ,o8,fQ,wI,o6,l7,jz,wJ,jo,ns,lW,DH,DE]
  try (intro H;revert H)
  try (repeat' split)
  all_goals first
   |exact id
   |exact h _ _
   |grind
theorem UY(h:∀fr hp,K fr hp->K' fr hp)(o:cI):kF o fr hp K->kF o fr hp K':=by unfold kF;split<;>exact h _ _
theorem aeE(h:∀fr hp,K fr hp->K' fr hp)(g:Option (Nat×Bool))(o:cI):fl C g o fr hp K->fl C g o fr hp K':=by
 unfold fl;split
 ·exact LO h o
 ·split
  ·exact fun H=>⟨fun e=>LO h o (H.1 e),fun e=>UY h o (H.2 e)⟩
  ·exact UY h o
  ·exact id
theorem R6{sk:List It}{g:Option (Nat×Bool)}{o:cI}{r:RT}:vc C R (.o (.o g o r)::sk) fr hp=fl C g o fr hp (fun fr hp=>vc C R (.o r::sk) fr hp):=by rw[vc]
theorem R7{sk:List It}{x y:RT}:vc C R (.o (.br x y)::sk) fr hp=(vc C R (.o x::sk) fr hp/\vc C R (.o y::sk) fr hp):=by rw[vc]
theorem Cy{id:Nat}{M:Qg}{sk:List It}:∀(pre:List It),(∃p,FW.cD id (pre++ .el M::sk)=some (p++ .el M::sk)/\FW.cD id (pre++sk)=some (p++sk)/\cf p<=cf pre)∨FW.cD id (pre++ .el M::sk)=FW.cD id (pre++sk)
 | []=>.inr rfl
 |.c s::pre=>by
  rcases Cy (id:=id) (M:=M) (sk:=sk) pre with⟨p,h1,h2,h3⟩|h
  ·exact .inl ⟨p,h1,h2,by simp only[cf];omega⟩
  ·exact .inr h
 |.o s::pre=>by
  rcases Cy (id:=id) (M:=M) (sk:=sk) pre with⟨p,h1,h2,h3⟩|h
  ·exact .inl ⟨p,h1,h2,by simp only[cf];omega⟩
  ·exact .inr h
 |.el s::pre=>by
  rcases Cy (id:=id) (M:=M) (sk:=sk) pre with⟨p,h1,h2,h3⟩|h
  ·exact .inl ⟨p,h1,h2,by simp only[cf];omega⟩
  ·exact .inr h
 |.eb i::pre=>by
  by_cases hi:i=id
  ·exact .inl ⟨pre,by simp[FW.cD,hi],by simp[FW.cD,hi],by simp only[cf];omega⟩
  ·rcases Cy (id:=id) (M:=M) (sk:=sk) pre with⟨p,h1,h2,h3⟩|h
   ·exact .inl ⟨p,by simp[FW.cD,hi,h1],by simp[FW.cD,hi,h2],by simp only[cf];omega⟩
   ·exact .inr (by simp[FW.cD,hi,h])
theorem As{M:Qg}{sk:List It}(hM:∀fr hp,M fr hp->vc C R sk fr hp):∀(n:Nat)(pre:List It)(fr:Fr)(hp:HP),cf pre<=n->vc C R (pre++ .el M::sk) fr hp->vc C R (pre++sk) fr hp:=by
 intro n;induction n with
 | zero=>
  intro pre fr hp hn h;cases pre with
  |nil=>simp only[Kau,yr]at h ⊢;exact hM _ _ h
  |cons i pre=>
   exfalso;have:=SC.B6;cases i<;>simp only[cf,It.sz]at hn
   ·rename_i s;have:=SC.B6 s;omega
   ·rename_i s;have:=RT.B6 s;omega
   ·omega
   ·omega
 | succ n ih=>
  intro pre fr hp hn h;cases pre with
  |nil=>simp only[Kau,yr]at h ⊢;exact hM _ _ h
  | cons i pre=>
   cases i with
   |eb i=>simp only[Kaw,Is]at h⊢;exact ih _ _ _ (by simp only[cf,It.sz]at hn;omega) h
   |el J=>simp only[Kaw,yr]at h ⊢;exact h
   | o r=>
    cases r with
    |nil=>simp only[Kaw,Dq]at h⊢;exact ih _ _ _ (by simp only[cf,It.sz,RT.sz]at hn;omega) h
    |o g o r=>simp only[Kaw,R6]at h⊢;refine aeE (fun fr hp h=>?_) g o h;exact ih (.o r::pre) _ _ (by simp only[cf,It.sz,RT.sz]at hn ⊢;omega) h
    |wk r=>simp only[Kaw,Ic]at h⊢;obtain⟨aO,aA,hw,h⟩:=h;exact⟨aO,aA,hw,ih (.o r::pre) _ _ (by simp only[cf,It.sz,RT.sz]at hn ⊢;omega) h⟩
    |br x y=>simp only[Kaw,R7]at h⊢;exact⟨ih (.o x::pre) _ _ (by simp only[cf,It.sz,RT.sz]at hn ⊢;omega) h.1,ih (.o y::pre) _ _ (by simp only[cf,It.sz,RT.sz]at hn ⊢;omega) h.2⟩
   | c s=>
    cases s with
    |skip=>simp only[Kaw,HR]at h⊢;exact ih _ _ _ (by simp only[cf,It.sz,SC.sz]at hn;omega) h
    |rg r=>simp only[Kaw,Ku]at h⊢;exact ih (.o r::pre) _ _ (by simp only[cf,It.sz,SC.sz]at hn ⊢;omega) h
    |raw id ops=>simp only[Kaw]at h⊢;rw[vc]at h⊢;intro tmps w Q hs hQ;refine h tmps w Q hs fun aC hp' xN w' fg hv=>hQ aC hp' xN w' fg ?_;exact ih _ _ _ (by simp only[cf,It.sz,SC.sz]at hn;omega) hv
    |seq a b=>simp only[Kaw,Ie]at h⊢;exact ih (.c a:: .c b::pre) _ _ (by simp only[cf,It.sz,SC.sz]at hn ⊢;omega) h
    |block id a=>simp only[Kaw,Hq]at h⊢;exact ih (.c a:: .eb id::pre) _ _ (by simp only[cf,It.sz,SC.sz]at hn ⊢;omega) h
    |ret=>simp only[Kaw,Ig]at h ⊢;exact h
    |cond c x y=>
     simp only[Kaw,HS]at h⊢;unfold wF at h⊢;split at h
     ·exact⟨fun e=>ih (.c x::pre) _ _ (by simp only[cf,It.sz,SC.sz]at hn ⊢;omega) (h.1 e),fun e=>ih (.c y::pre) _ _ (by simp only[cf,It.sz,SC.sz]at hn ⊢;omega) (h.2 e)⟩
     ·exact h
    | exit id=>
     simp only[Kaw,HT]at h⊢;rcases Cy (id:=id) (M:=M) (sk:=sk) pre with⟨p,h1,h2,h3⟩|he
     ·rw[h1]at h;rw[h2];simp only[yt]at h⊢;exact ih _ _ _ (by simp only[cf,It.sz,SC.sz]at hn;omega) h
     ·rw[he]at h;exact h
    |loop a=>simp only[Kaw,z8]at h⊢;obtain⟨I,μ,h1,h2⟩:=h;refine⟨I,μ,h1,fun fr hp hI=>?_⟩;exact ih (.c a:: .el _::pre) _ _ (by simp only[cf,It.sz,SC.sz]at hn ⊢;omega) (h2 fr hp hI)
theorem CI{c:PV}{x y:SC}{sk:List It}(M:Qg)(h:rH C R c x y (.el M::sk) fr hp)(hM:∀fr hp,M fr hp->vc C R sk fr hp):rH C R c x y sk fr hp:=by
 unfold rH wF at h⊢;split at h
 ·exact⟨fun e=>As hM _ [.c x] _ _ (Kae _) (h.1 e),fun e=>As hM _ [.c y] _ _ (Kae _) (h.2 e)⟩
 ·exact h
end Go.FW
namespace Go.FW
open Go
variable {C : Ctx} {ρ : Nat -> Option Nat} {fr : Fr} {hp : HP} {w : World} {K K' R : Qg}
def DJ(R:PV->Prop)(p q:PV):Prop:=(p.aG=true/\q.aG=true)/\∃r,PV.F4 (.aK [p,q]) r/\R r
def Kx(R:PV->Prop)(p q s:PV):Prop:=(p.aG=true/\q.aG=true/\s.aG=true)/\∃r,PV.F4 (.aK [p,q,s]) r/\R r
def Tf(R:PV->Prop):Prop:=∃r,PV.F4 (.aK []) r/\R r
theorem amo{a b:Nat}{Rr:PV->Prop}:gG [.t a,.t b] Rr fr hp=DJ Rr (Qr hp (fr a)) (Qr hp (fr b)):=by simp[gG,DJ,lN,kV]
theorem amp{a b c:Nat}{Rr:PV->Prop}:gG [.t a,.t b,.t c] Rr fr hp=Kx Rr (Qr hp (fr a)) (Qr hp (fr b)) (Qr hp (fr c)):=by simp[gG,Kx,lN,kV]
theorem amq{Rr:PV->Prop}:gG [] Rr fr hp=Tf Rr:=by simp[gG,Tf]
theorem bO{p q p' q' r:PV}(h:r= .aK [p',q'])(d1:p.aG=true)(d2:q.aG=true)(h1:PV.le p p')(h2:PV.le q q'):DJ (· =r) p q:=⟨⟨d1,d2⟩,r,by subst h;exact⟨h1,h2,trivial⟩,rfl⟩
theorem wN{p q s p' q' s' r:PV}(h:r= .aK [p',q',s'])(d1:p.aG=true)(d2:q.aG=true)(d3:s.aG=true)(h1:PV.le p p')(h2:PV.le q q')(h3:PV.le s s'):Kx (· =r) p q s:=⟨⟨d1,d2,d3⟩,r,by subst h;exact⟨h1,h2,h3,trivial⟩,rfl⟩
theorem yd{p q:PV}(h:p=q):PV.le p q:=h▸Qe p
theorem CV{O n ty:Nat}{l:List Nat}{fz:Bool}(h:hp O=some ⟨1,ty,bJ l,fz⟩)(hn:n=l.length)(hB:bW O=false:=by decide):(([]:List PV)++[PV.ms O n]++([]:List PV)).map (Qr hp)=[.sl 1 (bJ l)]:=by simp[agN h hn hB]
theorem rj{n:Nat}(h:(ak n).length=0):ak n=[]:=Kas.1 h
abbrev PV.nat(l:List Nat):PV:=.sl 1 (bJ l)
abbrev PV.num(n:Nat):PV:=PV.nat (ak n)
theorem Aj:PV.le .ab (PV.num 0):=by rw[PV.num,gp];trivial
theorem Da{n:Nat}(h:n=0):PV.le .ab (PV.num n):=by subst h;exact Aj
end Go.FW
namespace Go.FW
def lv:List Nat->List Nat->Nat->Nat->List Nat
 |r::rs,y::ys,x,c=>(c+(r+x*y))%65536::lv rs ys x ((c+(r+x*y))/65536)
 |_,_,_,c=>[c]
theorem Py:∀(r b:List Nat)(x c:Nat),r.length=b.length->val (lv r b x c)=val r+x*val b+c
 | [],[],x,c,_=>by simp[lv,val]
 |r::rs,y::ys,x,c,h=>by rw[lv,val,Py rs ys x _ (by simpa using h),val,val,Ka0 x,KbL x 65536];generalize x*y=p;generalize x*val ys=q;omega
 | [],_::_,_,_,h=>by simp at h
 |_::_,[],_,_,h=>by simp at h
theorem we{x y:Nat}(hx:x<65536)(hy:y<65536):x*y<=4294836225:=by have:=KbU (show x<=65535 by omega) (show y<=65535 by omega);omega
theorem UZ:∀(r b:List Nat)(x c:Nat),c<65536->x<65536->Qi r->Qi b->Qi (lv r b x c)
 |r::rs,y::ys,x,c,hc,hx,hr,hb=>by rw[iC]at hr hb;have:=we hx hb.1;rw[lv,iC];exact⟨by omega,UZ rs ys x _ (by omega) hx hr.2 hb.2⟩
 | [],_,x,c,hc,_,_,_=>by simp[lv,Qi];exact hc
 |_::_,[],x,c,hc,_,_,_=>by simp[lv,Qi];exact hc
theorem Ub:∀(r b:List Nat)(x c:Nat),r.length=b.length->(lv r b x c).length=r.length+1
 |r::rs,y::ys,x,c,h=>by simp[lv,Ub rs ys x _ (by simpa using h)]
 | [],[],x,c,_=>rfl
 | [],_::_,_,_,h=>by simp at h
 |_::_,[],_,_,h=>by simp at h
theorem HV{p t:List Nat}{r j:Nat}(h:p.length=j)(hj:j<(p++r::t).length):(p++r::t)[j]=r:=by subst h;simp
theorem pq{p t:List Nat}{r j v:Nat}(h:p.length=j):(p++r::t).set j v=p++v::t:=by subst h;simp
theorem Ck{l:List Nat}{i:Nat}(h:i<l.length):val (l.take (i+1))=val (l.take i)+65536^i*l[i]:=by rw[Kar h,n9,KaB,Kb7 (by omega)];simp[val]
theorem agP{a lo b:List Nat}{i:Nat}(h:i<a.length)(hl:lo.length=i+b.length)(hv:val lo=val (a.take i)*val b):
  val (lo.take i++lv (lo.drop i) b a[i] 0)=val (a.take (i+1))*val b:=by
 rw[n9,Py _ _ _ _ (by simp[hl]),Ck h,KaB,Kb7 (by omega),KaM,<-hv,rf lo i (by omega),KaP,Ka0,Kbo];omega
open Go
variable {C : Ctx} {ρ : Nat -> Option Nat} {fr : Fr} {hp : HP} {w : World} {K K' R : Qg}
def B0:Nat:=1000000
def ou(xs:List PV):Prop:=∀x∈xs,∃k n,x= .int k n
theorem rz(l:List Nat):ou (bJ l):=by intro x hx;simp only[bJ,KaA]at hx;obtain⟨n,_,rfl⟩:=hx;exact⟨_,_,rfl⟩
def pF(w:World)(b:Nat)(ty:TypeId)(xs:List PV):Prop:=ou xs/\∃(cur:Array Value)(cap:Nat),w.heap[b]? =some (.cells cur ty (0,0))/\cur.size=cap*1/\xs.length<=cap/\cap<=maxLen/\
 ∀(i:Nat)(k:IntKind)(n:Int),xs[i]? =some (.int k n)->cur.getD i undef= .int k n
theorem pF.kA{b:Nat}{ty:TypeId}{xs:List PV}{fz:Bool}{X:Nat->Prop}(h:pF w b ty xs):AS w X b ⟨1,ty,xs,fz⟩:=by
 obtain⟨hi,cur,cap,h1,h2,h3,h4,h5⟩:=h;refine⟨cur,cap,h1,h2,h3,h4,fun i x hx j y hy=>?_⟩;obtain⟨k,n,rfl⟩:=hi x (Kai hx);cases j with
 |zero=>simp[PV.cells]at hy;subst hy;rw[Kcn,KaP,h5 i k n hx];exact Qn.int k n
 |succ j=>simp[PV.cells]at hy
theorem pF.OC{b:Nat}{ty:TypeId}{xs:List PV}{fz:Bool}{X:Nat->Prop}(h:AS w X b ⟨1,ty,xs,fz⟩)(hi:ou xs):pF w b ty xs:=by obtain⟨cur,cap,h1,h2,h3,h4,h5⟩:=h;refine⟨hi,cur,cap,h1,h2,h3,h4,fun i k n hx=>?_⟩;have:=h5 i _ hx 0 (.int k n) rfl;simp only[Kcn,KaP]at this;generalize hg:cur.getD i undef=v at this;cases this;rfl
theorem Hs{xs:List PV}(h:ou xs):∀(i:Nat)(x:PV),xs[i]? =some x->x.cells.length=1/\x.aG=true:=by intro i x hx;obtain⟨k,n,rfl⟩:=h x (Kai hx);exact⟨rfl,rfl⟩
def WL(w:World)(b len:Nat)(o n:Nat)(v:Value):Prop:=o+n<=len/\∃cap,v= .slice (some ⟨b,o*1,none⟩) n cap/\dH w b 1 (o+cap)/\o+cap<=maxLen
def abp(w:World)(X:Nat->Prop)(b len:Nat)(p:PV)(v:Value):Prop:=match p with
 |.ax O o n=>O=B0/\WL w b len o n v
 |p=>Q8 w X p v
def WI(w:World)(X:Nat->Prop)(b len:Nat)(p:PV)(v:Value):Prop:=match p with
 |.ax O o n=>O=B0/\WL w b len o n v
 |p=>eX w X p v
def At(P:Program)(f:FuncId)(args:List PV)(ty:TypeId)(xs:List PV)(bm:PV->List PV->Prop):Prop:=
 lT P f/\∀(w:World)(X:Nat->Prop)(b:Nat)(aR:Array Value),(∀c,X c->c<w.heap.size)->X b->aR.size=args.length->pF w b ty xs->0<xs.length->
  (∀(i:Nat)(x:PV),args[i]? =some x->abp w X b xs.length x (aR.getD i undef))->
  Calls P f aR w fun e w'=>∃v r xs',e= .returned v/\Ext (fun c=>c=b) w w'/\(∀e cap,dH w b e cap->dH w' b e cap)/\pF w' b ty xs'/\xs'.length=xs.length/\WI w' X b xs.length r v/\bm r xs'
def uY(rs:List RV)(ty:TypeId)(len:Nat)(bm:PV->List PV->Prop):Qg:=fun fr hp=>
 ∃xs',hp B0=some ⟨1,ty,xs',false⟩/\ou xs'/\xs'.length=len/\
  (gG rs (fun r=>(∀O o n,r≠ .ax O o n)/\bm r xs') fr hp∨∃s o n,rs=[.t s]/\fr s= .ax B0 o n/\bm (.ax B0 o n) xs')
theorem He {P : Program} {f : FuncId} {fn : Func} {sf : az} {args : List PV} {ty : TypeId} {xs : List PV} {bm : PV -> List PV -> Prop} (hm : P.follows .mixedOrders = true) (hf : P.funcs[f]? = some fn) (qe : (fn.name != "runtime.NumGoroutine") = true) (hc : Qd P fn = some sf) (hn : args.length <= sf.n /\ sf.n <= 1000000)
  (hv:∀C:Ctx,C.P=P->vc C (uY sf.rs ty xs.length bm) [.c sf.body] (iG args) (Qj aA B0 ⟨1,ty,xs,false⟩)):At P f args ty xs bm:=by
 simp only[Qd,Kab,Kaa]at hc;obtain⟨c,hb,sb,jK,rs,dw,rfl⟩:=hc;refine⟨by simp[lT,hf,hb];simpa using qe,fun w X b aR hX vz fh hI tY gA=>?_⟩;have pZ:∀O c,(fun O=>if O=B0 then some b else none:Nat->Option Nat) O=some c->c<w.heap.size/\(fH O=false->¬(X c/\c≠b)):=fun O c h=>by
  simp only at h;split at h
  ·cases h;exact⟨hX b vz,fun _ h=>h.2 rfl⟩
  ·cases h
 let C:Ctx:=⟨P,fn.ntmps,w,fun c=>X c/\c≠b,fun c hc=>hX c hc.1,hn.2,fun O=>if O=B0 then some b else none,pZ,Q5,fun _ h=>h.elim⟩
 refine calls_of_wp hf hb ?_;have qW:(aR++Array.replicate (fn.ntmps-aR.size) undef).size=fn.ntmps:=by simp at hn ⊢;omega
 have atP:∀c,aI C (fun O=>if O=B0 then some b else none) (Qj aA B0 ⟨1,ty,xs,false⟩) c->X c:=by
  rintro c (hx|⟨O,_,h1,_,h3⟩)
  ·exact hx.1
  ·simp only at h3;split at h3
   ·cases h3;exact vz
   ·cases h3
 have qh:eE C (iG args) (Qj aA B0 ⟨1,ty,xs,false⟩) (aR++Array.replicate (fn.ntmps-aR.size) undef) w:=by
  refine⟨fun O=>if O=B0 then some b else none,qW,Ext.refl _ _,fun _ _ _ _ _ h=>h,fun O au aj=>?_,fun O γ b' h1 h2 h3 h4=>?_,fun i=>?_⟩
  ·unfold Qj at aj;split at aj
   ·rename_i awi;cases aj;subst awi;refine⟨by simp,Hs hI.1,?_,(fun _=>rfl),fun h=>by cases h⟩;simp only[if_pos];exact⟨rfl,hX b vz,hI.kA⟩
   ·simp[aA]at aj
  ·have:∀O,(if O=B0 then some b else none:Option Nat)=some b'->O=B0:=fun O h=>by
    split at h
    ·assumption
    ·cases h
   rw[this O h3,this γ h4]
  ·unfold iG;cases hi:args[i]? with
   |none=>trivial
   | some p=>
    simp only[Ka9];have fp:i<aR.size:=by rw[fh];exact(Kaf.1 hi).1
    have hr:=gA i p hi;have e:(aR++Array.replicate (fn.ntmps-aR.size) undef).getD i undef=aR.getD i undef:=by rw[lP,if_pos fp]
    rw[e];have key:Q8 w X p (aR.getD i undef)->Qk C (fun O=>if O=B0 then some b else none) (Qj aA B0 ⟨1,ty,xs,false⟩) w p (aR.getD i undef):=fun hr=>
     Qk.mZ (hr.mono (fun _ _ _=>rfl) (fun c _ hn hx=>hn (atP c hx)) (Kae _))
    cases p with
    |ax O o n=>obtain⟨rfl,h1,cap,h2,h3,h4⟩:=hr;exact⟨⟨1,ty,xs,false⟩,by simp[Qj],h1,.inr ⟨b,cap,by simp,h2,h3,h4⟩⟩
    |_=>exact key hr
 have fin:∀(fr:Fr)(hp:HP)(a:Act)(w':World),a.defers=[]->eE C fr hp a.tmps w'->uY rs ty xs.length bm fr hp->
   a.defers=[]/\∃v,(results fn a.tmps).run P w'= .ok v w'/\∃v' r xs',Ending.returned v= .returned v'/\Ext (fun c=>c=b) w w'/\(∀e cap,dH w b e cap->dH w' b e cap)/\pF w' b ty xs'/\xs'.length=xs.length/\WI w' X b xs.length r v'/\bm r xs':=by
  rintro fr hp a w' hd ⟨ρ,hs⟩ ⟨xs',hB,hint,hlen,hr⟩;have aS:=hs.own B0 _ hB;have bc:=aS.bV;have bE:ρ B0=some b:=by
   cases hq:ρ B0 with
   |none=>rw[hq]at bc;simp only at bc;rw[bc]at hlen;simp at hlen;omega
   |some b'=>rw[<-hq];exact aS.fix rfl
  rw[bE]at bc;have yP:pF w' b ty xs':=pF.OC bc.2.2 hint;have hxe:Ext (fun c=>c=b) w w':=hs.ext.mono fun c _ hc=>by
   rcases hc with⟨O,_,hc⟩|hc
   ·have hc:(if O=B0 then some b else none:Option Nat)=some c:=hc;split at hc
    ·cases hc;rfl
    ·cases hc
   ·exact hc.elim
  have ZD:∀e cap,dH w b e cap->dH w' b e cap:=hs.fI B0 b rfl;rcases hr with hr|⟨s,o,n,rfl,pY,hp⟩
  ·obtain⟨v,r,h1,h2,h3,h4⟩:=Q7f (C:=C) rfl dw hs hr (X:=X) (fun c hc=>by
    by_cases e:c=b
    ·subst e;exact .inr ⟨B0,_,rfl,hB,rfl,bE⟩
    ·exact .inl ⟨hc,e⟩)
   refine⟨hd,v,h1,v,r,xs',rfl,hxe,ZD,yP,hlen,?_,h4⟩;cases r with
   |ax O o n=>exact absurd rfl (h3 O o n)
   |_=>exact h2
  ·have bo:=hs.dm s;rw[pY]at bo;obtain⟨cN,g1,g2,g3⟩:=bo;rw[hB]at g1;cases g1;rcases g3 with⟨g3,_⟩|⟨b',cap,g3,g4,g5,g6⟩
   ·rw[bE]at g3;cases g3
   ·rw[bE]at g3;cases g3;obtain⟨x,hx⟩:∃x,fn.results.toList=[x]:=by have:=nh dw;exact List.length_eq_one_iff.1 (by rw[<-this.1];rfl)
    have lI:ie P x=some (.t s):=by rw[hx]at dw;simp only[Kch,KcZ,KbX,Kcl,Kab,KaD]at dw;obtain⟨y,h1,_,_,h2⟩:=dw;simp only[KcR]at h2;rw[<-h2.1];exact h1
    have sG:x= .tmp s:=by
     cases x with
     |tmp t=>simpa[ie]using lI
     |cell y t=>simp[ie,Kab]at lI
    subst sG;have fq:(results fn a.tmps).run P w'= .ok (a.tmps.getD s undef) w':=by have e:results fn a.tmps=(do let vs<-fn.results.mapM (lu a.tmps);pure (if h:vs.size=1 then vs[0]else .tuple vs)):=rfl;rw[e,Kbz,hx];simp[Kal,lu]
    refine⟨hd,_,fq,_,.ax B0 o n,xs',rfl,hxe,ZD,yP,hlen,⟨rfl,hlen▸g2,cap,g4,g5,g6⟩,hp⟩
 exact La (C:=C) (R:=uY rs ty xs.length bm) hm c sb [] _ (iG args) _ _ w jK ⟨fun fr hp a w' hd hs hv=>(by rw[wB]at hv;exact fin fr hp a w' hd hs hv),fun id fc he=>(by simp[FW.cD]at he),fin⟩ rfl qh (hv C rfl)
def PV.oY:PV->Bool
 |.ax .. =>true
 |p=>p.aG
def kA(O:Nat):PV->PV
 |.ax γ o n=>if γ=O then .ax B0 o n else .undef
 |.mp _ _ _=>.undef
 |.rb _ _ _=>.undef
 |.fn _ _ _=>.undef
 |.aL _ _ _| .np _ _ _| .aP _| .fb _| .dx _ _| .aJ _ _ _ _=>.undef
 |p=>p
def pA(O:Nat):PV->PV
 |.ax _ o n=>.ax O o n
 |p=>p
theorem Ii{P:Program}(hP:C.P=P){g:FuncId}{args aU:List PV}{d:Option Nat}{O:Nat}{ty:TypeId}{xs:List PV}{bm:PV->List PV->Prop}(h:At P g aU ty xs bm)(aj:hp O=some ⟨1,ty,xs,false⟩)(hint:ou xs)(tY:0<xs.length)
  (dk:args.map (kA O)=aU) (dR:aU.all PV.oY=true)
  (hK:∀r xs',ou xs'->xs'.length=xs.length->bm r xs'->K (gS fr d (pA O r)) (Qj hp O ⟨1,ty,xs',false⟩)):gF C false (.fn g [] []) args d fr hp K:=by
 subst hP;refine⟨h.1,fun ρ tmps w fv cv av sj hs h1 h2 h3 _ _ sE=>?_⟩;have aS:=hs.own O _ aj;have bc:=aS.bV;obtain⟨b,bE⟩:∃b,ρ O=some b:=by
  cases hq:ρ O with
  |none=>rw[hq]at bc;simp only at bc;rw[bc]at tY;simp at tY
  |some b=>exact⟨b,rfl⟩
 rw[bE]at bc;have vz:aI C ρ hp b:=.inr ⟨O,_,aj,rfl,bE⟩;have e1:fv= #[]:=KbR (by simpa using h1);have e2:cv= #[]:=KbR (by simpa using h2);subst e1;subst e2;simp only[Array.empty_append,Array.append_empty];refine(h.2 w (aI C ρ hp) b av (Dx hs) vz (by rw[<-dk];simp[h3]) (pF.OC bc.2.2 hint) tY (fun i x hx=>?_)).mono ?_
 ·rw [<-dk]at hx;simp only[Kao,Kaa]at hx;obtain⟨p,hp',zo⟩:=hx;have hr:=sE i p hp';have kt:PV.oY x=true:=by rw[Kav]at dR;refine dR x ?_;rw[<-dk,<-zo];exact Kcw (Kai hp')
  subst zo;cases p with
  | ax γ o n=>
   simp only[kA]at kt⊢;split
   ·rename_i ah;subst ah;obtain⟨cN,g1,g2,g3⟩:=hr;rw[aj]at g1;cases g1;rcases g3 with⟨g3,_⟩|⟨b',cap,g3,g4,g5,g6⟩
    ·rw[bE]at g3;cases g3
    ·rw[bE]at g3;cases g3;exact⟨rfl,g2,cap,g4,g5,g6⟩
   ·rename_i ah;rw[if_neg ah]at kt;simp[PV.oY,PV.aG]at kt
  |mp=>simp[kA,PV.oY,PV.aG]at kt
  |rb=>simp[kA,PV.oY,PV.aG]at kt
  |fn=>simp[kA,PV.oY,PV.aG]at kt
  |undef=>simp[kA,PV.oY,PV.aG]at kt
  |aL=>simp[kA,PV.oY,PV.aG]at kt
  |np=>simp[kA,PV.oY,PV.aG]at kt
  |aP=>simp[kA,PV.oY,PV.aG]at kt
  |fb=>simp[kA,PV.oY,PV.aG]at kt
  |dx=>simp[kA,PV.oY,PV.aG]at kt
  |aJ=>simp[kA,PV.oY,PV.aG]at kt
  |aK=>simp[kA,PV.oY,PV.aG]at kt
  |agg cs=>exact hr
  |_=>exact hr
 ·rintro e w' ⟨v,r,xs',rfl,hx,dQ,yP,hlen,fq,iL⟩;have bq:=hs.store O b ⟨1,ty,xs,false⟩ ⟨1,ty,xs',false⟩ aj rfl (by intro e;simp at e;rw[e]at tY;simp at tY) bE hx rfl hlen rfl (Hs yP.1) dQ (yP.kA (X:=aI C ρ hp) (fz:=false) |> fun⟨cur,cap,c1,c2,c3,c4,c5⟩=>⟨cur,cap,c1,c2,c3,c4,fun i x hi j y hy=>by
   obtain⟨k,n,rfl⟩:=yP.1 x (Kai hi);have:=c5 i _ hi j y hy;cases j with
   |zero=>simp[PV.cells]at hy;subst hy;generalize hg:cur.getD (i*1+0) undef=u at this;cases this;exact Qn.int k n
   |succ j=>simp[PV.cells]at hy⟩)
  have Nb:aI C ρ (Qj hp O ⟨1,ty,xs',false⟩)=aI C ρ hp:=by
   funext c;apply propext;constructor
   ·rintro(hx|⟨γ,hg,h1,h2,h3⟩)
    ·exact .inl hx
    ·by_cases ah:γ=O
     ·subst ah;exact .inr ⟨γ,_,aj,rfl,h3⟩
     ·simp only[Qj,if_neg ah]at h1;exact .inr ⟨γ,hg,h1,h2,h3⟩
   ·rintro(hx|⟨γ,hg,h1,h2,h3⟩)
    ·exact .inl hx
    ·by_cases ah:γ=O
     ·subst ah;exact .inr ⟨γ,⟨1,ty,xs',false⟩,by simp[Qj],rfl,h3⟩
     ·exact .inr ⟨γ,hg,by simp[Qj,ah,h1],h2,h3⟩
  refine⟨v,_,_,rfl,⟨ρ,bq.J4 (p:=pA O r) ?_ sj⟩,by simp,hK r xs' yP.1 hlen iL⟩;cases r with
  |ax γ o n=>obtain⟨_,g1,cap,g2,g3,g4⟩:=fq;exact⟨⟨1,ty,xs',false⟩,by simp[Qj],by simp only[pA];omega,.inr ⟨b,cap,bE,g2,g3,g4⟩⟩
  |_=>exact Qk.JP (p:=_) (by rw[Nb];exact fq)
end Go.FW
namespace Go.FW
open Go
variable {C : Ctx} {ρ : Nat -> Option Nat} {fr : Fr} {hp : HP} {w : World} {K K' R : Qg}
def Au(P:Program)(f:FuncId)(args:List PV)(ty:TypeId)(bm:List PV->Prop):Prop:=
 lT P f/\∀(w:World)(X:Nat->Prop)(aR:Array Value),(∀b,X b->b<w.heap.size)->aR.size=args.length->(∀(i:Nat)(x:PV),args[i]? =some x->Q8 w X x (aR.getD i undef))->
  Calls P f aR w fun e w'=>∃v b cap ys,e= .returned v/\v= .slice (some ⟨b,0,none⟩) ys.length cap/\w.heap.size<=b/\Ext Q5 w w'/\pF w' b ty ys/\dH w' b 1 cap/\cap<=maxLen/\bm ys
def AL(rs:List RV)(ty:TypeId)(bm:List PV->Prop):Qg:=fun fr hp=>
 ∃s O n xs,rs=[.t s]/\fr s= .ax O 0 n/\bW O=false/\hp O=some ⟨1,ty,xs,false⟩/\ou xs/\0<n/\bm (xs.take n)
theorem aeF{xs:List PV}(h:ou xs)(n:Nat):ou (xs.take n):=fun x hx=>h x (Kbi hx)
theorem aeG {P : Program} {f : FuncId} {fn : Func} {sf : az} {args : List PV} {ty : TypeId} {bm : List PV -> Prop} (hm : P.follows .mixedOrders = true) (hf : P.funcs[f]? = some fn) (qe : (fn.name != "runtime.NumGoroutine") = true) (hc : Qd P fn = some sf) (hn : args.length <= sf.n /\ sf.n <= 1000000)
  (hv:∀C:Ctx,C.P=P->vc C (AL sf.rs ty bm) [.c sf.body] (iG args) aA):Au P f args ty bm:=by
 simp only[Qd,Kab,Kaa]at hc;obtain⟨c,hb,sb,jK,rs,dw,rfl⟩:=hc;refine⟨by simp[lT,hf,hb];simpa using qe,fun w X aR hX fh gA=>?_⟩
 let C:Ctx:=Ctx.plain P fn.ntmps w X hX hn.2
 refine calls_of_wp hf hb ?_;have qW:(aR++Array.replicate (fn.ntmps-aR.size) undef).size=fn.ntmps:=by simp at hn ⊢;omega
 have qh:eE C (iG args) aA (aR++Array.replicate (fn.ntmps-aR.size) undef) w:=by
  refine⟨fun _=>none,qW,Ext.refl _ _,(fun _ _ h=>by cases h),by simp[aA],by simp[aA],fun i=>?_⟩;unfold iG;cases hi:args[i]? with
  |none=>trivial
  | some p=>
   simp only[Ka9];have fp:i<aR.size:=by rw[fh];exact(Kaf.1 hi).1
   have hr:=gA i p hi;have e:(aR++Array.replicate (fn.ntmps-aR.size) undef).getD i undef=aR.getD i undef:=by rw[lP,if_pos fp]
   rw[e];refine Qk.mZ (hr.mono (fun _ _ _=>rfl) (fun b _ hn hx=>?_) (Kae _));rcases hx with hx|⟨_,_,h1,_⟩
   ·exact hn hx
   ·simp[aA]at h1
 have fin:∀(fr:Fr)(hp:HP)(a:Act)(w':World),a.defers=[]->eE C fr hp a.tmps w'->AL rs ty bm fr hp->
   a.defers=[]/\∃v,(results fn a.tmps).run P w'= .ok v w'/\∃v' b cap ys,Ending.returned v= .returned v'/\v'= .slice (some ⟨b,0,none⟩) ys.length cap/\w.heap.size<=b/\Ext Q5 w w'/\pF w' b ty ys/\dH w' b 1 cap/\cap<=maxLen/\bm ys:=by
  rintro fr hp a w' hd ⟨ρ,hs⟩ ⟨s,O,n,xs,rfl,pY,hB,aj,hint,tY,hp⟩;have aS:=hs.own O _ aj;have bc:=aS.bV;have bo:=hs.dm s;rw[pY]at bo;obtain⟨cN,g1,g2,g3⟩:=bo;rw[aj]at g1;cases g1;rcases g3 with⟨_,_,g3,_⟩|⟨b,cap,g3,g4,g5,g6⟩
  ·omega
  ·rw[g3]at bc;simp only[hB]at bc;obtain⟨x,hx⟩:∃x,fn.results.toList=[x]:=by have:=nh dw;exact List.length_eq_one_iff.1 (by rw[<-this.1];rfl)
   have lI:ie P x=some (.t s):=by rw[hx]at dw;simp only[Kch,KcZ,KbX,Kcl,Kab,KaD]at dw;obtain⟨y,h1,_,_,h2⟩:=dw;simp only[KcR]at h2;rw[<-h2.1];exact h1
   have sG:x= .tmp s:=by
    cases x with
    |tmp t=>simpa[ie]using lI
    |cell y t=>simp[ie,Kab]at lI
   subst sG;have fq:(results fn a.tmps).run P w'= .ok (a.tmps.getD s undef) w':=by have e:results fn a.tmps=(do let vs<-fn.results.mapM (lu a.tmps);pure (if h:vs.size=1 then vs[0]else .tuple vs)):=rfl;rw[e,Kbz,hx];simp[lu]
   have hlen:(xs.take n).length=n:=by simp at g2 ⊢;omega
   refine⟨hd,_,fq,_,b,cap,xs.take n,rfl,by rw[g4,hlen,Kb3],(Ctx.w9 bc.1 (yh hB)).resolve_right (fun h=>h),Ctx.OE hs.ext,?_,by rw[Ka1]at g5;exact g5,by omega,hp⟩;obtain⟨_,cur,cp,i1,i2,i3,i4,i5⟩:=pF.OC bc.2.2 hint;exact⟨aeF hint n,cur,cp,i1,i2,by simp;omega,i4,fun i k m hi=>i5 i k m (by
    have aE:i<n:=by have:=(Kaf.1 hi).1;omega
    rwa[KaI aE]at hi)⟩
 exact La (C:=C) (R:=AL rs ty bm) hm c sb [] _ (iG args) aA _ w jK ⟨fun fr hp a w' hd hs hv=>(by rw[wB]at hv;exact fin fr hp a w' hd hs hv),fun id fc he=>(by simp[FW.cD]at he),fin⟩ rfl qh (hv C rfl)
theorem amr{P:Program}(hP:C.P=P){g:FuncId}{args aU:List PV}{d:Nat}{ty:TypeId}{bm:List PV->Prop}(h:Au P g aU ty bm)(dk:([]++args++[]).map (Qr hp)=aU)(dR:aU.all PV.aG=true)(hr:([]++args++[]).flatMap PV.refs=[])
  (hB:bW d=false) (hK:∀ys,ou ys->bm ys->K (ae (bZ d fr) d (.ms d ys.length)) (Qj hp d ⟨1,ty,ys,false⟩)):gF C false (.fn g [] []) args (some d) fr hp K:=by
 subst hP;refine⟨h.1,fun ρ tmps w fv cv av sj hs h1 h2 h3 sD lH sE=>?_⟩;have Jg:Q6 hp (([]++args++[]).flatMap PV.refs)=hp:=by rw[hr];rfl
 have gA:=Pb hs h1 h2 h3 sD lH sE (by rw[dk];exact dR);rw[Jg,dk]at gA;refine(h.2 w _ (fv++av++cv) (Dx hs) (by rw[<-dk];simp[h1,h2,h3]) gA).mono ?_;rintro e w' ⟨v,b,cap,ys,rfl,rfl,hb,hx,hI,dQ,hm,iL⟩;have pW:b<w'.heap.size:=by obtain⟨_,cur,cp,i1,_⟩:=hI;exact(Kan.1 i1).1
 have hrb:=hs.rebind (w':=w') d (some b) ⟨1,ty,ys,false⟩ hB (hx.mono (fun _ _ h=>h.elim)) (fun c hc=>by cases hc;exact⟨.inl (KaQ hs.ext.size hb),pW,.inl hb⟩) (by simp) (Hs hI.1) (by simp)
  (fun c hc=>by
   cases hc;obtain⟨hint,cur,cp,i1,i2,i3,i4,i5⟩:=hI;refine⟨cur,cp,i1,i2,i3,i4,fun i x hi j y hy=>?_⟩;obtain⟨k,n,rfl⟩:=hint x (Kai hi);cases j with
   |zero=>simp[PV.cells]at hy;subst hy;rw[Kcn,KaP,i5 i k n hi];exact Qn.int k n
   |succ j=>simp[PV.cells]at hy)
 refine⟨_,_,_,rfl,⟨_,hrb.J4 (d:=some d) (p:=.ms d ys.length) ?_ sj⟩,by simp,hK ys hI.1 iL⟩;exact⟨⟨1,ty,ys,false⟩,by simp[Qj],by simp,.inr ⟨b,cap,ij _ _ _,by simp,by rw[Ka1];exact dQ,by omega⟩⟩
def gj(hp:HP):PV->PV
 |.mp O i o=>match hp O with
  |some hb=>match hb.xs[i]? with
   |some x=>.pt (x.cells.drop o)
   |none=>.undef
  |none=>.undef
 |.ax O o n=>match hp O with
  |some hb=>.sl hb.e ((hb.xs.drop o).take n)
  |none=>.undef
 |.rb O o n=>match hp O with
  |some hb=>.pt [.sl hb.e ((hb.xs.drop o).take n)]
  |none=>.undef
 |p=>p
def yA(C:Ctx)(ρ:Nat->Option Nat)(hp:HP)(l:List Nat):Nat->Prop:=fun c=>aI C ρ hp c/\¬∃O∈l,ρ O=some c
theorem Qn.yI{l:List Nat}{q:PV}{u:Value}(h:Qn w (aI C ρ hp) q u):Qn w (yA C ρ hp l) q u:=
 h.mono (fun _ _ _=>rfl) (fun _ _ hn hx=>hn hx.1) (Kae _)
theorem fm.yI{tmps:Array Value}(h:Qt C ρ fr hp tmps w){O o n:Nat}{v:Value}{l:List Nat}{hb:HB}(hr:fm ρ hp w O o n v)(zB:O∈l)(g1:hp O=some hb):Qn w (yA C ρ hp l) (.sl hb.e ((hb.xs.drop o).take n)) v:=by
 obtain⟨cN,xd,g2,g3⟩:=hr;rw[g1]at xd;cases xd;rcases g3 with⟨g3,rfl,rfl,rfl⟩|⟨b,cap,g3,rfl,g5,g6⟩
 ·simp only[Kcr];exact .gC _ _ _ (Ka6 _)
 ·have aS:=h.own O hb g1;have bc:=aS.bV;rw[g3]at bc;obtain⟨_,ao,cur,eJ,c1,c2,c3,c4,c5⟩:=bc;obtain⟨cur',ty',d1,d2⟩:=g5;rw[c1]at d1;cases d1;have jg:o+cap=eJ:=by rw[c2]at d2;exact(KbI aS.lE d2).symm
  subst jg;have hlen:((hb.xs.drop o).take n).length=n:=by simp;omega
  have eR:∀(i:Nat)(x:PV),((hb.xs.drop o).take n)[i]? =some x->i<n/\hb.xs[o+i]? =some x:=fun i x hx=>by
   have hi:i<n:=by have:=(Kaf.1 hx).1;omega
   rw[KaI hi,Ka4]at hx;exact⟨hi,hx⟩
  have:=Qn.sl (w:=w) (X:=yA C ρ hp l) hb.e ((hb.xs.drop o).take n) b (o*hb.e) cap (fun i j=>cur.getD ((o+i)*hb.e+j) undef) (fun FA=>FA.2 ⟨O,zB,g3⟩) ao (by omega) (by omega)
   (fun i x hx=>(aS.len _ x (eR i x hx).2).1)
   (fun i hi j hj=>by rw[hlen]at hi;have:=oc (i:=o+i) (e:=hb.e) (o:=0) (j:=j) (n:=hb.e) (cap:=o+cap) (by omega) (by omega) hj;rw[KaP]at this;rw[show o*hb.e+i*hb.e+j=(o+i)*hb.e+j by rw[KaM]];exact mr c1 (by rw[c2];exact this))
   (fun i x hx j y hy=>(c5 _ x (eR i x hx).2 j y hy).yI)
  rwa[hlen]at this
theorem Hf{tmps:Array Value}(h:Qt C ρ fr hp tmps w){p:PV}{v:Value}{l:List Nat}(hr:dp C ρ hp w p v)(hl:∀O∈p.bS,O∈l)(hu:(gj hp p).aG=true)(Fg:∀f a b,p≠ .fn f a b):Q8 w (yA C ρ hp l) (gj hp p) v:=by
 cases p with
 | mp O i o=>
  obtain⟨b,hb,g1,g2,rfl⟩:=hr;have zB:=hl O (by simp[PV.bS]);have aS:=h.own O hb g2;have bc:=aS.bV;rw[g1]at bc;obtain⟨_,ao,cur,cap,c1,c2,c3,c4,c5⟩:=bc;simp only[gj,g2]at hu⊢;cases hx:hb.xs[i]? with
  |none=>simp[hx,PV.aG]at hu
  | some x=>
   have hi:i<hb.xs.length:=(Kaf.1 hx).1;have cF:=(aS.len i x hx).1;refine Qn.pt _ b _ (fun j=>cur.getD (i*hb.e+o+j) undef) (fun FA=>FA.2 ⟨O,zB,g1⟩) ao (fun j hj=>?_) (fun j y hy=>?_)
   ·have aT:o+(j+1)<=hb.e:=by simp[cF]at hj;omega
    exact mr c1 (by rw[c2];exact oc (by omega) aT (Kcx j))
   ·rw[Ka4]at hy;rw[KbW];exact(c5 i x hx (o+j) y hy).yI
 |ax O o n=>obtain⟨hb,g1,_⟩:=id hr;simp only[gj,g1];exact fm.yI h hr (hl O (by simp[PV.bS])) g1
 | rb O o n=>
  obtain⟨b,u,rfl,e2,e3,e4,hb,g1,e5⟩:=hr;simp only[gj,g1];refine Qn.pt _ b 0 (fun _=>u) (fun hx=>e3 hx.1) e2 (fun j hj=>?_) (fun j y hy=>?_)
  ·obtain rfl:j=0:=by simpa using hj
   simpa using e4
  ·cases j with
   |zero=>simp at hy;subst hy;exact fm.yI h ⟨hb,g1,e5⟩ (hl O (by simp[PV.bS])) g1
   |succ j=>simp at hy
 |undef=>simp[gj,PV.aG]at hu
 |fn f a b=>exact absurd rfl (Fg f a b)
 |aK=>simp[gj,PV.aG]at hu
 |aL=>simp[gj,PV.aG]at hu
 |np=>simp[gj,PV.aG]at hu
 |aP=>simp[gj,PV.aG]at hu
 |fb=>simp[gj,PV.aG]at hu
 |dx=>simp[gj,PV.aG]at hu
 |aJ=>simp[gj,PV.aG]at hu
 |agg=>cases hr
 |_=>exact Qn.yI hr
end Go.FW
namespace Go.FW
open Go
variable {C : Ctx} {ρ : Nat -> Option Nat} {fr : Fr} {hp : HP} {w : World} {K K' R : Qg}
def PV.xL:PV->Bool
 |.fn .. =>false
 |p=>p.aG
theorem U'{p:PV}(h:p.xL=true):p.aG=true/\∀f a b,p≠ .fn f a b:=by cases p<;>simp_all[PV.xL,PV.aG]
theorem Q7j{tmps:Array Value}(h:Qt C ρ fr hp tmps w){p:PV}{v:Value}{l:List Nat}(hr:Qk C ρ hp w p v)(hl:∀O∈p.refs,O∈l)(hu:(gj hp p).xL=true):Q8 w (yA C ρ hp l) (gj hp p) v:=by
 obtain⟨hd,Fg⟩:=U' hu;cases p with
 |mp O i o=>exact Hf (p:=.mp O i o) h hr (fun bY nX=>hl bY nX) hd (by simp)
 |ax O o n=>exact Hf (p:=.ax O o n) h hr (fun bY nX=>hl bY nX) hd (by simp)
 |rb O o n=>exact Hf (p:=.rb O o n) h hr (fun bY nX=>hl bY nX) hd (by simp)
 |fn f a b=>exact absurd rfl (Fg f a b)
 |undef=>simp[gj,PV.xL,PV.aG]at hu
 |aK=>simp[gj,PV.xL,PV.aG]at hu
 |agg cs=>exact Q8.mono (p:=.agg cs) hr (fun _ _ _=>rfl) (fun _ _ hn hx=>hn hx.1) (Kae _)
 |aL=>simp[gj,PV.aG]at hd
 |np=>simp[gj,PV.aG]at hd
 |aP=>simp[gj,PV.aG]at hd
 |fb=>simp[gj,PV.aG]at hd
 |dx=>simp[gj,PV.aG]at hd
 |aJ=>simp[gj,PV.aG]at hd
 |_=>exact Qn.yI hr
theorem Va{tmps:Array Value}(h:Qt C ρ fr hp tmps w){p:PV}{v:Value}{l:List Nat}(hr:dp C ρ hp w p v)(hl:∀O∈p.refs,O∈l)(hu:(gj hp p).xL=true):Q8 w (yA C ρ hp l) (gj hp p) v:=by
 obtain⟨hd,Fg⟩:=U' hu;refine Hf h hr (fun O aj=>hl O ?_) hd ?_
 ·cases p<;>simp_all[PV.bS,PV.refs]
 ·intro f a b hp';subst hp';exact Fg f a b rfl
theorem aeH{P:Program}(hP:C.P=P){g:FuncId}{first cap args aU:List PV}{pr:Bool}{d:Option Nat}{r:PV}(h:Qb P g aU (· =r))(dk:(first++args++cap).map (gj hp)=aU)(dR:aU.all PV.xL=true)(hr:r.Om=true)
  (hK:K (gS fr d r) hp):gF C pr (.fn g first cap) args d fr hp K:=by
 subst hP;refine⟨h.1,fun ρ tmps w fv cv av sj hs h1 h2 h3 sD lH sE=>?_⟩;refine(h.2 w (yA C ρ hp ((first++args++cap).flatMap PV.refs)) (fv++av++cv) (fun b hb=>Dx hs b hb.1) (by rw[<-dk];simp[h1,h2,h3]) (fun i x hx=>?_)).mono ?_
 ·have yZ:x.xL=true:=by rw[Kav]at dR;exact dR x (Kai hx)
  rw[<-dk]at hx;simp only[Kao,Kaa]at hx;obtain⟨p,hp',rfl⟩:=hx;have tV:=Kai hp';have hl:∀O∈p.refs,O∈(first++args++cap).flatMap PV.refs:=fun O aj=>Kaq.2 ⟨p,tV,aj⟩;rw[lP];rw[Ka3]at hp';by_cases c1:i<(first++args).length
  ·rw[if_pos c1]at hp';rw[if_pos (by simp only[Kci,h1,h3];simpa using c1),lP];rw[Ka3]at hp';by_cases c2:i<first.length
   ·rw[if_pos c2]at hp';rw[if_pos (by omega)];exact Va hs (sD i p hp') hl yZ
   ·rw[if_neg c2]at hp';rw[if_neg (by omega),h1];exact Q7j hs (sE _ p hp') hl yZ
  ·rw[if_neg c1]at hp';have fh:(fv++av).size=(first++args).length:=by simp[h1,h3]
   rw[if_neg (by omega),fh];exact Va hs (lH _ p hp') hl yZ
 ·rintro e w' ⟨v,r',rfl,hx,fL,rfl⟩;exact⟨v,_,_,rfl,⟨ρ,(hs.grow hx).J4 (Qk.JP (af3 hr fL)) sj⟩,fun _=>hx,hK⟩
end Go.FW
namespace Go.FW
def lU:List Nat->List Nat->Nat->List Nat
 | [],_,_=>[]
 |x::xs,ys,c=>(c+x+ys.headD 0)%65536::lU xs ys.tail ((c+x+ys.headD 0)/65536)
theorem Uc:∀(a b:List Nat)(c:Nat),(lU a b c).length=a.length
 | [],_,_=>rfl
 |x::xs,b,c=>by simp[lU,Uc xs]
theorem Vb:∀(a b:List Nat)(c:Nat),Qi (lU a b c)
 | [],_,_=>pg
 |x::xs,b,c=>by rw[lU,iC];exact⟨by omega,Vb xs _ _⟩
theorem aeI{a b:List Nat}{i c:Nat}(h:i<a.length):lU (a.drop i) (b.drop i) c=(c+a[i]+b.getD i 0)%65536::lU (a.drop (i+1)) (b.drop (i+1)) ((c+a[i]+b.getD i 0)/65536):=by rw[Kax h,lU];simp[KbM,Kcv,Kac]
theorem Pz:∀(a b:List Nat)(c:Nat),b.length<=a.length->∃k,val (lU a b c)+65536^a.length*k=val a+val b+c
 | [],b,c,h=>by have:b=[]:=Kas.1 (by simpa using h);subst this;exact⟨c,by simp[lU,val]⟩
 |x::xs,b,c,h=>by
  obtain⟨k,hk⟩:=Pz xs b.tail ((c+x+b.headD 0)/65536) (by simp at h ⊢;omega);refine⟨k,?_⟩;rw[lU,val,val,CH b,Kaz,KbH,Ka5 (65536^xs.length) 65536,Kbo];generalize 65536^xs.length*k=z at *
  generalize b.headD 0=y at *
  omega
def fR:List Nat->List Nat->Nat->Nat->Nat->List Nat×Nat×Nat
 | [],_,_,c,b=>([],c,b)
 |x::xs,ys,q,c,b=>
  let r:=fR xs ys.tail q ((c+q*ys.headD 0)/65536) (if x<(c+q*ys.headD 0)%65536+b then 1 else 0)
  ((x+65536-(c+q*ys.headD 0)%65536-b)%65536::r.1,r.2)
theorem Ud:∀(a v:List Nat)(q c b:Nat),(fR a v q c b).1.length=a.length
 | [],_,_,_,_=>rfl
 |x::xs,v,q,c,b=>by simp[fR,Ud xs]
theorem Vc:∀(a v:List Nat)(q c b:Nat),Qi (fR a v q c b).1
 | [],_,_,_,_=>pg
 |x::xs,v,q,c,b=>by simp only[fR];rw[iC];exact⟨by omega,Vc xs _ _ _ _⟩
theorem aeJ{a v:List Nat}{i q c b:Nat}(h:i<a.length):fR (a.drop i) (v.drop i) q c b=
    ((a[i]+65536-(c+q*v.getD i 0)%65536-b)%65536::(fR (a.drop (i+1)) (v.drop (i+1)) q ((c+q*v.getD i 0)/65536) (if a[i]<(c+q*v.getD i 0)%65536+b then 1 else 0)).1,
     (fR (a.drop (i+1)) (v.drop (i+1)) q ((c+q*v.getD i 0)/65536) (if a[i]<(c+q*v.getD i 0)%65536+b then 1 else 0)).2):=by
  rw[Kax h,fR];simp[KbM,Kcv,Kac]
theorem PA:∀(a v:List Nat)(q c b:Nat),Qi a->b<=1->v.length<=a.length->
  val (fR a v q c b).1+(q*val v+c+b)=val a+65536^a.length*((fR a v q c b).2.1+(fR a v q c b).2.2)/\(fR a v q c b).2.2<=1
 | [],v,q,c,b,_,hb,h=>by have:v=[]:=Kas.1 (by simpa using h);subst this;simp[fR,val,hb]
 |x::xs,v,q,c,b,ha,hb,h=>by
  rw[iC]at ha;have au:(if x<(c+q*v.headD 0)%65536+b then 1 else 0)<=1:=by split<;>omega
  obtain⟨ih,Ol⟩:=PA xs v.tail q ((c+q*v.headD 0)/65536) (if x<(c+q*v.headD 0)%65536+b then 1 else 0) ha.2 au (by simp at h ⊢;omega);refine⟨?_,Ol⟩;simp only[fR];rw[val,val,CH v,Kaz,KbH,Ka5 (65536^xs.length) 65536,Kbo,Ka0 q,KbL q 65536];generalize fR xs v.tail q ((c+q*v.headD 0)/65536) (if x<(c+q*v.headD 0)%65536+b then 1 else 0)=r at *
  generalize 65536^xs.length*(r.2.1+r.2.2)=z at *
  generalize q*v.headD 0=y at *
  generalize q*val v.tail=t at *
  have h0:=ha.1;split at ih
  ·omega
  ·omega
open Go
variable {fr : Fr} {hp : HP}
theorem ams{ty len:Nat}{bm:PV->List PV->Prop}{xs':List PV}(hB:hp B0=some ⟨1,ty,xs',false⟩)(hi:ou xs')(hl:xs'.length=len)(hp':bm (.aK []) xs'):uY [] ty len bm fr hp:=
 ⟨xs',hB,hi,hl,.inl ⟨by simp,.aK [],trivial,by simp,hp'⟩⟩
theorem R8{ty len s:Nat}{bm:PV->List PV->Prop}{xs':List PV}{p:PV}(hB:hp B0=some ⟨1,ty,xs',false⟩)(hi:ou xs')(hl:xs'.length=len)(hs:Qr hp (fr s)=p)(hd:p.aG=true)(hp':bm p xs'):uY [.t s] ty len bm fr hp:=
 ⟨xs',hB,hi,hl,.inl ⟨by simp only[lN];rw[hs];exact hd,p,by simp only[kV];rw[hs];exact Qe p,fun O o n e=>by subst e;simp[PV.aG]at hd,hp'⟩⟩
theorem Re{ty len s o n:Nat}{bm:PV->List PV->Prop}{xs':List PV}(hB:hp B0=some ⟨1,ty,xs',false⟩)(hi:ou xs')(hl:xs'.length=len)(hs:fr s= .ax B0 o n)(hp':bm (.ax B0 o n) xs'):uY [.t s] ty len bm fr hp:=
 ⟨xs',hB,hi,hl,.inr ⟨s,o,n,rfl,hs,hp'⟩⟩
end Go.FW
namespace Go.FW
open Go
variable {C : Ctx} {fr : Fr} {hp : HP} {K : Qg}
theorem DA{a b i:Nat}(h:b<2^i):a*2^i|||b=a*2^i+b:=by rw[<-Nat.shiftLeft_eq,Nat.shiftLeft_add_eq_or_of_lt h]
theorem R9{bt:Bool}{x y d:Nat}(hx:x<18446744073709551616)(hy:y<18446744073709551616):cn .or bt (.int .u64 (x:Int)) (.int .u64 (y:Int)) d fr hp K=K (ae fr d (.int .u64 ((x|||y:Nat):Int))) hp:=by
 have h1:(BitVec.ofInt 64 (x:Int)|||BitVec.ofInt 64 (y:Int)).toNat=x|||y:=by rw[BitVec.toNat_or,BitVec.ofInt_natCast,BitVec.ofInt_natCast,BitVec.toNat_ofNat,BitVec.toNat_ofNat,KaO hx,KaO hy]
 have h2:x|||y<18446744073709551616:=Nat.or_lt_two_pow (n:=64) hx hy;simp only[cn,IntKind.bits,h1,true_and];rw[uC (by omega) (by omega)];exact congrArg (fun z:Nat=>K (ae fr d (.int .u64 (z:Int))) hp) h1
theorem Sa{bt:Bool}{x y d:Nat}(hx:x<4294967296)(hy:y<4294967296):cn .or bt (.int .u32 (x:Int)) (.int .u32 (y:Int)) d fr hp K=K (ae fr d (.int .u32 ((x|||y:Nat):Int))) hp:=by
 have h1:(BitVec.ofInt 32 (x:Int)|||BitVec.ofInt 32 (y:Int)).toNat=x|||y:=by rw[BitVec.toNat_or,BitVec.ofInt_natCast,BitVec.ofInt_natCast,BitVec.toNat_ofNat,BitVec.toNat_ofNat,KaO hx,KaO hy]
 have h2:x|||y<4294967296:=Nat.or_lt_two_pow (n:=32) hx hy;simp only[cn,IntKind.bits,h1,true_and];rw[Hr (by omega) (by omega)];exact congrArg (fun z:Nat=>K (ae fr d (.int .u32 (z:Int))) hp) h1
theorem amt{bt:Bool}{x y d:Nat}(hx:x<65536)(hy:y<65536):cn .or bt (.int .u16 (x:Int)) (.int .u16 (y:Int)) d fr hp K=K (ae fr d (.int .u16 ((x|||y:Nat):Int))) hp:=by
 have h1:(BitVec.ofInt 16 (x:Int)|||BitVec.ofInt 16 (y:Int)).toNat=x|||y:=by rw[BitVec.toNat_or,BitVec.ofInt_natCast,BitVec.ofInt_natCast,BitVec.toNat_ofNat,BitVec.toNat_ofNat,KaO hx,KaO hy]
 have h2:x|||y<65536:=Nat.or_lt_two_pow (n:=16) hx hy;simp only[cn,IntKind.bits,h1,true_and];rw[agD (by omega) (by omega)];exact congrArg (fun z:Nat=>K (ae fr d (.int .u16 (z:Int))) hp) h1
theorem Rf{bt:Bool}{k':IntKind}{x s d:Nat}(hs:s<=64)(h:x*2^s<18446744073709551616):cn .shl bt (.int .u64 (x:Int)) (.int k' (s:Int)) d fr hp K=K (ae fr d (.int .u64 ((x*2^s:Nat):Int))) hp:=by
 have h0:(0:Int)<=s:=by omega
 have h1:min ((s:Int).toNat) IntKind.u64.bits=s:=by simp[IntKind.bits];omega
 simp only[cn,h0,true_and,h1];rw[show(x:Int)*2^s=((x*2^s:Nat):Int)by push_cast;rfl,uC (by omega) (by omega)]
theorem Rg{bt:Bool}{k':IntKind}{x s d:Nat}(hs:s<=32)(h:x*2^s<4294967296):cn .shl bt (.int .u32 (x:Int)) (.int k' (s:Int)) d fr hp K=K (ae fr d (.int .u32 ((x*2^s:Nat):Int))) hp:=by
 have h0:(0:Int)<=s:=by omega
 have h1:min ((s:Int).toNat) IntKind.u32.bits=s:=by simp[IntKind.bits];omega
 simp only[cn,h0,true_and,h1];rw[show(x:Int)*2^s=((x*2^s:Nat):Int)by push_cast;rfl,Hr (by omega) (by omega)]
theorem Ln{bt:Bool}{k':IntKind}{x d:Nat}(h:x<281474976710656):cn .shl bt (.int .u64 (x:Int)) (.int k' 16) d fr hp K=K (ae fr d (.int .u64 ((x*65536:Nat):Int))) hp:=
 Rf (s:=16) (by omega) (by omega)
theorem Lo{bt:Bool}{k':IntKind}{x d:Nat}(h:x<65536):cn .shl bt (.int .u32 (x:Int)) (.int k' 16) d fr hp K=K (ae fr d (.int .u32 ((x*65536:Nat):Int))) hp:=
 Rg (s:=16) (by omega) (by omega)
theorem Mc{bt:Bool}{k':IntKind}{x s d:Nat}(hs:s<=32):cn .shr bt (.int .u32 (x:Int)) (.int k' (s:Int)) d fr hp K=K (ae fr d (.int .u32 ((x/2^s:Nat):Int))) hp:=by
 rw[Kb (by omega)];have h1:min ((s:Int).toNat) IntKind.u32.bits=s:=by simp[IntKind.bits];omega
 rw[h1,KcK _ (Int.pow_nonneg (by omega))];rw[show(x:Int)/2^s=((x/2^s:Nat):Int)by push_cast;rfl]
theorem LP{bt:Bool}{x y d:Nat}(hx:x<281474976710656)(hy:y<65536):cn .or bt (.int .u64 ((x*65536:Nat):Int)) (.int .u64 (y:Int)) d fr hp K=K (ae fr d (.int .u64 ((x*65536+y:Nat):Int))) hp:=by rw[R9 (by omega) (by omega),show x*65536|||y=x*65536+y from DA (i:=16) hy]
theorem agQ{bt:Bool}{x y d:Nat}(hx:x<65536)(hy:y<65536):cn .or bt (.int .u32 ((x*65536:Nat):Int)) (.int .u32 (y:Int)) d fr hp K=K (ae fr d (.int .u32 ((x*65536+y:Nat):Int))) hp:=by rw[Sa (by omega) (by omega),show x*65536|||y=x*65536+y from DA (i:=16) hy]
theorem V'{bt:Bool}{x y d:Nat}(hx:x<65536)(hy:y<65536):cn .or bt (.int .u32 (y:Int)) (.int .u32 ((x*65536:Nat):Int)) d fr hp K=K (ae fr d (.int .u32 ((x*65536+y:Nat):Int))) hp:=by rw[Sa (by omega) (by omega),Nat.or_comm,show x*65536|||y=x*65536+y from DA (i:=16) hy]
theorem Md{bt:Bool}{k:IntKind}{x y d:Nat}(hy:0<y)(hw:k.wrap ((x/y:Nat):Int)=((x/y:Nat):Int)):cn .quo bt (.int k (x:Int)) (.int k (y:Int)) d fr hp K=K (ae fr d (.int k ((x/y:Nat):Int))) hp:=by
 have:(y:Int)≠0:=by omega
 simp only[cn,ne_eq,this,not_false_eq_true,true_and];rw[ai1 (by omega),<-hw];rfl
theorem qx{bt:Bool}{k:IntKind}{x y d:Nat}(hy:0<y):cn .rem bt (.int k (x:Int)) (.int k (y:Int)) d fr hp K=K (ae fr d (.int k ((x%y:Nat):Int))) hp:=by
 have:(y:Int)≠0:=by omega
 simp only[cn,ne_eq,this,not_false_eq_true,true_and];rw[ai2 (by omega)];rfl
theorem aeK{n:Nat}(h:n<18446744073709551616):IntKind.u64.wrap (n:Int)=n:=uC (by omega) (by omega)
theorem aeL{n:Nat}(h:n<4294967296):IntKind.u32.wrap (n:Int)=n:=Hr (by omega) (by omega)
theorem aeM{n:Nat}(h:n<9223372036854775808):IntKind.i64.wrap (n:Int)=n:=yc (by omega) (by omega)
theorem Db{bt:Bool}{x y d:Nat}(hy:0<y)(hx:x<18446744073709551616):cn .quo bt (.int .u64 (x:Int)) (.int .u64 (y:Int)) d fr hp K=K (ae fr d (.int .u64 ((x/y:Nat):Int))) hp:=
 Md hy (aeK (KcC (KcG x y) hx))
theorem ajc{bt:Bool}{x y d:Nat}(hy:0<y)(hx:x<4294967296):cn .quo bt (.int .u32 (x:Int)) (.int .u32 (y:Int)) d fr hp K=K (ae fr d (.int .u32 ((x/y:Nat):Int))) hp:=
 Md hy (aeL (KcC (KcG x y) hx))
theorem HW{bt:Bool}{x y d:Nat}(hy:0<y)(hx:x<9223372036854775808):cn .quo bt (.int .i64 (x:Int)) (.int .i64 (y:Int)) d fr hp K=K (ae fr d (.int .i64 ((x/y:Nat):Int))) hp:=
 Md hy (aeM (KcC (KcG x y) hx))
theorem ajd{e d O o n H:Nat}{k:IntKind}(h:H<=n)(he:(hp O).map (·.e)=some e):jo e (.ax O o n) none (some (.int k (H:Int))) none d fr hp K=K (ae fr d (.ax O o H)) hp:=by
 have h1:(H:Int)<=(n:Int):=by omega
 simp[jo,iR,he,h1]
theorem aje{e d O o n L H:Nat}{k k':IntKind}(h1:L<=H)(h:H<=n)(h0:L<n)(he:(hp O).map (·.e)=some e):jo e (.ax O o n) (some (.int k (L:Int))) (some (.int k' (H:Int))) none d fr hp K=K (ae fr d (.ax O (o+L) (H-L))) hp:=by
 have q1:(H:Int)<=(n:Int):=by omega
 have q2:(L:Int)<=(H:Int):=by omega
 have q3:(L:Int)<(n:Int):=by omega
 simp[jo,iR,he,q1,q2,q3]
theorem Wa{bt:Bool}{x d:Nat}(hx:x<9223372036854775808):cn .quo bt (.int .i64 (x:Int)) (.int .i64 16) d fr hp K=K (ae fr d (.int .i64 ((x/16:Nat):Int))) hp:=
 HW (y:=16) (by omega) hx
theorem Wb{bt:Bool}{x d:Nat}:cn .rem bt (.int .i64 (x:Int)) (.int .i64 16) d fr hp K=K (ae fr d (.int .i64 ((x%16:Nat):Int))) hp:=
 qx (y:=16) (by omega)
def pG(s:Nat):List Nat->Nat->List Nat
 | [],c=>[c]
 |x::xs,c=>((x*2^s)%65536+c)::pG s xs (x*2^s/65536)
theorem PC(s:Nat):∀(l:List Nat)(c:Nat),val (pG s l c)=val l*2^s+c
 | [],c=>by simp[pG,val]
 |x::xs,c=>by rw[pG,val,PC s xs,val,KaM,Kbo];generalize x*2^s=y;generalize val xs*2^s=z;omega
theorem Lp{s:Nat}(h:s<=16):(65536:Nat)=2^s*2^(16-s):=by rw[<-Nat.pow_add,show s+(16-s)=16 by omega]
theorem PD{s x c:Nat}(h:s<=16)(hc:c<2^s):(x*2^s)%65536+c<65536/\c|||(x*2^s)%65536=(x*2^s)%65536+c:=by
 have e:(x*2^s)%65536=(x%2^(16-s))*2^s:=by rw[Lp h,Ka5 x,Nat.mul_mod_mul_left,Ka5]
 have h1:x%2^(16-s)<2^(16-s):=KbC _ (KbY (by omega));have h2:(x%2^(16-s)+1)*2^s<=2^(16-s)*2^s:=Kam _ h1;rw[KaM,Ka5 (2^(16-s)),<-Lp h]at h2;rw[e];refine⟨by omega,?_⟩;rw[Nat.or_comm,DA hc]
theorem Wc{s x:Nat}(h:s<=16)(hx:x<65536):x*2^s/65536<2^s:=by rw[Kbp (by omega),Ka5];exact Nat.mul_lt_mul_of_pos_left hx (KbY (by omega))
theorem Vd{s:Nat}(h:s<=15):∀(l:List Nat)(c:Nat),Qi l->c<2^s->Qi (pG s l c)
 | [],c,_,hc=>by have:2^s<=2^15:=KbD (by omega) h;simp[pG,Qi];omega
 |x::xs,c,hl,hc=>by rw[iC]at hl;rw[pG,iC];exact⟨(PD (by omega) hc).1,Vd h xs _ hl.2 (Wc (by omega) hl.1)⟩
theorem Ue(s:Nat):∀(l:List Nat)(c:Nat),(pG s l c).length=l.length+1
 | [],_=>rfl
 |x::xs,c=>by simp[pG,Ue s xs]
theorem amu{s x:Nat}(h:s<=15)(hx:x<65536):x*2^s<2147483648:=by have:2^s<=2^15:=KbD (by omega) h;have:=KbU (show x<=65535 by omega) this;omega
theorem PE(l:List Nat):∀n,n<=l.length->cut l n=l.take (cut l n).length
 |0,_=>by simp[cut]
 |n+1,h=>by
  unfold cut;split
  ·exact PE l n (by omega)
  ·rw[KaB,Kb7 h]
theorem agR{l:List Nat}(h:Qi l):l.take (nl (val l))=ak (val l):=by have:=PE l l.length (Kae _);rw[C9 h]at this;exact this.symm
end Go.FW
namespace Go.FW
open Go
theorem Au.OK{P:Program}{f:FuncId}{args:List PV}{ty:TypeId}{ys:List PV}(h:Au P f args ty (· =ys)):Qb P f args (· = .sl 1 ys):=by
 refine⟨h.1,fun w X aR hX h2 h3=>(h.2 w X aR hX h2 h3).mono ?_⟩;rintro e w' ⟨v,b,cap,ys',rfl,rfl,hb,hx,hI,dQ,hm,rfl⟩;refine⟨_,_,rfl,hx,?_,rfl⟩;obtain⟨hint,cur,cp,i1,i2,i3,i4,i5⟩:=hI;obtain⟨cur',ty',d1,d2⟩:=dQ;rw[i1]at d1;cases d1;have pW:b<w'.heap.size:=(Kan.1 i1).1;have e:cp=cap:=by omega
 subst e;refine Qn.sl (w:=w') (X:=X) 1 ys' b 0 cp (fun i j=>cur.getD (i+j) undef) (fun FA=>by have:=hX b FA;omega) pW i3 i4 (Hs hint |> fun h i x hx=>(h i x hx).1) (fun i hi j hj=>?_) (fun i x hx j y hy=>?_)
 ·have:j=0:=by omega
  subst this;simp only[Ka1,Kcn,KaP];exact mr i1 (by omega)
 ·obtain⟨k,n,rfl⟩:=hint x (Kai hx);cases j with
  |zero=>simp[PV.cells]at hy;subst hy;show Qn w' X (.int k n) (cur.getD (i+0) undef);rw[KaP,i5 i k n hx];exact Qn.int k n
  |succ j=>simp[PV.cells]at hy
def ov(s:Nat):List Nat->List Nat
 | []=>[]
 |x::xs=>((xs.headD 0*65536+x)/2^s)%65536::ov s xs
theorem KT(s:Nat):∀l,(ov s l).length=l.length
 | []=>rfl
 |x::xs=>by simp[ov,KT s xs]
theorem Ve(s:Nat):∀l,Qi (ov s l)
 | []=>pg
 |x::xs=>by rw[ov,iC];exact⟨by omega,Ve s xs⟩
theorem aeN{s i:Nat}{l:List Nat}(h:i<l.length):ov s (l.drop i)=((l.getD (i+1) 0*65536+l[i])/2^s)%65536::ov s (l.drop (i+1)):=by rw[Kax h,ov];simp[KbM,Kcv,Kac]
theorem agS{x V s:Nat}(hs:s<=16)(hx:x<65536):(x+65536*V)/2^s=((V%65536*65536+x)/2^s)%65536+65536*(V/2^s):=by
 have hp:0<2^s:=KbY (by omega);have e0:=Kbv V (2^s);have hr:=KbC V hp;generalize hq:V/2^s=q at *
 generalize hrr:V%2^s=r at *
 have hy:V%65536%2^s=r:=by rw[Lp hs,Nat.mod_mul_right_mod];exact hrr
 have e1:=Kbv (V%65536) (2^s);rw[hy]at e1;generalize V%65536/2^s=t at *
 have ao:(65536*r+x)/2^s<65536:=by rw[Kbp hp];have:65536*(r+1)<=65536*2^s:=Kbf _ hr;omega
 have k1:x+65536*V=(65536*r+x)+2^s*(65536*q):=by rw[<-e0,Ka0,KbL];omega
 have k2:V%65536*65536+x=(65536*r+x)+2^s*(65536*t):=by rw[<-e1,KaM,Kbo,Ka5 t 65536];omega
 rw[k1,k2,Kct _ _ hp,Kct _ _ hp,Kcs,KaO ao]
theorem PF{s:Nat}(hs:s<=16):∀l,Qi l->val (ov s l)=val l/2^s
 | [],_=>by simp[ov,val]
 | x::xs,h=>by
  rw[iC]at h;rw[ov,val,PF hs xs h.2,val,agS hs h.1];have:xs.headD 0=val xs%65536:=by
   cases xs with
   |nil=>simp[val]
   |cons y ys=>have:=h.2 y (by simp);simp[val];omega
  rw[this]
variable {C : Ctx} {ρ : Nat -> Option Nat} {fr aC : Fr} {hp : HP} {w : World} {K K' R R' : Qg}
def cA(fr aC:Fr):Prop:=∀s,aC s=fr s∨aC s= .undef
theorem cA.refl(fr:Fr):cA fr fr:=fun _=>.inl rfl
theorem cA.trans{a b c:Fr}(h:cA a b)(k:cA b c):cA a c:=fun s=>by
 rcases k s with e|e
 ·rw[e];exact h s
 ·exact .inr e
theorem cA.ae(h:cA fr aC)(d:Nat){v v':PV}(hv:v'=v∨v'= .undef):cA (ae fr d v) (ae aC d v'):=fun s=>by
 unfold FW.ae;split
 ·exact hv
 ·exact h s
theorem cA.jq(h:cA fr aC)(d:Nat)(v:PV):cA (FW.ae fr d v) (FW.ae aC d v):=h.ae d (.inl rfl)
theorem cA.kill(h:cA fr aC)(O:Nat):cA (bZ O fr) (bZ O aC):=fun s=>by
 unfold bZ;rcases h s with e|e
 ·exact .inl (by rw[e])
 ·right;rw[e];simp[bU,PV.refs]
theorem cA.ev(h:cA fr aC)(x:aM):ev aC x=ev fr x∨ev aC x= .undef:=by
 cases x with
 |t n=>exact h n
 |c p=>exact .inl rfl
theorem cA.mem(h:cA fr aC){q:PV->Prop}(hq:¬q .undef){l:List aM}(hl:∀p∈l.map (FW.ev aC),q p):l.map (FW.ev aC)=l.map (FW.ev fr):=by
 refine KaX fun x hx=>?_;rcases h.ev x with e|e
 ·exact e
 ·exact absurd (e▸hl _ (Kcw hx)) hq
theorem cA.aJ(h:cA fr aC){γ bj e ty:Nat}{xs:List PV}(e1:aC γ= .aJ bj e ty xs):fr γ= .aJ bj e ty xs:=by
 rcases h γ with e2|e2
 ·rw[<-e2];exact e1
 ·rw[e1]at e2;cases e2
theorem cA.drop(h:cA fr aC)(γ:Nat):cA (jv γ fr) (jv γ aC):=fun s=>by
 unfold jv;rcases h s with e|e
 ·exact .inl (by rw[e])
 ·right;rw[e];rfl
theorem cA.take(h:cA fr aC)(O:Nat):cA (gi O fr) (gi O aC):=fun s=>by
 unfold gi;rcases h s with e|e
 ·exact .inl (by rw[e])
 ·right;rw[e];simp[dC,bU,PV.refs]
theorem cA.wk(h:cA fr aC):Wk fr hp aC hp:=by
 rintro C tmps w ⟨ρ,hs⟩;refine⟨ρ,hs.sz,hs.ext,hs.fI,hs.own,hs.inj,fun s=>?_⟩;rcases h s with h|h<;>rw[h]
 ·exact hs.dm s
 ·trivial
theorem cA.sim{tmps:Array Value}(h:cA fr aC)(hs:Qt C ρ fr hp tmps w):Qt C ρ aC hp tmps w:=by
 refine⟨hs.sz,hs.ext,hs.fI,hs.own,hs.inj,fun s=>?_⟩;rcases h s with h|h<;>rw[h]
 ·exact hs.dm s
 ·trivial
theorem Ky(h:cA fr aC)(x:Option aM):x.map (ev aC)=x.map (ev fr)∨x.map (ev aC)=some .undef:=by
 cases x with
 |none=>exact .inl rfl
 |some x=>rcases h.ev x with e|e<;>simp[e]
theorem Qzr(d:Int):iR d (some .undef)=none:=rfl
theorem Me (h:cA fr aC) (hK:∀f f' hp,cA f f'->K' f' hp->K f hp) (o:cI):bA C o aC hp K'->bA C o fr hp K:=by
 have hu:∀(d:Nat)(v:PV)(hp:HP),K' (ae aC d v) hp->K (ae fr d v) hp:=fun d v hp H=>hK _ _ _ (h.jq d v) H;have hk:∀(O d:Nat)(v:PV)(hp:HP),K' (ae (bZ O aC) d v) hp->K (ae (bZ O fr) d v) hp:=fun O d v hp H=>hK _ _ _ ((h.kill O).jq d v) H;have hz:∀hp,K' aC hp->K fr hp:=fun hp H=>hK _ _ _ h H;have mono:∀ {o:cI},bA C o fr hp K'->bA C o fr hp K:=fun H=>LO (fun f hp H=>hK _ _ _ (cA.refl f) H) _ H;cases o with
 |mv d x=>exact fun H=>hK _ _ _ (h.ae d (h.ev x)) H
 | pick d c a b=>
  simp only[bA,uX];rcases h.ev c with e|e
  ·rw[e];split
   ·exact fun H=>⟨fun t=>hK _ _ _ (h.ae d (h.ev a)) (H.1 t),fun t=>hK _ _ _ (h.ae d (h.ev b)) (H.2 t)⟩
   ·exact id
  ·rw[e];exact False.elim
 | call d pr f args=>
  simp only[bA,gF];rcases h.ev f with e|e
  ·rw[e];split
   ·rintro⟨h1,h2⟩;refine⟨h1,fun ρ tmps w fv cv av a1 a2 a3 a4 a5 a6 a7 a8=>?_⟩;refine(h2 ρ tmps w fv cv av a1 (h.sim a2) a3 a4 (by simpa using a5) a6 a7 (fun i x hx=>?_)).mono ?_
    ·simp only[Kao,Kaa]at hx;obtain⟨y,hy,rfl⟩:=hx;rcases h.ev y with e|e
     ·rw[e];exact a8 i _ (by simp[hy])
     ·rw[e];trivial
    ·rintro e w' ⟨v,f1,hp',e1,e2,e3,e4⟩;exact⟨v,f1,hp',e1,e2,e3,hK _ _ _ (cA.refl _) e4⟩
   ·exact id
  ·rw[e];exact False.elim
 | bs d e ty ps=>
  simp only[bA,l7];by_cases hb:ot (ps.map (ev aC))=true
  ·rw[if_pos hb];rintro⟨h1,h2⟩;have e:ps.map (ev aC)=ps.map (ev fr):=by
    match ps,hb with
    | [],hb=>simp[ot]at hb
    | [p],hb=>
     rcases h.ev p with e|e
     ·simp[e]
     ·rw[Kbn,KbG,e]at hb;simp[ot,nn]at hb
    |p::q::ps,hb=>simp[ot]at hb
   rw[e]at h2 hb;rw[if_pos hb];exact⟨h1,hK _ _ _ (((h.take _).jq _ _).jq _ _) h2⟩
  ·rw[if_neg hb];rintro⟨h1,h2,h3⟩;have e:=h.mem (q:=fun p=>(Qr hp p).aG=true) (by simp[Qr,cx,PV.aG]) (l:=ps) (fun p hp=>(h2 p hp).1);rw[e]at h2 h3 hb;rw[if_neg hb];exact⟨h1,h2,hk _ _ _ _ h3⟩
 | dY d z ps=>
  have key:((∀x∈ps,ev aC x.2.2≠ .undef)->(ps.map fun p=>(p.1,p.2.1,ev aC p.2.2))=ps.map fun p=>(p.1,p.2.1,ev fr p.2.2)):=fun hu=>by
   refine KaX fun x hx=>?_;rcases h.ev x.2.2 with e|e
   ·rw[e]
   ·exact absurd e (hu x hx)
  intro H;simp only[bA,lW]at H;split at H
  ·rename_i hn;obtain⟨h2,h3⟩:=H;have e:=key fun x hx e=>by obtain⟨cs,h4,_⟩:=h2 _ (Kcw hx);rw[e]at h4;simp[fO]at h4
   rw[e]at h2 h3 hn;simp only[bA,lW];rw[if_pos hn];exact⟨h2,hK _ _ _ (h.jq _ _) h3⟩
  ·rename_i hn;obtain⟨h2,h3⟩:=H;have e:=key fun x hx e=>by have:=(h2 _ (Kcw hx)).1;rw[e]at this;simp[Qr,cx,PV.aG]at this
   rw[e]at h2 h3 hn;simp only[bA,lW];rw[if_neg hn];exact⟨h2,hK _ _ _ (h.jq _ _) h3⟩
 |fn d f first cap=>simp only[bA];rintro⟨h2,h3⟩;have gK:=h2;rw[List.all_append,Ka2,Kav,Kav]at gK;have e1:=h.mem (q:=fun p=>p.mg=true) (by simp[PV.mg]) gK.1;have e2:=h.mem (q:=fun p=>p.mg=true) (by simp[PV.mg]) gK.2;rw[e1,e2]at h2 h3;exact⟨h2,hK _ _ _ (h.jq _ _) h3⟩
 | F7 d x=>
  simp only[bA,DE];rcases h.ev x with e|e
  ·rw[e];intro H;revert H
   repeat' split
   all_goals first|exact id|exact hz _|exact hu _ _ _|grind
  ·rw[e];intro H;revert H;repeat' split
   all_goals first|exact id|exact False.elim|grind
 | bin d op bt x y=>
  simp only[bA];rcases h.ev x with e|e<;>rcases h.ev y with e'|e'<;>rw[e,e']
  ·unfold cn;intro H;revert H;split
   ·split<;>first|exact fun H=>⟨H.1,hu _ _ _ H.2⟩|exact fun H=>⟨H.1,H.2.1,hu _ _ _ H.2.2⟩|exact id
   ·split<;>first|exact fun H=>⟨H.1,hu _ _ _ H.2⟩|exact id
   ·exact id
  all_goals
   unfold cn;intro H;revert H
   repeat' split
   all_goals first|exact False.elim|(intros;simp_all;done)|(rename_i h1 _;cases h1;done)|(rename_i h1;cases h1;done)
 | sl d e x lo hi mx=>
  simp only[bA,jo];rcases h.ev x with e0|e0<;>rcases Ky h lo with e1|e1<;>rcases Ky h hi with e2|e2<;>rcases Ky h mx with e3|e3<;>rw[e0,e1,e2,e3]
  all_goals
   intro H;revert H
   try simp only[Qzr]
   repeat' split
   all_goals first|exact id|exact False.elim|(intros;simp_all;done)|grind
 | ld d n ag x=>
  simp only[bA,iQ];rcases h.ev x with e|e
  ·rw[e];intro H;revert H;split
   ·split
    ·exact fun⟨a,b,c,k⟩=>⟨a,b,c,hu _ _ _ k⟩
    ·exact id
   ·exact fun⟨a,b,k⟩=>⟨a,b,hu _ _ _ k⟩
   ·exact fun⟨a,b,k⟩=>⟨a,b,hu _ _ _ k⟩
   ·intro H;split at H
    ·rename_i ah;rw[h.aJ ah];obtain⟨a,b,c,d,k⟩:=H;exact⟨a,b,c,d,hu _ _ _ k⟩
    ·exact H.elim
   ·exact id
  ·rw[e];exact fun H=>H.elim
 | st n x y=>
  simp only[bA,o8];rcases h.ev x with e|e<;>rcases h.ev y with e'|e'<;>rw[e,e']
  ·intro H;revert H;split
   ·split
    ·exact fun⟨a,b,c,d,f,k⟩=>⟨a,b,c,d,f,hz _ k⟩
    ·exact id
   ·intro H;split at H
    ·rename_i ah;rw[h.aJ ah];obtain⟨a,b,c,d,H⟩:=H;refine⟨a,b,c,d,?_⟩;revert H;split
     ·exact fun⟨f,k⟩=>⟨f,hK _ _ _ ((h.drop _).jq _ _) k⟩
     ·exact id
    ·exact H.elim
   ·exact id
  ·intro H;exfalso;revert H;split
   ·split
    ·rintro⟨_,b,_⟩;simp[Qr,cx,PV.aG]at b
    ·exact id
   ·split
    ·rintro⟨_,_,_,_,H⟩;exact H
    ·exact id
   ·exact id
  ·exact fun H=>H.elim
  ·exact fun H=>H.elim
 | app d e by_ ty x y=>
  simp only[bA,jz];rcases h.ev y with e'|e'
  ·rw [e'];intro H;revert H;split
   ·unfold AR;split
    ·rename_i δ _;rcases h δ with e2|e2
     ·rw [e2];split
      ·rintro⟨a1,a2,a3,H⟩;refine⟨a1,a2,a3,?_⟩;rcases h.ev x with e|e
       ·rw[e]at H;revert H;split
        ·exact fun H=>⟨H.1,hK _ _ _ (((h.take _).jq _ _).jq _ _) H.2⟩
        ·rename_i γ k _;rcases h γ with e3|e3
         ·rw[e3];split
          ·exact fun H=>⟨H.1,H.2.1,hK _ _ _ (((h.take _).jq _ _).jq _ _) H.2.2⟩
          ·exact id
         ·rw[e3];exact fun H=>H.elim
        ·exact id
       ·rw[e]at H;exact H.elim
      ·exact id
     ·rw[e2];exact fun H=>H.elim
    ·exact id
   ·rintro⟨h0,h1,H⟩;refine⟨h0,h1,?_⟩;rcases h.ev x with e|e
    ·rw[e]at H;revert H;split
     ·rintro⟨a,b,c⟩;exact⟨a,b,hk _ _ _ _ c⟩
     ·split
      ·rintro(⟨a1,a2,a3,a4,a5,a6,a7,c⟩|⟨a1,a2,a3,c⟩)
       ·exact .inl ⟨a1,a2,a3,a4,a5,a6,a7,hk _ _ _ _ c⟩
       ·exact .inr ⟨a1,a2,a3,hK _ _ _ ((h.take _).jq _ _) c⟩
      ·exact id
     ·exact id
    ·rw[e]at H;exact H.elim
  ·rw[e'];exact fun H=>H.elim
 | un d op x|conv d k x|len d x|Gh d x|bG d o x|Bq d o n ag x|ext d x i=>
  all_goals
   simp only[bA,xO,yp,qG,yx,tD,tq,iQ,ns]
   try (rcases h.ev x with e|e<;>rw[e])
  all_goals
   intro H;revert H
   repeat' split
   all_goals first|exact id|exact False.elim|exact hu _ _ _|grind [Qr,cx,PV.aG]
 | box d n ty x=>
  simp only[bA];rcases h.ev x with e|e
  ·rw[e];unfold fQ;split
   ·unfold wI;exact fun H=>⟨H.1,hK _ _ _ (((h.take _).jq _ _).jq _ _) H.2⟩
   ·split
    ·exact hu _ _ _
    ·exact fun H=>⟨H.1,H.2.1,H.2.2.1,hk _ _ _ _ H.2.2.2⟩
  ·rw[e];intro H;simp[fQ,Qr,cx,PV.aG]at H
 | alloc d n ty z=>
  simp only[bA];unfold fQ;split
  ·unfold wI;exact fun H=>⟨H.1,hK _ _ _ (((h.take _).jq _ _).jq _ _) H.2⟩
  ·split
   ·exact hu _ _ _
   ·exact fun H=>⟨H.1,H.2.1,H.2.2.1,hk _ _ _ _ H.2.2.2⟩
 | eqs d ng x y|zP d ng x y|Gg d x y|mx d x y|mn d x y|idx d e x y|xI d n e x y|FX d n e ag x y|mk d e by_ ty z x y|xa d e x y=>
  all_goals
   simp only[bA,tB,tC,wH,zJ,zH,dt,mD,AQ,o8,o6,jz,wJ];rcases h.ev x with e|e<;>rcases h.ev y with e'|e'<;>rw[e,e']
  all_goals
   intro H;revert H
   repeat' split
   all_goals first|exact id|exact False.elim|exact hu _ _ _|grind [Qr,cx,PV.aG,kE]
 |bad d=>exact id
end Go.FW
namespace Go.FW
open Go
variable {C : Ctx} {ρ : Nat -> Option Nat} {fr aC : Fr} {hp : HP} {w : World} {K K' R R' : Qg}
def KM(K' K:Qg):Prop:=∀f f' hp,cA f f'->K' f' hp->K f hp
inductive ow:List It->List It->Prop
 |nil:ow [] []
 |c (s:SC) {a b:List It}:ow a b->ow (.c s::a) (.c s::b)
 |o (r:RT) {a b:List It}:ow a b->ow (.o r::a) (.o r::b)
 |eb (i:Nat) {a b:List It}:ow a b->ow (.eb i::a) (.eb i::b)
 |el {J' J:Qg} {a b:List It}:KM J' J->ow a b->ow (.el J'::a) (.el J::b)
theorem ow.exit{id:Nat}:∀ {a b:List It},ow a b->(∃a' b',FW.cD id a=some a'/\FW.cD id b=some b'/\ow a' b'/\cf a'<=cf a)∨(FW.cD id a=none/\FW.cD id b=none):=by
 intro a b h;induction h with
 |nil=>exact .inr ⟨rfl,rfl⟩
 |c s h ih|o s h ih=>
  rcases ih with⟨a',b',h1,h2,h3,h4⟩|⟨h1,h2⟩
  ·exact .inl ⟨a',b',by simpa[FW.cD]using h1,by simpa[FW.cD]using h2,h3,by simp only[cf];omega⟩
  ·exact .inr ⟨by simpa[FW.cD]using h1,by simpa[FW.cD]using h2⟩
 |el _ h ih=>
  rcases ih with⟨a',b',h1,h2,h3,h4⟩|⟨h1,h2⟩
  ·exact .inl ⟨a',b',by simpa[FW.cD]using h1,by simpa[FW.cD]using h2,h3,by simp only[cf];omega⟩
  ·exact .inr ⟨by simpa[FW.cD]using h1,by simpa[FW.cD]using h2⟩
 | eb i h ih=>
  by_cases hi:i=id
  ·exact .inl ⟨_,_,by simp[FW.cD,hi],by simp[FW.cD,hi],h,by simp only[cf];omega⟩
  ·rcases ih with⟨a',b',h1,h2,h3,h4⟩|⟨h1,h2⟩
   ·exact .inl ⟨a',b',by simpa[FW.cD,hi]using h1,by simpa[FW.cD,hi]using h2,h3,by simp only[cf];omega⟩
   ·exact .inr ⟨by simpa[FW.cD,hi]using h1,by simpa[FW.cD,hi]using h2⟩
theorem Hg(h:cA fr aC)(hK:KM K' K)(o:cI):kF o aC hp K'->kF o fr hp K:=by
 unfold kF;split
 ·exact hK _ _ _ (h.jq _ _)
 ·exact hK _ _ _ h
theorem agT(h:cA fr aC)(hK:KM K' K)(g:Option (Nat×Bool))(o:cI):fl C g o aC hp K'->fl C g o fr hp K:=by
 unfold fl;split
 ·exact Me h hK o
 ·rename_i s want;rcases h s with e|e
  ·rw[e];split
   ·exact fun H=>⟨fun t=>Me (h.jq _ _) hK o (H.1 t),fun t=>Hg (h.jq _ _) hK o (H.2 t)⟩
   ·exact Hg h hK o
   ·exact id
  ·rw[e];exact False.elim
theorem rC(hR:KM R' R):∀(n:Nat)(fc sk:List It)(aC fr:Fr)(hp:HP),cf fc<=n->ow fc sk->cA fr aC->vc C R' fc aC hp->vc C R sk fr hp:=by
 intro n;induction n with
 |zero=>
  intro fc sk aC fr hp hn hs hf h;cases hs with
  |nil=>rw[wB]at h ⊢;exact hR _ _ _ hf h
  |el hJ _=>rw[yr]at h ⊢;exact hJ _ _ _ hf h
  |c s _=>exfalso;have:=SC.B6 s;simp only[cf,It.sz]at hn;omega
  |o s _=>exfalso;have:=RT.B6 s;simp only[cf,It.sz]at hn;omega
  |eb _ _=>exfalso;simp only[cf,It.sz]at hn;omega
 | succ n ih=>
  intro fc sk aC fr hp hn hs hf h;cases hs with
  |nil=>rw[wB]at h ⊢;exact hR _ _ _ hf h
  |el hJ _=>rw[yr]at h ⊢;exact hJ _ _ _ hf h
  |eb i hs=>rw[Is]at h⊢;exact ih _ _ _ _ _ (by simp only[cf,It.sz]at hn;omega) hs hf h
  | o r hs=>
   cases r with
   |nil=>rw[Dq]at h ⊢;exact ih _ _ _ _ _ (by simp only[cf,It.sz,RT.sz]at hn;omega) hs hf h
   |o g o r=>rw[R6]at h⊢;exact agT (K':=fun fr hp=>vc C R' (.o r::_) fr hp) (K:=fun fr hp=>vc C R (.o r::_) fr hp) hf (fun f f' hp BG H=>ih (.o r::_) (.o r::_) _ _ hp (by simp only[cf,It.sz,RT.sz]at hn ⊢;omega) (.o r hs) BG H) g o h
   |wk r=>rw[Ic]at h⊢;obtain⟨aO,aA,hw,h⟩:=h;exact⟨aO,aA,hf.wk.trans hw,ih (.o r::_) (.o r::_) _ _ _ (by simp only[cf,It.sz,RT.sz]at hn ⊢;omega) (.o r hs) (cA.refl _) h⟩
   |br x y=>rw[R7]at h⊢;exact⟨ih (.o x::_) (.o x::_) _ _ _ (by simp only[cf,It.sz,RT.sz]at hn ⊢;omega) (.o x hs) hf h.1,ih (.o y::_) (.o y::_) _ _ _ (by simp only[cf,It.sz,RT.sz]at hn ⊢;omega) (.o y hs) hf h.2⟩
  | @c s a b hs=>
   cases s with
   |skip=>rw[HR]at h ⊢;exact ih _ _ _ _ _ (by simp only[cf,It.sz,SC.sz]at hn;omega) hs hf h
   |rg r=>rw[Ku]at h ⊢;exact ih (.o r::_) (.o r::_) _ _ _ (by simp only[cf,It.sz,SC.sz]at hn ⊢;omega) (.o r hs) hf h
   | raw id ops=>
    rw[vc]at h⊢;intro tmps w Q qh hQ;refine h tmps w Q ?_ fun gk cg awS w2 dF hv=>hQ gk cg awS w2 dF ?_
    ·obtain⟨ρ,qh⟩:=qh;exact⟨ρ,hf.sim qh⟩
    ·exact ih _ _ _ _ _ (by simp only[cf,It.sz,SC.sz]at hn;omega) hs (cA.refl _) hv
   |seq x y=>rw[Ie]at h ⊢;exact ih (.c x:: .c y::_) (.c x:: .c y::_) _ _ _ (by simp only[cf,It.sz,SC.sz]at hn ⊢;omega) (.c x (.c y hs)) hf h
   |block id x=>rw[Hq]at h ⊢;exact ih (.c x:: .eb id::_) (.c x:: .eb id::_) _ _ _ (by simp only[cf,It.sz,SC.sz]at hn ⊢;omega) (.c x (.eb id hs)) hf h
   |ret=>rw[Ig]at h ⊢;exact hR _ _ _ hf h
   | cond c x y=>
    rw[HS]at h⊢;rcases hf.ev c with e|e
    ·rw[e]at h;unfold wF at h⊢;split at h
     ·exact⟨fun e=>ih (.c x::_) (.c x::_) _ _ _ (by simp only[cf,It.sz,SC.sz]at hn ⊢;omega) (.c x hs) hf (h.1 e),fun e=>ih (.c y::_) (.c y::_) _ _ _ (by simp only[cf,It.sz,SC.sz]at hn ⊢;omega) (.c y hs) hf (h.2 e)⟩
     ·exact h
    ·rw[e]at h;exact h.elim
   | exit id=>
    rw[HT]at h⊢;rcases hs.exit (id:=id)with⟨a',b',h1,h2,h3,h4⟩|⟨h1,h2⟩
    ·rw[h1]at h;rw[h2];simp only[yt]at h⊢;exact ih _ _ _ _ _ (by simp only[cf,It.sz,SC.sz]at hn;omega) h3 hf h
    ·rw[h1]at h;exact h.elim
   |loop x=>rw[z8]at h⊢;obtain⟨I,μ,⟨aO,aA,h1,gJ⟩,h2⟩:=h;refine⟨I,μ,⟨aO,aA,hf.wk.trans h1,gJ⟩,fun fr hp hI=>?_⟩;refine ih (.c x:: .el _::_) (.c x:: .el _::_) _ _ _ (by simp only[cf,It.sz,SC.sz]at hn ⊢;omega) (.c x (.el ?_ hs)) (cA.refl _) (h2 fr hp hI);rintro f f' hp' hf ⟨aO,aA,g1,g2,g3⟩;exact⟨aO,aA,hf.wk.trans g1,g2,g3⟩
def mX:List (Nat×Nat)->Nat->Bool
 | [],_=>false
 |(a,b)::W,s=>(decide (a<=s)&&decide (s<=b))||mX W s
theorem ajf(s:Nat):mX [] s=false:=rfl
theorem Ht(a b s:Nat)(W:List (Nat×Nat)):mX ((a,b)::W) s=((decide (a<=s)&&decide (s<=b))||mX W s):=rfl
def bu(W:List (Nat×Nat))(J F:Fr):Fr:=fun s=>if mX W s then J s else F s
theorem RW(W:List (Nat×Nat))(J F:Fr)(s:Nat):bu W J F s=if mX W s then J s else F s:=rfl
theorem Rh{W:List (Nat×Nat)}{a:Nat}{v:PV}{J F:Fr}(h:mX W a=true):ae (bu W J F) a v=bu W (ae J a v) F:=by
 funext s;unfold ae bu;by_cases hs:s=a
 ·subst hs;rw[if_pos rfl,if_pos h];simp
 ·rw[if_neg hs];split
  ·simp[hs]
  ·rfl
theorem agU{W:List (Nat×Nat)}{a:Nat}{v:PV}{J F:Fr}:ae (bu W J F) a v=if mX W a=true then bu W (ae J a v) F else bu ((a,a)::W) (ae J a v) F:=by
 split
 ·exact Rh ‹_›
 ·funext s;unfold ae bu;by_cases hs:s=a
  ·subst hs;simp[mX]
  ·have:(decide (a<=s)&&decide (s<=a))=false:=by rw[Bool.and_eq_false_iff];simp only[decide_eq_false_iff_not];omega
   simp only[Ht,this,Bool.false_or,if_neg hs]
theorem aeq{W:List (Nat×Nat)}{O:Nat}{J F:Fr}:bZ O (bu W J F)=bu W (bZ O J) (bZ O F):=by funext s;unfold bZ bu;split<;>rfl
def Q7(B:List Nat)(F:Fr):Fr:=fun s=>if(F s).refs.any B.contains then .undef else F s
theorem mu(F:Fr):Q7 [] F=F:=by funext s;simp[Q7]
theorem GQ{O:Nat}{B:List Nat}{F:Fr}(h:B.contains O=true):bZ O (Q7 B F)=Q7 B F:=by
 funext s;show bU O (Q7 B F s)=Q7 B F s;by_cases h1:(F s).refs.any B.contains=true
 ·have:Q7 B F s= .undef:=if_pos h1;rw[this];rfl
 ·have:Q7 B F s=F s:=if_neg h1;rw[this,bU,if_neg];intro h2;exact h1 (KaU.2 ⟨O,by simpa using h2,h⟩)
theorem Qzs{O:Nat}{B:List Nat}{F:Fr}:bZ O (Q7 B F)=if B.contains O=true then Q7 B F else Q7 (O::B) F:=by
 split
 ·exact GQ ‹_›
 ·funext s;show bU O (Q7 B F s)=Q7 (O::B) F s;unfold Q7 bU;by_cases h1:(F s).refs.any B.contains=true
  ·have h2:(F s).refs.any (O::B).contains=true:=by obtain⟨x,hx,lI⟩:=KaU.1 h1;exact KaU.2 ⟨x,hx,by rw[KaK,lI,Bool.or_true]⟩
   simp only[if_pos h1,if_pos h2];rfl
  ·simp only[if_neg h1];by_cases h2:(F s).refs.contains O=true
   ·have h3:(F s).refs.any (O::B).contains=true:=KaU.2 ⟨O,by simpa using h2,by simp⟩;rw[if_pos h2,if_pos h3]
   ·rw[if_neg h2,if_neg];intro h3;obtain⟨x,hx,lI⟩:=KaU.1 h3;rw[KaK,KbE]at lI;rcases lI with e|e
    ·have:x=O:=by simpa using e
     subst this;exact h2 (by simpa using hx)
    ·exact h1 (KaU.2 ⟨x,hx,e⟩)
theorem Lq(B:List Nat)(F:Fr)(s:Nat):Q7 B F s=if(F s).refs.any B.contains then .undef else F s:=rfl
theorem Hu(W:List (Nat×Nat))(B:List Nat):cA fr (bu W fr (Q7 B fr)):=fun s=>by
 unfold bu Q7;split
 ·exact .inl rfl
 ·split
  ·exact .inr rfl
  ·exact .inl rfl
def AM(W:List (Nat×Nat))(F:Fr)(I:Nat->Fr->HP->Prop)(n:Nat):Qg:=fun aC hp'=>∃J m,cA aC (bu W J F)/\m<n/\I m J hp'
theorem Qh{W:List (Nat×Nat)}{F J:Fr}{I:Nat->Fr->HP->Prop}{n:Nat}(m:Nat)(hl:m<n)(h:I m J hp):AM W F I n (bu W J F) hp:=⟨J,m,cA.refl _,hl,h⟩
theorem agV{W:List (Nat×Nat)}{F:Fr}{I:Nat->Fr->HP->Prop}{n:Nat}:KM (AM W F I n) (AM W F I n):=by rintro f f' hp hf ⟨J,m,h1,h2,h3⟩;exact⟨J,m,hf.trans h1,h2,h3⟩
def fC(R:Qg)(sk:List It):Prop:=KM R R/\ow sk sk
theorem Qm{sk:List It}{x:SC}(bd:fC R sk)(W:List (Nat×Nat))(B:List Nat)(I:Nat->Fr->HP->Prop)(m0:Nat)(h0:I m0 fr hp)
  (h:∀m J hp,I m J hp->vc C R (.c x:: .el (AM W (Q7 B fr) I m)::sk) (bu W J (Q7 B fr)) hp):vc C R (.c (.loop x)::sk) fr hp:=by
 refine CG (fun m aC hp'=>∃J,aC=bu W J (Q7 B fr)/\I m J hp') m0 (Hu W B).wk ⟨fr,rfl,h0⟩ ?_;rintro m _ hp' ⟨J,rfl,hI⟩;refine rC bd.1 _ _ _ _ _ _ (Kae _) (.c x (.el ?_ bd.2)) (cA.refl _) (h m J hp' hI);rintro f f' cg hf ⟨J2,m2,e2,hl,h2⟩;exact LJ hl (hf.trans e2).wk ⟨J2,rfl,h2⟩
def ny(W:List (Nat×Nat))(F:Fr)(M:Fr->HP->Prop):Qg:=fun aC hp'=>∃J,cA aC (bu W J F)/\M J hp'
theorem uI{W:List (Nat×Nat)}{F J:Fr}{M:Fr->HP->Prop}(h:M J hp):ny W F M (bu W J F) hp:=⟨J,cA.refl _,h⟩
theorem Dc{W:List (Nat×Nat)}{F:Fr}{M:Fr->HP->Prop}:KM (ny W F M) (ny W F M):=by rintro f f' hp hf ⟨J,h1,h3⟩;exact⟨J,hf.trans h1,h3⟩
theorem We{sk:List It}{W:List (Nat×Nat)}{F:Fr}{I:Nat->Fr->HP->Prop}{n:Nat}(h:fC R sk):fC R (.el (AM W F I n)::sk):=⟨h.1,.el agV h.2⟩
theorem PG{sk:List It}{W:List (Nat×Nat)}{F:Fr}{M:Fr->HP->Prop}(h:fC R sk):fC R (.el (ny W F M)::sk):=⟨h.1,.el Dc h.2⟩
theorem Ri{sk:List It}{i:Nat}(h:fC R sk):fC R (.eb i::sk):=⟨h.1,.eb i h.2⟩
theorem RX{sk:List It}{s:SC}(h:fC R sk):fC R (.c s::sk):=⟨h.1,.c s h.2⟩
theorem RY{sk:List It}{s:RT}(h:fC R sk):fC R (.o s::sk):=⟨h.1,.o s h.2⟩
theorem Vf{sk:List It}{I:Nat->Qg}{n:Nat}(h:fC R sk):fC R (.el (AD I n)::sk):=⟨h.1,.el (fun f f' hp hf ⟨a,b,h1,h2⟩=>⟨a,b,hf.wk.trans h1,h2⟩) h.2⟩
theorem Rj{rs:List RV}{Rr:PV->Prop}:KM (gG rs Rr) (gG rs Rr):=by
 have one:∀(f f':Fr)(hp:HP)(r:RV),cA f f'->lN f' hp r->lN f hp r/\kV f' hp r=kV f hp r:=by
  intro f f' hp r hf ho;cases r with
  |t s=>
   simp only[lN,kV]at ho⊢;rcases hf s with e|e
   ·rw[e]at ho ⊢;exact⟨ho,rfl⟩
   ·rw[e]at ho;simp[Qr,cx,PV.aG]at ho
  |cell s n ag=>
   simp only[lN,kV]at ho⊢;rcases hf s with e|e
   ·rw[e]at ho ⊢;exact⟨ho,rfl⟩
   ·rw[e]at ho;exact ho.elim
 intro f f' hp hf h;unfold gG at h⊢;split at h
 ·rename_i r;obtain⟨h1,h2⟩:=h;obtain⟨g1,g2⟩:=one f f' hp r hf h1;rw[g2]at h2;exact⟨g1,h2⟩
 ·obtain⟨h1,h2⟩:=h;have e:rs.map (kV f' hp)=rs.map (kV f hp):=KaX fun r hr=>(one f f' hp r hf (h1 r hr)).2;rw[e]at h2;exact⟨fun r hr=>(one f f' hp r hf (h1 r hr)).1,h2⟩
theorem agW{rs:List RV}{ty:TypeId}{len:Nat}{bm:PV->List PV->Prop}:KM (uY rs ty len bm) (uY rs ty len bm):=by
 rintro f f' hp hf ⟨xs',h1,h2,h3,h4⟩;refine⟨xs',h1,h2,h3,?_⟩;rcases h4 with h4|⟨s,o,n,h4,h5,h6⟩
 ·exact .inl (Rj _ _ _ hf h4)
 ·refine .inr ⟨s,o,n,h4,?_,h6⟩;rcases hf s with e|e
  ·rw[<-e];exact h5
  ·rw[h5]at e;cases e
theorem agX{rs:List RV}{ty:TypeId}{bm:List PV->Prop}:KM (AL rs ty bm) (AL rs ty bm):=by
 rintro f f' hp hf ⟨s,O,n,xs,h1,h2,h3⟩;refine⟨s,O,n,xs,h1,?_,h3⟩;rcases hf s with e|e
 ·rw[<-e];exact h2
 ·rw[h2]at e;cases e
theorem PH{rs:List RV}{Rr:PV->Prop}:fC (gG rs Rr) []:=⟨Rj,.nil⟩
theorem Wf{rs:List RV}{ty:TypeId}{len:Nat}{bm:PV->List PV->Prop}:fC (uY rs ty len bm) []:=⟨agW,.nil⟩
theorem Wh{rs:List RV}{ty:TypeId}{bm:List PV->Prop}:fC (AL rs ty bm) []:=⟨agX,.nil⟩
theorem jt{sk:List It}{x:SC}(i O e ty:Nat)(he:0<e)(hi:fr i= .ab)(h:vc C R (.c (.loop x)::sk) (ae (bZ O fr) i (.ms O 0)) (Qj hp O ⟨e,ty,[],false⟩))(hB:bW O=false:=by decide):vc C R (.c (.loop x)::sk) fr hp:=by rw[z8]at h⊢;obtain⟨I,μ,⟨aO,aA,h1,gJ⟩,h2⟩:=h;exact⟨I,μ,⟨aO,aA,(RS i O e ty he hi hB).trans h1,gJ⟩,h2⟩
end Go.FW
namespace Go.FW
open Go
variable {C : Ctx} {fr : Fr} {hp : HP} {w : World} {K R : Qg}
theorem Q33{P:Program}{f:FuncId}{k:IntKind}{x:Int}{r:PV}{v:Value}(hg:lT P f)(h:∀w,Calls P f #[.int k x] w fun e w'=>e= .returned v/\w'=w)(hr:∀w X,eX w X r v):Qb P f [.int k x] (· =r):=by
 refine⟨hg,fun w X aR hX hs gA=>?_⟩;have h0:∀u,Qn w X (.int k x) u->u= .int k x:=fun u hu=>by cases hu;rfl
 have e:aR= #[.int k x]:=by
  have h1:aR.getD 0 undef= .int k x:=h0 _ (gA 0 _ rfl);apply Array.ext
  ·simpa using hs
  ·intro i hi aE;have sr:i=0:=by simp at aE;omega
   subst sr;simpa[Array.getD,hi]using h1
 rw[e];refine(h w).mono ?_;rintro e w' ⟨rfl,rfl⟩;exact⟨v,r,rfl,Ext.refl _ _,hr _ _,rfl⟩
end Go.FW
namespace Go.FW
open Go
variable {C : Ctx} {fr : Fr} {hp : HP} {w : World} {K R : Qg}
theorem aer(a b:Nat)(Et:a≠b)(h:HP)(v w:HB):Qj (Qj h a v) b w=Qj (Qj h b w) a v:=by
 funext c;unfold Qj;by_cases h1:c=a
 ·subst h1;simp[Et]
 ·simp[h1]
theorem PI{x y:RT}{sk:List It}(bd:fC R sk)(W:List (Nat×Nat))(B:List Nat)(M:Fr->HP->Prop)
  (h:rX C R x y (.el (ny W (Q7 B fr) M)::sk) (bu W fr (Q7 B fr)) hp) (hM:∀J hp,M J hp->vc C R sk (bu W J (Q7 B fr)) hp):rX C R x y sk fr hp:=by
 have key:∀(r:RT),vc C R (.o r:: .el (ny W (Q7 B fr) M)::sk) (bu W fr (Q7 B fr)) hp->vc C R (.o r::sk) fr hp:=by
  intro r hr;refine As (M:=ny W (Q7 B fr) M) ?_ _ [.o r] _ _ (Kae _) ?_
  ·rintro aC hp' ⟨J,h1,h2⟩;exact rC bd.1 _ _ _ _ _ _ (Kae _) bd.2 h1 (hM J hp' h2)
  ·exact rC bd.1 _ _ _ _ _ _ (Kae _) (.o r (.el Dc bd.2)) (Hu W B) hr
 exact⟨key x h.1,key y h.2⟩
theorem Q7l{V W P v1 v2 v0 hi u2 w0:Nat}(hV:V=(v1*65536+v2)*P+v0)(hW:W=(hi*65536+u2)*P+w0)(JA:w0<P)(N9:u2<65536)(h1:0<v1):W<(hi/v1+1)*V:=by
 have e1:hi+1<=(hi/v1+1)*v1:=by have:=Kbv hi v1;have:=KbC hi h1;rw[KaM,Ka5];omega
 have e2:W<(hi+1)*65536*P:=by have:(hi*65536+u2+1)*P<=(hi+1)*65536*P:=Kam _ (by omega);rw[KaM _ 1]at this;omega
 refine KaE e2 ?_
 calc (hi+1)*65536*P<=((hi/v1+1)*v1)*65536*P:=Kam _ (Kam _ e1)
  _=(hi/v1+1)*(v1*65536*P):=by rw[Kbo,Kbo,Kbo]
  _<=(hi/v1+1)*V:=Kbf _ (by rw[hV,KaM];omega)
theorem agY{V W P v1 v2 v0 hi u2 w0 d r:Nat}(hV:V=(v1*65536+v2)*P+v0)(hW:W=(hi*65536+u2)*P+w0)(JA:w0<P)(hd:d*v1+r=hi)(ht:r*65536+u2<d*v2):W<d*V:=by
 have h1:hi*65536+u2+1<=d*(v1*65536+v2):=by rw[Ka0,<-Nat.mul_assoc,<-hd,KaM];omega
 have h2:W<(hi*65536+u2+1)*P:=by rw[hW,KaM _ 1];omega
 refine KaE h2 (KaQ (Kam _ h1) ?_);rw[Kbo];exact Kbf _ (by rw[hV];exact Nat.le_add_right _ _)
theorem agZ{V W P v1 v2 v0 hi u2 w0 e r:Nat}(hV:V=(v1*65536+v2)*P+v0)(hW:W=(hi*65536+u2)*P+w0)(Fu:v0<P)(zy:1<=v1)(he:e+1<65536)(hd:(e+1)*v1+r=hi)(ht:¬r*65536+u2<(e+1)*v2):e*V<=W:=by
 have h1:(e+1)*(v1*65536+v2)<=hi*65536+u2:=by rw[Ka0,<-Nat.mul_assoc,<-hd,KaM ((e+1)*v1)];omega
 have h2:e*v0<=(v1*65536+v2)*P:=KbU (by omega) (by omega)
 calc e*V=e*(v1*65536+v2)*P+e*v0:=by rw[hV,Ka0,Kbo]
  _<=e*(v1*65536+v2)*P+(v1*65536+v2)*P:=Nat.add_le_add_left h2 _
  _=(e+1)*(v1*65536+v2)*P:=by rw[KaM e,KcE,KaM (e*_)]
  _<=(hi*65536+u2)*P:=Kam _ h1
  _<=W:=by rw[hW];exact Nat.le_add_right _ _
theorem ag0{V W P v1 v2 v0 hi u2 w0:Nat}(hV:V=(v1*65536+v2)*P+v0)(hW:W=(hi*65536+u2)*P+w0)(Fu:v0<P)(h:W<65536*V)(hP:0<P):hi<=v1*65536+v2:=by
 have h1:hi*(65536*P)<(v1*65536+v2+1)*(65536*P):=by
  have e1:hi*(65536*P)<=W:=by rw[hW,KaM,Kbo];omega
  have e2:V<=(v1*65536+v2+1)*P:=by rw[hV,KaM _ 1];omega
  have e3:65536*V<=65536*((v1*65536+v2+1)*P):=Kbf _ e2;rw[KbL]at e3;omega
 have:=Nat.lt_of_mul_lt_mul_right h1;omega
theorem TA:∀(a:List Nat)(q b:Nat),(fR a [] q 0 b).2.1=0
 | [],_,_=>rfl
 |x::xs,q,b=>by simp only[fR,List.headD_nil,Kb4,List.tail_nil];exact TA xs q _
theorem Vg:∀(a v:List Nat)(q c b:Nat),v.length<a.length->c<65536->q<65536->Qi v->(fR a v q c b).2.1=0
 | [],_,_,_,_,h,_,_,_=>by simp at h
 |x::xs,[],q,c,b,h,hc,hq,hv=>by simp only[fR,List.headD_nil,Kb4,List.tail_nil,KaP];rw[Kcy hc];exact TA xs q _
 |x::xs,y::ys,q,c,b,h,hc,hq,hv=>by rw[iC]at hv;simp only[fR,List.headD_cons,List.tail_cons];refine Vg xs ys q _ _ (by simpa using h) ?_ hq hv.2;have:=we hq hv.1;omega
theorem G2{l:List Nat}{k:Nat}(h:val l<65536^k):val (l.drop k)=0:=by
 rcases Kb1 k l.length with hk|hk
 ·have:=rf l k (by omega);have:65536^k*val (l.drop k)<65536^k*1:=by omega
  have:=Nat.lt_of_mul_lt_mul_left this;omega
 ·rw[Kat hk];rfl
theorem Rk{l:List Nat}{n:Nat}(h:l.length=n+2):val l=(l.getD (n+1) 0*65536+l.getD n 0)*65536^n+val (l.take n):=by have e:=rf l n (by omega);rw[nd (by omega),nd (by omega),Kat (by omega)]at e;rw[e,gQ (by omega),gQ (by omega),val,Kb4,KaP,Ka5 (65536^n)];rw[Ka5 65536,Kb2 (l[n]),Kb2]
theorem amv:
  (∀(O:Nat)(cs:List PV),bU O (.pt cs)= .pt cs)/\(∀(O:Nat),bU O .undef= .undef)/\(∀(O:Nat)(cs:List PV),bU O (.aK cs)= .aK cs)/\
  (∀(cs:List PV),(PV.pt cs).refs=[])/\(PV.undef.refs=[])/\(∀(cs:List PV),(PV.aK cs).refs=[])/\
  (∀(hp:HP)(cs:List PV),Qr hp (.pt cs)= .pt cs)/\(∀(hp:HP)(cs:List PV),Qr hp (.aK cs)= .aK cs)/\
  (∀(O f:Nat)(a b:List PV),bU O (.fn f a b)=if(a.flatMap PV.bS++b.flatMap PV.bS).contains O then .undef else .fn f a b)/\
  (∀(O o n:Nat),(PV.ax O o n).bS=[O])/\(∀(O o n:Nat),(PV.rb O o n).bS=[O])/\(∀(O o n:Nat),(PV.mp O o n).bS=[O])/\
  (∀(k:IntKind)(n:Int),(PV.int k n).bS=[])/\(∀(b:Bool),(PV.bool b).bS=[])/\(∀(e:Nat)(xs:List PV),(PV.sl e xs).bS=[])/\(PV.ab.bS=[])/\(∀(xs:List PV),(PV.pt xs).bS=[]):=by
 refine⟨fun _ _=>rfl,fun _=>rfl,fun _ _=>rfl,fun _=>rfl,rfl,fun _=>rfl,fun _ _=>rfl,fun _ _=>rfl,fun _ _ _ _=>rfl,fun _ _ _=>rfl,fun _ _ _=>rfl,fun _ _ _=>rfl,fun _ _=>rfl,fun _=>rfl,fun _ _=>rfl,rfl,fun _=>rfl⟩
theorem awC:
  (∀(ty d e:Nat)(xs:List PV)(fr:Fr)(hp:HP)(K:Qg),fQ 1 ty (.sl e xs) d fr hp K=K (ae (bZ d fr) d (.mp d 0 0)) (Qj hp d ⟨1,ty,[.sl e xs],false⟩))/\
  (∀(ty d:Nat)(k:IntKind)(x:Int)(fr:Fr)(hp:HP)(K:Qg),fQ 1 ty (.int k x) d fr hp K=K (ae (bZ d fr) d (.mp d 0 0)) (Qj hp d ⟨1,ty,[.int k x],false⟩))/\
  (∀(ty d:Nat)(x:Bool)(fr:Fr)(hp:HP)(K:Qg),fQ 1 ty (.bool x) d fr hp K=K (ae (bZ d fr) d (.mp d 0 0)) (Qj hp d ⟨1,ty,[.bool x],false⟩))/\
  (∀(ty d:Nat)(fr:Fr)(hp:HP)(K:Qg),fQ 1 ty .ab d fr hp K=K (ae (bZ d fr) d (.mp d 0 0)) (Qj hp d ⟨1,ty,[.ab],false⟩))/\
  (∀(n ty d o m:Nat)(fr:Fr)(hp:HP)(K:Qg),fQ n ty (.ax 1000000 o m) d fr hp K=K (ae fr d (.rb 1000000 o m)) hp)/\
  (∀(n ty d:Nat)(x:PV)(cs:List PV)(fr:Fr)(hp:HP)(K:Qg),fQ n ty (.agg (x::cs)) d fr hp K=(cs.length+1=n/\K (ae (bZ d fr) d (.mp d 0 0)) (Qj hp d ⟨n,ty,[.agg (x::cs)],false⟩)))/\
  (∀(ty d:Nat)(x:PV)(fz:Bool)(fr:Fr)(hp:HP)(K:Qg),jm (some ⟨1,ty,[x],fz⟩) 1 false 0 0 d fr hp K=K (ae fr d (eZ false 1 0 x)) hp)/\
  (∀(ty O e:Nat)(x:PV)(xs:List PV)(fr:Fr)(hp:HP)(K:Qg),stM (some ⟨1,ty,[x],false⟩) O 1 0 0 (.sl e xs) fr hp K=K fr (Qj hp O ⟨1,ty,[.sl e xs],false⟩))/\
  (∀(ty O:Nat)(x:PV)(k:IntKind)(y:Int)(fr:Fr)(hp:HP)(K:Qg),stM (some ⟨1,ty,[x],false⟩) O 1 0 0 (.int k y) fr hp K=K fr (Qj hp O ⟨1,ty,[.int k y],false⟩))/\
  (∀(ty O:Nat)(x:PV)(y:Bool)(fr:Fr)(hp:HP)(K:Qg),stM (some ⟨1,ty,[x],false⟩) O 1 0 0 (.bool y) fr hp K=K fr (Qj hp O ⟨1,ty,[.bool y],false⟩))/\
  (∀(ty O:Nat)(x:PV)(fr:Fr)(hp:HP)(K:Qg),stM (some ⟨1,ty,[x],false⟩) O 1 0 0 .ab fr hp K=K fr (Qj hp O ⟨1,ty,[.ab],false⟩))/\
  (∀(e:Nat)(xs:List PV),eZ false 1 0 (.sl e xs)= .sl e xs)/\(∀(k:IntKind)(x:Int),eZ false 1 0 (.int k x)= .int k x)/\(∀(x:Bool),eZ false 1 0 (.bool x)= .bool x)/\(eZ false 1 0 .ab= .ab):=by
 have fz:∀hp:HP,Q6 hp []=hp:=fun _=>rfl;refine⟨fun _ _ _ _ _ _ _=>?_,fun _ _ _ _ _ _ _=>?_,fun _ _ _ _ _ _=>?_,fun _ _ _ _ _=>?_,fun _ _ _ _ _ _ _ _=>alL (by decide),fun n ty d x cs fr hp K=>?_,fun _ _ _ _ _ _ _=>?_,fun _ _ _ _ _ _ _ _=>?_,fun _ _ _ _ _ _ _ _=>?_,fun _ _ _ _ _ _ _=>?_,fun _ _ _ _ _ _=>?_,fun _ _=>rfl,fun _ _=>rfl,fun _=>rfl,rfl⟩
 ·simp[fQ,Qr,cx,PV.aG,PV.cells,PV.refs,fz]
 ·simp[fQ,Qr,cx,PV.aG,PV.cells,PV.refs,fz]
 ·simp[fQ,Qr,cx,PV.aG,PV.cells,PV.refs,fz]
 ·simp[fQ,Qr,cx,PV.aG,PV.cells,PV.refs,fz]
 ·apply propext;simp only[fQ,Qr,cx,PV.aG,PV.cells,PV.refs,Kaz,fz];exact⟨fun⟨_,h1,_,h2⟩=>⟨h1,h2⟩,fun⟨h1,h2⟩=>⟨trivial,h1,by omega,h2⟩⟩
 all_goals simp[jm,stM,PV.aG,PV.cells]
end Go.FW
namespace Go.FW
theorem amw{l:List Nat}{j n V:Nat}(hl:Qi l)(hlen:j+n+3<=l.length)(hV:V<=65536^(n+2))(hz:val (l.drop (j+1))<V):
  ∃pre w post,l=pre++(w++post)/\pre.length=j/\w.length=n+3/\Qi pre/\Qi w/\Qi post/\val post=0/\val (l.drop j)=val w/\val w<65536*V/\
   ∃w0,w0<65536^n/\val w=((l.getD (j+(n+2)) 0*65536+l.getD (j+(n+1)) 0)*65536+l.getD (j+n) 0)*65536^n+w0:=by
 have iL:val (l.drop (j+n+3))=0:=by have:=G2 (l:=l.drop (j+1)) (k:=n+2) (by omega);rw[List.drop_drop]at this;rw[<-this];congr 2;omega
 have hw:Qi ((l.drop j).take (n+3)):=z' (Cw hl j) _;have kq:((l.drop j).take (n+3)).length=n+3:=by simp;omega
 have jl:l.drop j=(l.drop j).take (n+3)++l.drop (j+n+3):=by have:=(Kbk (n+3) (l.drop j)).symm;rw[List.drop_drop]at this;exact this
 have dT:val (l.drop j)=val ((l.drop j).take (n+3)):=by
  conv=>lhs;rw[jl]
  rw[n9,iL,Kb4,KaP]
 have eR:∀i,i<n+3->((l.drop j).take (n+3)).getD i 0=l.getD (j+i) 0:=by intro i hi;simp[Kac,Kcq,hi]
 refine⟨l.take j,(l.drop j).take (n+3),l.drop (j+n+3),?_,by simp;omega,kq,z' hl j,hw,Cw hl _,iL,dT,?_,?_⟩
 ·rw[<-jl,Kbk]
 ·rw[<-dT,nd (by omega)];have:=fe hl (show j<l.length by omega);omega
 ·refine⟨val (((l.drop j).take (n+3)).take n),vZ hw n (by omega),?_⟩;rw[Rk (n:=n+1) kq,eR _ (by omega),eR _ (by omega),Ck (by omega)];rw[<-gQ,eR _ (by omega),KbH];generalize l.getD (j+(n+1)) 0=a;generalize l.getD (j+n) 0=b;generalize l.getD (j+(n+1+1)) 0=c;rw[KaM _ b,Kbo _ 65536,Ka5 65536 (65536^n),Ka5 (65536^n) b];omega
theorem aes{U V L qs W R q pre B:Nat}(hU:U=L+V*(65536*B*qs))(hL:L=pre+B*W)(hW:W=q*V+R):U=(pre+B*R)+V*(B*(q+65536*qs)):=by
 subst hW hL;rw[hU,Ka0 B,Ka0 B q,Ka0 V];have e1:B*(q*V)=V*(B*q):=by rw[Ka5 q V,KbL]
 have e2:V*(65536*B*qs)=V*(B*(65536*qs)):=by rw[Ka5 65536 B,Kbo]
 omega
open Go
variable {C : Ctx} {fr : Fr} {hp : HP} {w : World} {K R : Qg}
theorem eW{x y:RT}{sk:List It}(h1:vc C R (.o x::sk) fr hp)(h2:vc C R (.o y::sk) fr hp):rX C R x y sk fr hp:=⟨h1,h2⟩
theorem ajg{x y:RT}{sk:List It}{W:List (Nat×Nat)}{J F:Fr}(P:Fr->Prop)(h0:P J)(h:∀J,P J->rX C R x y sk (bu W J F) hp):rX C R x y sk (bu W J F) hp:=h J h0
theorem PJ{sk:List It}{x:SC}(bd:fC R sk)(W:List (Nat×Nat))(B:List Nat)(I:Nat->Fr->HP->Prop)(m0:Nat)(h0:I m0 fr hp)
  (h:∀F,F=Q7 B fr->∀m J hp,I m J hp->vc C R (.c x:: .el (AM W F I m)::sk) (bu W J F) hp):vc C R (.c (.loop x)::sk) fr hp:=
 Qm bd W B I m0 h0 (h _ rfl)
theorem ag1{x y:RT}{sk:List It}{W0:List (Nat×Nat)}{J0 F0:Fr}(bd:fC R sk)(B:List Nat)(M:Fr->HP->Prop)
  (h:∀F,F=Q7 B F0->rX C R x y (.el (ny W0 F M)::sk) (bu W0 J0 F) hp) (hM:∀J hp,M J hp->vc C R sk (bu W0 J (Q7 B F0)) hp):rX C R x y sk (bu W0 J0 F0) hp:=by
 have hle:cA (bu W0 J0 F0) (bu W0 J0 (Q7 B F0)):=fun s=>by
  unfold bu Q7;split
  ·exact .inl rfl
  ·split
   ·exact .inr rfl
   ·exact .inl rfl
 have key:∀(r:RT),vc C R (.o r:: .el (ny W0 (Q7 B F0) M)::sk) (bu W0 J0 (Q7 B F0)) hp->vc C R (.o r::sk) (bu W0 J0 F0) hp:=by
  intro r hr;refine As (M:=ny W0 (Q7 B F0) M) ?_ _ [.o r] _ _ (Kae _) ?_
  ·rintro aC hp' ⟨J,h1,h2⟩;exact rC bd.1 _ _ _ _ _ _ (Kae _) bd.2 h1 (hM J hp' h2)
  ·exact rC bd.1 _ _ _ _ _ _ (Kae _) (.o r (.el Dc bd.2)) hle hr
 exact⟨key x (h _ rfl).1,key y (h _ rfl).2⟩
theorem Q7m{aC:Fr}{K':Qg}{p:PV}{s:Nat}{want:Bool}{o:cI}(h:cA fr aC)(hK:KM K' K):iT C p s want o aC hp K'->iT C p s want o fr hp K:=by
 unfold iT;split
 ·exact fun H=>⟨fun t=>Me (h.jq _ _) hK o (H.1 t),fun t=>Hg (h.jq _ _) hK o (H.2 t)⟩
 ·exact Hg h hK o
 ·exact id
theorem Q34{p:PV}{s:Nat}{want:Bool}{o:cI}{r:RT}{sk:List It}(bd:fC R sk)(W:List (Nat×Nat))(B:List Nat)(M:Fr->HP->Prop)
  (h:iT C p s want o (bu W fr (Q7 B fr)) hp (vc C R (.o r:: .el (ny W (Q7 B fr) M)::sk))) (hM:∀J hp,M J hp->vc C R sk (bu W J (Q7 B fr)) hp):iT C p s want o fr hp (vc C R (.o r::sk)):=by
 refine Q7m (Hu W B) (fun f f' hp hf H=>?_) h;have H':=rC bd.1 _ _ _ _ _ _ (Kae _) (.o r (.el Dc bd.2)) hf H;refine As (M:=ny W (Q7 B fr) M) ?_ _ [.o r] _ _ (Kae _) H';rintro aC hp' ⟨J,h1,h2⟩;exact rC bd.1 _ _ _ _ _ _ (Kae _) bd.2 h1 (hM J hp' h2)
theorem W8:(∀(a b c:Nat),(PV.mp a b c).mg=true)/\(∀(a b c:Nat),(PV.ax a b c).mg=true)/\(∀(a b c:Nat),(PV.rb a b c).mg=true)/\(∀(k:IntKind)(n:Int),(PV.int k n).mg=true)/\
  (∀b,(PV.bool b).mg=true)/\(PV.ab.mg=true)/\(∀(e:Nat)(xs:List PV),(PV.sl e xs).mg=true)/\(∀(xs:List PV),(PV.pt xs).mg=true):=
 ⟨fun _ _ _=>rfl,fun _ _ _=>rfl,fun _ _ _=>rfl,fun _ _=>rfl,fun _=>rfl,rfl,fun _ _=>rfl,fun _=>rfl⟩
end Go.FW
namespace Go.FW
def Gy(V W:List (Nat×Nat)):Bool:=V.all fun p=>W.any fun q=>decide (q.1<=p.1)&&decide (p.2<=q.2)
theorem aet{V W:List (Nat×Nat)}(h:Gy V W=true){s:Nat}(hs:mX V s=true):mX W s=true:=by
 induction V with
 |nil=>cases hs
 | cons p V ih=>
  simp only[Gy,List.all_cons,Ka2]at h;rw[Ht,KbE]at hs;rcases hs with hs|hs
  ·obtain⟨q,hq,qS⟩:=KaU.1 h.1;simp only[Ka2,decide_eq_true_eq]at qS hs;clear h ih;induction W with
   |nil=>cases hq
   |cons r W ih=>
    rw[Ht,KbE];rcases KaH.1 hq with rfl|hq
    ·left;simp only[Ka2,decide_eq_true_eq];omega
    ·right;exact ih hq
  ·exact ih h.2 hs
theorem Qzt{B B':List Nat}{F:Fr}(h:B.all B'.contains=true):Q7 B (Q7 B' F)=Q7 B' F:=by
 funext s;by_cases h1:(F s).refs.any B'.contains=true
 ·have:Q7 B' F s= .undef:=if_pos h1;show(if(Q7 B' F s).refs.any B.contains=true then PV.undef else Q7 B' F s)=_;rw[this];rfl
 ·have:Q7 B' F s=F s:=if_neg h1;show(if(Q7 B' F s).refs.any B.contains=true then PV.undef else Q7 B' F s)=_;rw[this,if_neg];intro h2;obtain⟨x,hx,lI⟩:=KaU.1 h2;exact h1 (KaU.2 ⟨x,hx,Kav.1 h x (by simpa using lI)⟩)
theorem uJ{V W:List (Nat×Nat)}{X Z F:Fr}(h:Gy V W=true):bu V X (bu W Z F)=bu W (bu V X Z) F:=by
 funext s;unfold bu;by_cases h1:mX V s=true
 ·simp[h1,aet h h1]
 ·simp[h1]
theorem amx{W V S d:Nat}(hs:S+d*V=W)(Nt:W<(d+1)*V):S<V/\W=d*V+S:=by rw[KaM]at Nt;omega
theorem ajh{W V B S e k res:Nat}(hs:S+(e+1)*V=W+B)(hS:S<B)(X4:e*V<=W)(hr:res+B*k=S+V)(fq:res<B)(hWB:W<B):res<V/\W=e*V+res:=by
 rw[KaM,KcE]at hs;generalize e*V=x at *
 have hk:k=1:=by
  match k,hr with
  |0,hr=>omega
  |1,_=>rfl
  |k+2,hr=>
   have:B*(k+2)=B*k+B+B:=by rw[Ka0];omega
   omega
 subst hk;omega
theorem Wi{pre R post qs:List Nat}{j q U V L W:Nat}(hp:pre.length=j)(iL:val post=0)(hU:U=L+V*(65536^(j+1)*val qs))(hL:L=val pre+65536^j*W)(hW:W=q*V+val R):
  val ((pre++(R++post)).drop j)=val R/\U=val (pre++(R++post))+V*(65536^j*val (q::qs)):=by
 have e:(pre++(R++post)).drop j=R++post:=by rw[<-hp,List.drop_left]
 have e2:val (R++post)=val R:=by rw[n9,iL,Kb4,KaP]
 refine⟨by rw[e,e2],?_⟩;rw[n9,e2,hp,val];exact aes (by rw[hU,KbH,Ka5 (65536^j)]) hL hW
theorem HX{j q:Nat}{qs:List Nat}:(List.replicate (j+1) 0++qs).set j q=List.replicate j 0++(q::qs):=by rw[List.replicate_succ',Ka8,List.singleton_append,pq (by simp)]
open Go
variable {C : Ctx} {fr : Fr} {hp : HP} {w : World} {K R : Qg}
theorem awD:(∀(C:Ctx)(d:Nat)(ng:Bool)(x y:aM)(fr:Fr)(hp:HP)(K:Qg),bA C (.eqs d ng x y) fr hp K=tB ng (ev fr x) (ev fr y) d fr hp K)/\
  (∀(k l:IntKind)(x y x' y':Int)(d:Nat)(fr:Fr)(hp:HP)(K:Qg),tB false (.agg [.int k x,.int l y]) (.agg [.int k x',.int l y']) d fr hp K=K (ae fr d (.bool (decide (x=x')&&decide (y=y')))) hp)/\
  (∀(k l:IntKind)(x y x' y':Int)(d:Nat)(fr:Fr)(hp:HP)(K:Qg),tB true (.agg [.int k x,.int l y]) (.agg [.int k x',.int l y']) d fr hp K=K (ae fr d (.bool (!(decide (x=x')&&decide (y=y'))))) hp):=
 ⟨fun _ _ _ _ _ _ _ _=>rfl,fun _ _ _ _ _ _ _ _ _ _=>by simp[tB],fun _ _ _ _ _ _ _ _ _ _=>by simp[tB]⟩
theorem awE:(∀(C:Ctx)(d:Nat)(ng:Bool)(x y:aM)(fr:Fr)(hp:HP)(K:Qg),bA C (.zP d ng x y) fr hp K=tC ng (ev fr x) (ev fr y) d fr hp K)/\
  (∀(C:Ctx)(d:Nat)(x:aM)(fr:Fr)(hp:HP)(K:Qg),bA C (.Gh d x) fr hp K=yx (ev fr x) d fr hp K)/\
  (∀(C:Ctx)(d:Nat)(x i:aM)(fr:Fr)(hp:HP)(K:Qg),bA C (.Gg d x i) fr hp K=wH (ev fr x) (ev fr i) d fr hp K)/\
  (∀(x y:ByteArray)(d:Nat)(fr:Fr)(hp:HP)(K:Qg),tC false (.str x) (.str y) d fr hp K=K (ae fr d (.bool (decide (x=y)))) hp)/\
  (∀(x y:ByteArray)(d:Nat)(fr:Fr)(hp:HP)(K:Qg),tC true (.str x) (.str y) d fr hp K=K (ae fr d (.bool (!decide (x=y)))) hp)/\
  (∀(x:ByteArray)(d:Nat)(fr:Fr)(hp:HP)(K:Qg),yx (.str x) d fr hp K=K (ae fr d (.int .i64 x.size)) hp):=
 ⟨fun _ _ _ _ _ _ _ _=>rfl,fun _ _ _ _ _ _=>rfl,fun _ _ _ _ _ _ _=>rfl,fun _ _ _ _ _ _=>by simp[tC],fun _ _ _ _ _ _=>by simp[tC],fun _ _ _ _ _=>rfl⟩
theorem amy{s:ByteArray}{k:IntKind}{i:Nat}{d:Nat}(h:i<s.size):wH (.str s) (.int k i) d fr hp K=K (ae fr d (.int .u8 (s.get! i).toNat)) hp:=by simp[wH,h]
theorem ag2{α:Type}{f:α->PV}{e d:Nat}{k:IntKind}{xs:List α}(h:0<xs.length):dt e (.sl e (xs.map f)) (.int k 0) d fr hp K=K (ae fr d (.pt (f (xs[0]'h)).cells)) hp:=by rw[yf (by omega) (by omega)];rfl
theorem agt{α:Type}{f:α->PV}{e d:Nat}{k:IntKind}{xs:List α}(h:1<xs.length):dt e (.sl e (xs.map f)) (.int k 1) d fr hp K=K (ae fr d (.pt (f (xs[1]'h)).cells)) hp:=by rw[yf (by omega) (by omega)];rfl
theorem agu{e d:Nat}{k:IntKind}{x:PV}{xs:List PV}:dt e (.sl e (x::xs)) (.int k 0) d fr hp K=K (ae fr d (.pt x.cells)) hp:=by rw[J7 (by omega) (by simp only[Kaz];omega)];rfl
theorem agv{e d:Nat}{k:IntKind}{x y:PV}{xs:List PV}:dt e (.sl e (x::y::xs)) (.int k 1) d fr hp K=K (ae fr d (.pt y.cells)) hp:=by rw[J7 (by omega) (by simp only[Kaz];omega)];rfl
def PV.flat:PV->Bool
 |.int .. | .bool _| .ab| .sl .. | .agg _| .pt _| .str _=>true
 |_=>false
theorem agw:∀s,(PV.str s).flat=true:=fun _=>rfl
theorem agx:∀s,(PV.str s).aG=true:=fun _=>rfl
theorem ao7:(∀(k:IntKind)(n:Int),(PV.int k n).flat=true)/\(∀b,(PV.bool b).flat=true)/\(PV.ab.flat=true)/\(∀(e:Nat)(xs:List PV),(PV.sl e xs).flat=true)/\(∀xs,(PV.agg xs).flat=true)/\(∀xs,(PV.pt xs).flat=true):=
 ⟨fun _ _=>rfl,fun _=>rfl,rfl,fun _ _=>rfl,fun _=>rfl,fun _=>rfl⟩
theorem ao8:(∀(k:IntKind)(n:Int),(PV.int k n).aG=true)/\(∀b,(PV.bool b).aG=true)/\(PV.ab.aG=true)/\(∀(e:Nat)(xs:List PV),(PV.sl e xs).aG=true)/\(∀xs,(PV.agg xs).aG=true)/\(∀xs,(PV.pt xs).aG=true):=
 ⟨fun _ _=>rfl,fun _=>rfl,rfl,fun _ _=>rfl,fun _=>rfl,fun _=>rfl⟩
theorem ru{p:PV}(h:p.flat=true):Qr hp p=p/\p.refs=[]/\p.aG=true:=by cases p<;>first|(cases h;done)|exact⟨rfl,rfl,rfl⟩
theorem wz{e ty d:Nat}{ps:List PV}(h:ps.all PV.flat=true)(hl:∀p∈ps,p.cells.length=e)(he:0<e):l7 e ty ps d fr hp K=K (ae (bZ d fr) d (.ms d ps.length)) (Qj hp d ⟨e,ty,ps,false⟩):=by
 have h':=Kav.1 h;have e1:ps.map (Qr hp)=ps:=by
  conv=>rhs;rw[<-List.map_id ps]
  exact KaX fun p hp'=>(ru (h' p hp')).1
 have e2:ps.flatMap PV.refs=[]:=by rw[List.flatMap_eq_nil_iff];exact fun p hp'=>(ru (hp:=hp) (h' p hp')).2.1
 have e3:HO hp e ps:=fun p hp'=>by obtain⟨h1,_,h3⟩:=ru (hp:=hp) (h' p hp');rw[h1];exact⟨h3,hl p hp'⟩
 have BE:ot ps=false:=by
  unfold ot;split
  ·rename_i x;have:=Kav.1 h x (by simp);unfold nn;split
   ·cases this
   ·rfl
  ·rfl
 simp only[l7,BE,KaY,if_false,DU,e1,e2,e3,he,true_and];rfl
theorem bs1{e ty d:Nat}{p:PV}(h:p.flat=true)(hl:p.cells.length=e)(he:0<e):l7 e ty [p] d fr hp K=K (ae (bZ d fr) d (.ms d 1)) (Qj hp d ⟨e,ty,[p],false⟩):=
 wz (by simp[h]) (by simpa using hl) he
theorem bs2{e ty d:Nat}{p q:PV}(h:p.flat=true)(h2:q.flat=true)(hl:p.cells.length=e)(jM:q.cells.length=e)(he:0<e):l7 e ty [p,q] d fr hp K=K (ae (bZ d fr) d (.ms d 2)) (Qj hp d ⟨e,ty,[p,q],false⟩):=
 wz (by simp[h,h2]) (by simp[hl,jM]) he
end Go.FW
namespace Go.FW
theorem Q35{y n s yi:Nat}(hy:(ak y).length=n+2)(xH:(ak y)[n+1]'(by omega)=yi)(h1:2^15<=yi*2^s)(h2:(yi+1)*2^s<=65536):
  (ak (y*2^s)).length=n+2/\32768<=(ak (y*2^s)).getD (n+1) 0/\32768*65536^(n+1)<=y*2^s:=by
 have hl:=Ql y;have e:=rf (ak y) (n+1) (by omega);have ht:=vZ hl (n+1) (by omega);rw[nd (by omega),Kat (by omega),xH,Qw]at e;simp only[val,Kb4,KaP]at e;have g1:32768*65536^(n+1)<=y*2^s:=by
  calc 32768*65536^(n+1)<=(yi*2^s)*65536^(n+1):=Kam _ h1
   _=(65536^(n+1)*yi)*2^s:=by rw[Ka5 (65536^(n+1)),Nat.mul_right_comm]
   _<=y*2^s:=Kam _ (by omega)
 have g2:y*2^s<65536^(n+2):=by
  have hp:0<2^s:=KbY (by omega)
  calc y*2^s<(65536^(n+1)*(yi+1))*2^s:=Nat.mul_lt_mul_of_pos_right (by rw[Ka0];omega) hp
   _=65536^(n+1)*((yi+1)*2^s):=Kbo _ _ _
   _<=65536^(n+1)*65536:=Kbf _ h2
   _=65536^(n+2):=(KbH ..).symm
 have hle:nl (y*2^s)<=n+2:=oe.2 g2;have iw:¬nl (y*2^s)<=n+1:=fun h=>by have:=oe.1 h;omega
 have hlen:(ak (y*2^s)).length=n+2:=by unfold nl at hle iw;omega
 refine⟨hlen,?_,g1⟩;have e2:=rf (ak (y*2^s)) (n+1) (by omega);have Jy:=vZ (Ql (y*2^s)) (n+1) (by omega);rw[nd (by omega),Kat (by omega),Qw]at e2;simp only[val,Kb4,KaP]at e2;have hg:(ak (y*2^s)).getD (n+1) 0=(ak (y*2^s))[n+1]'(by omega):=gQ (by omega);rw[hg];apply Decidable.byContradiction;intro h;have:65536^(n+1)*(ak (y*2^s))[n+1]<=65536^(n+1)*32767:=Kbf _ (by omega);omega
theorem aeu{yi s:Nat}(hs:s<=15)(h1:2^(16-s)<=2*yi)(h2:yi<2^(16-s)):2^15<=yi*2^s/\(yi+1)*2^s<=65536:=by
 have e:2^(16-s)*2^s=65536:=by rw[<-Nat.pow_add,show 16-s+s=16 by omega]
 constructor
 ·have:=Kam (2^s) h1;rw[e,Kbo]at this;omega
 ·rw[<-e];exact Kam _ h2
theorem Q36{x s m n Y:Nat}(hx:(ak x).length=m+2)(hs:s<=15)(ia:n<=m)(hY:32768*65536^(n+1)<=Y):
  ∃u ex,ak (x*2^s)++[0,0]=u++ex/\u.length=m+3/\Qi u/\val u=x*2^s/\ex.length<=2/\val (u.drop (m+3-(n+2)))<Y:=by
 have aav:=qy (Ql x);rw[hx,Qw]at aav;have hp:0<2^s:=KbY (by omega);have xE:2^s<=2^15:=KbD (by omega) hs;have hX:x*2^s<2^s*65536^(m+2):=by rw[Ka5 (2^s)];exact Nat.mul_lt_mul_of_pos_right aav hp
 have xo:x*2^s<65536^(m+3):=by have:2^s*65536^(m+2)<=65536*65536^(m+2):=Kam _ (by omega);rw[KbH 65536 (m+2),Ka5 _ 65536];omega
 have hx1:¬nl (x*2^s)<=m+1:=fun h=>by
  have h2:¬nl x<=m+1:=by unfold nl;omega
  have h3:=gE (show x<=x*2^s from Kce _ hp);omega
 have lI:nl (x*2^s)<=m+3:=oe.2 xo;have sA:Qi (ak (x*2^s)++[0,0]):=o9.2 ⟨Ql _,by intro z hz;simp at hz;omega⟩;have dT:val (ak (x*2^s)++[0,0])=x*2^s:=by rw[n9,Qw];simp[val]
 have hlen:(ak (x*2^s)++[0,0]).length=nl (x*2^s)+2:=by simp[nl]
 generalize ak (x*2^s)++[0,0]=D at *
 have hv:=rf D (m+3) (by omega);have hz:val (D.drop (m+3))=0:=G2 (by omega);have Oa:(D.take (m+3)).length=m+3:=by rw[KaB];omega
 refine⟨D.take (m+3),D.drop (m+3),(Kbk _ _).symm,Oa,z' sA _,by rw[hz]at hv;omega,by rw[KbK];omega,?_⟩;have hu:val (D.take (m+3))=x*2^s:=by rw[hz]at hv;omega
 have vN:=rf (D.take (m+3)) (m+3-(n+2)) (by omega);generalize D.take (m+3)=u at *
 have e:65536^(m+2)=65536^(m+3-(n+2))*65536^(n+1):=by rw[<-Nat.pow_add];congr 1;omega
 have:65536^(m+3-(n+2))*val (u.drop (m+3-(n+2)))<65536^(m+3-(n+2))*(2^s*65536^(n+1)):=by rw[KbL,<-e];omega
 have h4:=Nat.lt_of_mul_lt_mul_left this;have:2^s*65536^(n+1)<=32768*65536^(n+1):=Kam _ xE;omega
open Go
variable {C : Ctx} {fr : Fr} {hp : HP} {w : World} {K R : Qg}
theorem agy{e ty n:Nat}{fz:Bool}{o d:Nat}{x:PV}(h:o+n<=e):jm (some ⟨e,ty,[x],fz⟩) n true 0 o d fr hp K=K (ae fr d (eZ true n o x)) hp:=Rb h (by simp)
theorem agz{e ty:Nat}{fz:Bool}{o d:Nat}{x:PV}(h:o+1<=e):jm (some ⟨e,ty,[x],fz⟩) 1 false 0 o d fr hp K=K (ae fr d (eZ false 1 o x)) hp:=Rb h (by simp)
theorem ao9(n o:Nat)(cs:List PV):eZ true n o (.agg cs)= .agg ((cs.drop o).take n):=rfl
theorem apa(n o:Nat)(cs:List PV):eZ false n o (.agg cs)=(cs.drop o).headD .undef:=rfl
theorem Q7o(n ty O:Nat)(x:PV)(cs:List PV):stM (some ⟨n,ty,[x],false⟩) O n 0 0 (.agg cs) fr hp K=(cs.length=n/\K fr (Qj hp O ⟨n,ty,[.agg cs],false⟩)):=by simp[stM,PV.aG,PV.cells]
theorem agA{e n ty O o:Nat}{x v:PV}(h:v.flat=true)(hn:¬n=e)(hl:v.cells.length=n)(ho:o+n<=e):stM (some ⟨e,ty,[x],false⟩) O n 0 o v fr hp K=K fr (Qj hp O ⟨e,ty,[uh x o v],false⟩):=by have:=(ru (hp:=hp) h).2.2;simp[stM,this,hl,ho,hn]
theorem aji(cs:List PV)(o:Nat)(v:PV):uh (.agg cs) o v= .agg (cs.take o++v.cells++cs.drop (o+v.cells.length)):=rfl
theorem Lr(k:IntKind)(n:Int):(PV.int k n).cells=[.int k n]:=rfl
theorem aev:(PV.ab).cells=[.ab]:=rfl
theorem Le{p:PV}(h:p.flat=true):p.mh=false:=by cases p<;>simp_all[PV.flat,PV.mh]
theorem Hv{z:List PV}{ps:List (Nat×Nat×PV)}{d:Nat}(h:ps.all (fun p=>p.2.2.flat)=true):
  lW z ps d fr hp K=((∀p∈ps,p.2.2.cells.length=p.2.1/\p.1+p.2.1<=z.length)/\K (ae fr d (.agg (iD z (ps.map fun p=>(p.1,p.2.2.cells))))) hp):=by
 have h':=Kav.1 h;have e1:(ps.map fun p=>(p.1,(Qr hp p.2.2).cells))=ps.map fun p=>(p.1,p.2.2.cells):=KaX fun p hp'=>by rw[(ru (h' p hp')).1]
 have e2:(ps.flatMap fun p=>p.2.2.refs)=[]:=by rw[List.flatMap_eq_nil_iff];exact fun p hp'=>(ru (hp:=hp) (h' p hp')).2.1
 have e3:J9 hp z.length ps=(∀p∈ps,p.2.2.cells.length=p.2.1/\p.1+p.2.1<=z.length):=by
  apply propext;constructor
  ·intro H p hp';obtain⟨_,h2,h3⟩:=H p hp';rw[(ru (h' p hp')).1]at h2;exact⟨h2,h3⟩
  ·intro H p hp';obtain⟨h2,h3⟩:=H p hp';obtain⟨g1,_,g3⟩:=ru (hp:=hp) (h' p hp');rw[g1];exact⟨g3,h2,h3⟩
 have e4:ps.any (fun p=>p.2.2.mh)=false:=by rw[KcI];exact fun p hp'=>by simp[Le (h' p hp')]
 simp only[lW,e4,DH,e1,e2,e3,KaY,if_false];rfl
theorem aqo(z:List PV)(d:Nat):lW z [] d fr hp K=K (ae fr d (.agg z)) hp:=by rw[Hv rfl];simp[iD]
theorem aqp{z:List PV}{o n d:Nat}{p:PV}(h:p.flat=true):lW z [(o,n,p)] d fr hp K=((p.cells.length=n/\o+n<=z.length)/\K (ae fr d (.agg (z.take o++p.cells++z.drop (o+p.cells.length)))) hp):=by rw[Hv (by simp[h])];simp[iD]
theorem aqq{z:List PV}{o n o2 n2 d:Nat}{p q:PV}(h:p.flat=true)(h2:q.flat=true):lW z [(o,n,p),(o2,n2,q)] d fr hp K=
  ((p.cells.length=n/\o+n<=z.length)/\(q.cells.length=n2/\o2+n2<=z.length)/\K (ae fr d (.agg (iD z [(o,p.cells),(o2,q.cells)]))) hp):=by
 rw[Hv (by simp[h,h2])];simp[and_assoc]
theorem aqr{z:List PV}{o n o2 n2 o3 n3 d:Nat}{p q r:PV}(h:p.flat=true)(h2:q.flat=true)(h3:r.flat=true):lW z [(o,n,p),(o2,n2,q),(o3,n3,r)] d fr hp K=
  ((p.cells.length=n/\o+n<=z.length)/\(q.cells.length=n2/\o2+n2<=z.length)/\(r.cells.length=n3/\o3+n3<=z.length)/\K (ae fr d (.agg (iD z [(o,p.cells),(o2,q.cells),(o3,r.cells)]))) hp):=by
 rw[Hv (by simp[h,h2,h3])];simp[and_assoc]
theorem aew(c:List PV):iD c []=c:=rfl
theorem Q7p(c xs:List PV)(o:Nat)(r:List (Nat×List PV)):iD c ((o,xs)::r)=iD (c.take o++xs++c.drop (o+xs.length)) r:=rfl
def Iv(p:PV)(hp:HP)(n:Nat)(ag:Bool):PV:=match p with
 |.mp O i o=>match hp O with
  |some hb=>if i<hb.xs.length/\o+n<=hb.e/\(ag=false->n=1)then eZ ag n o ((hb.xs[i]?).getD .undef)else .undef
  |none=>.undef
 |_=>.undef
def gv(fr:Fr)(hp:HP):RV->PV
 |.t s=>Qr hp (fr s)
 |.cell s n ag=>Iv (fr s) hp n ag
def DK(hb:Option HB)(n:Nat)(ag:Bool)(i o:Nat):PV:=match hb with
  |some hb=>if i<hb.xs.length/\o+n<=hb.e/\(ag=false->n=1)then eZ ag n o ((hb.xs[i]?).getD .undef)else .undef
  |none=>.undef
theorem atq(fr:Fr)(hp:HP)(s:Nat):gv fr hp (.t s)=Qr hp (fr s):=rfl
theorem atp(fr:Fr)(hp:HP)(s n:Nat)(ag:Bool):gv fr hp (.cell s n ag)=Iv (fr s) hp n ag:=rfl
theorem agB(hp:HP)(n:Nat)(ag:Bool)(O i o:Nat):Iv (.mp O i o) hp n ag=DK (hp O) n ag i o:=rfl
theorem ajj{e ty n o:Nat}{fz:Bool}{x:PV}(h:o+n<=e):DK (some ⟨e,ty,[x],fz⟩) n true 0 o=eZ true n o x:=by simp[DK,h]
theorem ajk{e ty o:Nat}{fz:Bool}{x:PV}(h:o+1<=e):DK (some ⟨e,ty,[x],fz⟩) 1 false 0 o=eZ false 1 o x:=by simp[DK,h]
theorem Iw{r:RV}(h:(gv fr hp r).aG=true):lN fr hp r/\kV fr hp r=gv fr hp r:=by
 cases r with
 |t s=>exact⟨h,rfl⟩
 | cell s n ag=>
  simp only[gv,lN,kV]at h⊢;cases pY:fr s with
  | mp O i o=>
   rw[pY]at h;simp only[Iv]at h⊢;cases aj:hp O with
   |none=>rw[aj]at h;cases h
   | some hb=>
    rw[aj]at h;simp only at h⊢;split at h
    ·rename_i hc;rw[if_pos hc];exact⟨hc,rfl⟩
    ·cases h
  |_=>rw[pY]at h;cases h
theorem bX{r:RV}{Rr:PV->Prop}(h:yz Rr (gv fr hp r)):gG [r] Rr fr hp:=by obtain⟨h1,h2⟩:=Iw h.1;exact⟨h1,by rw[h2];exact h.2⟩
theorem iW{r s:RV}{Rr:PV->Prop}(h:DJ Rr (gv fr hp r) (gv fr hp s)):gG [r,s] Rr fr hp:=by obtain⟨⟨a,b⟩,c⟩:=h;obtain⟨h1,h2⟩:=Iw a;obtain⟨h3,h4⟩:=Iw b;refine⟨by simp[h1,h3],?_⟩;simp only[Kbn,KbG,h2,h4];exact c
end Go.FW
