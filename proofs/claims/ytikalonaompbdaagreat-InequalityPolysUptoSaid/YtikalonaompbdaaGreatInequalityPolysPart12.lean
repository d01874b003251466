/- Part 12 of the proof of InequalityPolys: W1, W2, W3, W4, W5, FwUD. Own lemmas; no conditions. -/
import Derived.Test.YtikalonaompbdaaGreatInequalityPolysPart11
set_option maxHeartbeats 1000000
set_option linter.all false
set_option maxRecDepth 100000
namespace Go.Proofs.YtikalonaompbdaaGreat
open Go Go.FW
end Go.Proofs.YtikalonaompbdaaGreat
namespace Go.FW
open Go
def WX(x y:Int)(hy:y≠0):mkRat (zv (decide (x<0) !=decide (y<0)) (aw x.natAbs)) y.natAbs=(x:Rat)/(y:Rat):=by
 rw[Kcy,vp,<-Rat.intCast_natCast];have h3:(y:Rat)≠0:=by rw[Ne,KbQ];exact hy
 by_cases dZ:y<0
 .have e2:(((y.natAbs:Nat):Int):Rat)= -(y:Rat):=by rw[<-Rat.intCast_neg];congr 1;omega
  have e1:(if(decide (x<0) !=decide (y<0))=true then -(x.natAbs:Int)else x.natAbs)= -x:=by by_cases hx:x<0<;>simp[hx,dZ]<;>omega
  rw[e1,e2,Rat.intCast_neg];grind
 .have e2:(((y.natAbs:Nat):Int):Rat)=(y:Rat):=by congr 1;omega
  have e1:(if(decide (x<0) !=decide (y<0))=true then -(x.natAbs:Int)else x.natAbs)=x:=by by_cases hx:x<0<;>simp[hx,dZ]<;>omega
  rw[e1,e2]
def adK{n m:Bool}{a d b c:List Nat}(hd:val d≠0)(hc:val c≠0)(hb:zv m b≠0):((zv n a*(val c:Int):Int):Rat)/((zv m b*(val d:Int):Int):Rat)=rv n a d/rv m b c:=by
 have h1:((val d:Int):Rat)≠0:=by rw[Ne,KbQ];omega
 have h2:((val c:Int):Rat)≠0:=by rw[Ne,KbQ];omega
 have h3:((zv m b:Int):Rat)≠0:=by rw[Ne,KbQ];exact hb
 unfold rv;rw[Kcy,Kcy,Rat.intCast_mul,Rat.intCast_mul];rw[<-Rat.intCast_natCast,<-Rat.intCast_natCast];grind
end Go.FW
