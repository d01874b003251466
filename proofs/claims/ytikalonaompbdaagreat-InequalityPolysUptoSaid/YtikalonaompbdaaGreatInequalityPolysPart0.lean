/- Part 0 of the proof of InequalityPolys: N0. Own lemmas; no conditions. -/
import Derived.Test.YtikalonaompbdaaGreatProg
import Derived.Lib.Strings
import Derived.Lib.Slices
import Derived.Lib.Small
import Derived.Lib.Walk
import Derived.Lib.BitFns
set_option maxHeartbeats 1000000
set_option linter.all false
set_option maxRecDepth 100000
namespace Go.Proofs.YtikalonaompbdaaGreat
open Go.Proofs.Tryz
set_option maxHeartbeats 4000000 in
def Q8l(x:Int)(w:World)(h0:0<=x)(h1:x<=65535):
    Calls Tryz.prog 241 #[.int .u16 x] w λe w'=>e= .returned (.int .i64 (Lib.bitLen x.toNat))/\w'=w:=by
  go_enter func241,Tryz.ntmps241
  go_wp2
  all_goals (go_ret;refine⟨congrArg Ending.returned (congrArg (Value.int IntKind.i64) ?_),rfl⟩)
  all_goals first
    | (rw[Lib.len8_of (x/256%256) (by omega) (by omega)]
       have e:(x/256%256).toNat=x.toNat/256:=by omega
       have l:=Lib.bitLen_le8' (x/256%256) (by omega) (by omega);have s:=Lib.bitLen_shift8 x.toNat (by omega) (by omega);rw[e]at l⊢;omega)
    | (rw[Lib.len8_of (x%256) (by omega) (by omega)]
       have e:(x%256).toNat=x.toNat:=by omega
       have l:=Lib.bitLen_le8' (x%256) (by omega) (by omega);rw[e]at l⊢;omega)
end Go.Proofs.YtikalonaompbdaaGreat
