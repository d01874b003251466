/- Part 0 of the proof of DiscoverCandidate: N0b. Own lemmas; no conditions. -/
import Derived.Test.YtnhofjeojfgfoaaGreatProg
import Derived.Lib.Strings
import Derived.Lib.Slices
import Derived.Lib.Small
import Derived.Lib.Walk
import Derived.Lib.BitFns
set_option maxHeartbeats 1000000
set_option linter.unusedSimpArgs false
set_option linter.unusedVariables false
set_option linter.unnecessarySimpa false
set_option maxRecDepth 100000
namespace Go.Proofs.YtnhofjeojfgfoaaGreat
set_option maxRecDepth 100000 in
set_option maxHeartbeats 4000000 in
theorem Qlu (x : Int) (w : World) (h0 : 0 <= x) (h1 : x <= 255) :
    Calls Tryz.prog 96 #[.int .u64 x] w fun e w' => e = .returned (.int .i64 (Lib.bitLen x.toNat)) /\ w' = w := by
  have a1 : ¬ 4294967296 <= x := by omega
  have a2 : ¬ 65536 <= x := by omega
  have a3 : ¬ 256 <= x := by omega
  go_enter Tryz.func96, Tryz.ntmps96
  go_wp2
  all_goals (go_ret; refine ⟨congrArg Ending.returned (congrArg (Value.int IntKind.i64) ?_), rfl⟩)
  all_goals
    (rw [Lib.len8_of (x % 256) (by omega) (by omega)]
     have e : (x % 256).toNat = x.toNat := by omega
     have l := Lib.bitLen_le8' (x % 256) (by omega) (by omega);rw [e] at l ⊢;omega)
end Go.Proofs.YtnhofjeojfgfoaaGreat
