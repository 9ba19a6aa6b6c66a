/-
  What the lock's functions come to at the examples.
-/
import Derived.Test.YtoncnjnicgfhmabQ2
namespace Go.Proofs.Ytoncnjnicgfhmab.Q
theorem three_val : beadrolllaw26_three.f = some (1, [2, 3]) := by rfl
theorem alive_val : beadrolllaw26_alive.f = some true := by rfl
theorem free3_val : lock_Free.f 1 [2, 3] 3 = some (0, [], 0, 2) := by rfl
theorem take2_val : lock_Take.f 1 [2, 3] 2 = some (0, [], false, 2) := by rfl
theorem take0_val : lock_Take.f 0 [] 0 = some (0, [], false, 2) := by rfl
theorem take17_val : lock_Take.f 0 [] 17 = some (0, [], false, 2) := by rfl
theorem check0_val : lock_Check.f 0 [1] = some 8 := by rfl
theorem check1_val : lock_Check.f 1 [1] = some 8 := by rfl
end Go.Proofs.Ytoncnjnicgfhmab.Q
