/-
  The table of SHA-256's words, as the program's text lays it: what the rows' condition gives the walks.
-/
import Derived.Test.YtoaimcobcgomjaaDoorRows
import Derived.Test.YtoaimcobcgomjaaDoorShaOf
import Derived.ProofKit
import Derived.LaidMore
import Derived.OpenShut
import Derived.Stop.Joined
import Derived.Lib.LaidTab
namespace Go.Proofs.YtoaimcobcgomjaaDoor.Q
open Go.ChangeShapes Go.WideShapes Go.ChangeAt Go.RowKit
theorem own : ownKnob Tryd.prog.godebug = none := by kernel_rfl
theorem laidOut : laidOutB Tryd.prog = true := by kernel_rfl
theorem gK : Tryd.prog.globalNamed "beadroll/sha.k" = some 0 := by kernel_rfl
theorem tK : (Tryd.prog.globals[0]?).map (·.type) = some 59 := by kernel_rfl
/-- The rows' condition. -/
def laidK : List (String × DataW Unit) := [("beadroll/sha.k", Rows.laid_beadroll_sha_k)]
set_option maxRecDepth 100000 in
theorem laidK_tab : laidK = [("beadroll/sha.k", Lib.tabData .u32 K64)] := rfl
/-- The door's own heap meets the condition. -/
theorem door_met (os : Os) (args : Array Value) : laidMetH Tryd.prog laidK ((World.doorLaid Tryd.prog 14 os).forCall (fun _ _ => 0) ⟨#[], args, []⟩).memory :=
  laidMetH_of_parts3 (fuel := 8) (laidMet_of_run' 8 (by kernel_rfl) (by kernel_rfl)) (by kernel_rfl) (by kernel_rfl)
theorem of_laid {W : World} (h : laidMetH Tryd.prog laidK W) : KT W := by
  rw [MakeChecks.laidMetH_plain _ _ _ (by kernel_rfl), laidK_tab] at h
  have hT := Lib.tabIs_of_head gK tK Tryd.underlying59 Tryd.underlying54 (by kernel_rfl) (by kernel_rfl) h
  intro j hj
  have := hT.cell gK j (by exact hj)
  rw [this]
  simp [at_, Go.Proofs.YtoaimcobcgomjaaDoorW.PrintWords.rd]
end Go.Proofs.YtoaimcobcgomjaaDoor.Q
