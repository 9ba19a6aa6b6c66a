/-
  A word turned down: sha.turned, beadrollref02.turn: the contracts, by hand.
-/
import Derived.Test.YtoaimcobcgomjaaDoorQ0
namespace Go.Proofs.YtoaimcobcgomjaaDoor.Q
open Go.RowKit Go.Proofs.YtoaimcobcgomjaaDoorW.PrintWords Go.Proofs.YtoaimcobcgomjaaDoorW.PrintLast Go.Proofs.YtoaimcobcgomjaaDoorW.PrintMore
set_option linter.unusedVariables false
set_option linter.unusedSimpArgs false

theorem bits_or_comm (k : IntKind) (x y : Int) : bits .or k x y = bits .or k y x := by
  unfold bits
  simp only [BitVec.or_comm]
/-- A word turned down by n. -/
def rot (x : Int) (n : Nat) : Int := bits .or .u32 (x * 2 ^ (32 - n) % 4294967296) (x / 2 ^ n)
set_option maxHeartbeats 1000000 in
theorem rotl_walk (x : Int) (n : Nat) (h0 : 0 < n) (h1 : n < 32) (hx : 0 ≤ x) (w : World) :
    Calls Tryd.prog 67 #[.int .u32 x, .int .i64 (-(n : Int))] w fun e w' => e = .returned (.int .u32 (rot x n)) ∧ w' = w := by
  have hw : IntKind.u64.wrap (-(n : Int)) = 18446744073709551616 - n := by rw [IntKind.wrap_u64]; omega
  have hand : bits .and .u64 (18446744073709551616 - (n : Int)) 31 = 32 - n := by
    have : ∀ m : Fin 32, 0 < m.1 → bits .and .u64 (18446744073709551616 - ((m.1 : Nat) : Int)) 31 = 32 - ((m.1 : Nat) : Int) := by decide +kernel
    exact this ⟨n, h1⟩ h0
  go_enter Tryd.func67, Tryd.ntmps67
  go_wp2
  go_ret
  exact ⟨by unfold rot; rw [show 32 - (32 - n) = n by omega]; rfl, rfl⟩
set_option maxHeartbeats 1000000 in
theorem turned_walk (x : Int) (n : Nat) (h0 : 0 < n) (h1 : n < 32) (hx : 0 ≤ x) (w : World) :
    Calls Tryd.prog 53 #[.int .u32 x, .int .i64 (n : Int)] w fun e w' => e = .returned (.int .u32 (rot x n)) ∧ w' = w := by
  have hw : IntKind.i64.wrap (-(n : Int)) = -(n : Int) := by rw [IntKind.wrap_i64]; omega
  have HW := Aside0.mk (fun w => rotl_walk x n h0 h1 hx w)
  go_enter Tryd.func53, Tryd.ntmps53
  go_wp2_with (go_at_call 67; (with_reducible refine (HW.out _).mono ?_); rintro e w' ⟨rfl, rfl⟩)
  go_ret
  exact ⟨rfl, rfl⟩
set_option maxHeartbeats 1000000 in
theorem turn_walk (x : Int) (n : Nat) (h0 : 0 < n) (h1 : n < 32) (hx : 0 ≤ x) (w : World) :
    Calls Tryd.prog 54 #[.int .u32 x, .int .u32 (n : Int)] w fun e w' => e = .returned (.int .u32 (rot x n)) ∧ w' = w := by
  have hw : IntKind.u32.wrap (32 - (n : Int)) = 32 - (n : Int) := by rw [IntKind.wrap_u32]; omega
  go_enter Tryd.func54, Tryd.ntmps54
  go_wp2
  go_ret
  exact ⟨by unfold rot; rw [bits_or_comm]; rfl, rfl⟩
theorem turned_m (x : Int) (n : Nat) (m : Int) (hm : m = n) (h0 : 0 < n) (h1 : n < 32) (hx : 0 ≤ x) (w : World) :
    Calls Tryd.prog 53 #[.int .u32 x, .int .i64 m] w fun e w' => e = .returned (.int .u32 (rot x n)) ∧ w' = w := by
  subst hm; exact turned_walk x n h0 h1 hx w
theorem turn_m (x : Int) (n : Nat) (m : Int) (hm : m = n) (h0 : 0 < n) (h1 : n < 32) (hx : 0 ≤ x) (w : World) :
    Calls Tryd.prog 54 #[.int .u32 x, .int .u32 m] w fun e w' => e = .returned (.int .u32 (rot x n)) ∧ w' = w := by
  subst hm; exact turn_walk x n h0 h1 hx w
/-- Every u32 operation's value is one. -/
def U32 (x : Int) : Prop := 0 ≤ x ∧ x < 4294967296
theorem u32_wrap (x : Int) : U32 (IntKind.u32.wrap x) := by rw [IntKind.wrap_u32]; unfold U32; omega
theorem u32_mod (x : Int) : U32 (x % 4294967296) := by unfold U32; omega
theorem u32_bits (op : BinOp) (x y : Int) : U32 (bits op .u32 x y) := by unfold bits; exact u32_wrap _
theorem not_u32 (x : Int) (h : 0 ≤ x ∧ x < 4294967296) : bits .xor .u32 (if IntKind.u32.signed = true then -1 else IntKind.u32.max) x = 4294967295 - x := by
  obtain ⟨n, rfl⟩ := Int.eq_ofNat_of_zero_le h.1
  have hn : n < 4294967296 := by omega
  have e : bits .xor .u32 (if IntKind.u32.signed = true then -1 else IntKind.u32.max) (n : Int) = IntKind.u32.wrap ((BitVec.allOnes 32 ^^^ BitVec.ofNat 32 n).toNat : Int) := by
    unfold bits
    congr 3
  rw [e, IntKind.wrap_u32, BitVec.allOnes_xor, BitVec.toNat_not, BitVec.toNat_ofNat]
  omega
theorem u32_rot (x : Int) (n : Nat) : U32 (rot x n) := u32_bits _ _ _
end Go.Proofs.YtoaimcobcgomjaaDoor.Q
