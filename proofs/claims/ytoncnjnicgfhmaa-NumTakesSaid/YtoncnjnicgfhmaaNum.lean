/-
  Plain lemmas on numbers in bytes: what the printed functions of the number laws compute. No program, no memory.
-/
import Derived.Test.YtoncnjnicgfhmaaWMore
namespace Go.Proofs.Ytoncnjnicgfhmaa.Num
open Go.RowKit Go.Proofs.YtoncnjnicgfhmaaW.PrintWords Go.Proofs.YtoncnjnicgfhmaaW.PrintLast Go.Proofs.YtoncnjnicgfhmaaW.PrintMore

/-- The last s digits of n to the base of 256, the highest first. -/
def be (n : Int) : Nat → List Int
  | 0 => []
  | s + 1 => (n / 256 ^ s % 256) :: be n s
theorem be_length (n : Int) (s : Nat) : (be n s).length = s := by
  induction s with
  | zero => rfl
  | succ s ih => simp [be, ih]
theorem be_byte (n : Int) (s : Nat) : ∀ x ∈ be n s, 0 ≤ x ∧ x < 256 := by
  induction s with
  | zero => intro x hx; cases hx
  | succ s ih =>
    intro x hx
    rcases List.mem_cons.1 hx with rfl | hx
    · exact ⟨Int.emod_nonneg _ (by decide), Int.emod_lt_of_pos _ (by decide)⟩
    · exact ih x hx

/-- What bytes are, as a number. -/
def val : List Int → Int
  | [] => 0
  | c :: l => c * 256 ^ l.length + val l
theorem val_append (a b : List Int) : val (a ++ b) = val a * 256 ^ b.length + val b := by
  induction a with
  | nil => simp [val]
  | cons c a ih =>
    simp only [List.cons_append, val, ih, List.length_append, Int.pow_add]
    rw [Int.add_mul, Int.mul_assoc]; omega
theorem val_snoc (a : List Int) (c : Int) : val (a ++ [c]) = val a * 256 + c := by
  rw [val_append]; simp [val]
theorem val_bound (l : List Int) (h : ∀ x ∈ l, 0 ≤ x ∧ x < 256) : 0 ≤ val l ∧ val l < 256 ^ l.length := by
  induction l with
  | nil => simp [val]
  | cons c l ih =>
    have hc := h c (by simp)
    obtain ⟨h0, h1⟩ := ih (fun x hx => h x (by simp [hx]))
    have hp : (0 : Int) < 256 ^ l.length := Int.pow_pos (by decide)
    simp only [val, List.length_cons, Int.pow_succ]
    constructor
    · have := Int.mul_nonneg hc.1 (Int.le_of_lt hp); omega
    · have : c * 256 ^ l.length ≤ 255 * 256 ^ l.length := Int.mul_le_mul_of_nonneg_right (by omega) (Int.le_of_lt hp)
      rw [Int.mul_comm (256 ^ l.length) 256]; omega
theorem emod_mul' (n a b : Nat) : (n : Int) % ((a : Int) * (b : Int)) = (n : Int) % a + a * ((n : Int) / a % b) := by
  have := Nat.mod_mul (x := n) (a := a) (b := b)
  have h : ((n % (a * b) : Nat) : Int) = ((n % a + a * (n / a % b) : Nat) : Int) := by rw [this]
  simpa using h
theorem val_be (n : Int) (s : Nat) (h0 : 0 ≤ n) : val (be n s) = n % 256 ^ s := by
  induction s with
  | zero => simp [be, val, Int.emod_one]
  | succ s ih =>
    simp only [be, val, be_length, ih]
    obtain ⟨m, rfl⟩ := Int.eq_ofNat_of_zero_le h0
    have e := emod_mul' m (256 ^ s) 256
    have e2 : ((256 ^ s : Nat) : Int) = (256 : Int) ^ s := by simp
    rw [e2] at e
    rw [Int.pow_succ]
    have e3 : ((256 : Nat) : Int) = (256 : Int) := rfl
    rw [e3] at e
    rw [e, Int.mul_comm ((m : Int) / 256 ^ s % 256)]
    omega
theorem be_val (l : List Int) (h : ∀ x ∈ l, 0 ≤ x ∧ x < 256) : ∀ m : Int, be (m * 256 ^ l.length + val l) l.length = l := by
  induction l with
  | nil => intro m; rfl
  | cons c l ih =>
    intro m
    have hc := h c (by simp)
    have hl : ∀ x ∈ l, 0 ≤ x ∧ x < 256 := fun x hx => h x (by simp [hx])
    have hb := val_bound l hl
    have hp : (0 : Int) < 256 ^ l.length := Int.pow_pos (by decide)
    simp only [List.length_cons, be, val]
    have e : m * 256 ^ (l.length + 1) + (c * 256 ^ l.length + val l) = (m * 256 + c) * 256 ^ l.length + val l := by
      rw [Int.pow_succ, Int.add_mul, Int.mul_comm (256 ^ l.length) 256, ← Int.mul_assoc]; omega
    rw [e, ih hl]
    congr 1
    rw [Int.add_comm, Int.add_mul_ediv_right _ _ (Int.ne_of_gt hp), Int.ediv_eq_zero_of_lt hb.1 hb.2]
    omega

theorem set_rep (m : Nat) (v : Int) (l : List Int) : (List.replicate (m + 1) (0 : Int) ++ l).set m v = List.replicate m 0 ++ v :: l := by
  induction m with
  | zero => rfl
  | succ m ih => rw [List.replicate_succ, List.cons_append, List.set_cons_succ, ih]; rfl
theorem pow8 (i : Nat) : (2 : Int) ^ (8 * i) = 256 ^ i := by
  rw [Int.pow_mul]; rfl
theorem shr_u64 (n : Int) (i : Nat) (h : i ≤ 8) : shr .u64 n (8 * (i : Int)) = n / 256 ^ i := by
  unfold shr
  have : min ((8 : Int) * (i : Int)).toNat (IntKind.bits .u64) = 8 * i := by
    have : IntKind.bits .u64 = 64 := rfl
    omega
  rw [this, pow8]
theorem wrap_id (n : Int) (h0 : -9223372036854775808 ≤ n) (h1 : n ≤ 9223372036854775807) : wrap64 n = n := by unfold wrap64; omega
theorem wrapu_id (n : Int) (h0 : 0 ≤ n) (h1 : n < 18446744073709551616) : IntKind.u64.wrap n = n := by
  show IntKind.wrap .u64 n = n
  unfold IntKind.wrap
  simp [IntKind.signed, IntKind.bits]
  omega

end Go.Proofs.Ytoncnjnicgfhmaa.Num
