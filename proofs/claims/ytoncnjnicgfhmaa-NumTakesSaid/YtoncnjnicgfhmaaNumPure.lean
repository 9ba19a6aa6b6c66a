/-
  What the printed functions of the number laws answer, in plain Lean.
-/
import Derived.Test.YtoncnjnicgfhmaaQ1
import Derived.Test.YtoncnjnicgfhmaaQ2
namespace Go.Proofs.Ytoncnjnicgfhmaa.NumPure
open Go.RowKit Go.Proofs.Ytoncnjnicgfhmaa.Q Go.Proofs.Ytoncnjnicgfhmaa.Num Go.Proofs.YtoncnjnicgfhmaaW.PrintWords Go.Proofs.YtoncnjnicgfhmaaW.PrintLast

theorem pos_pow (s : Nat) : (0 : Int) < 256 ^ s := Int.pow_pos (by decide)
theorem div_step (n : Int) (i : Nat) : n / 256 ^ i / 256 = n / 256 ^ (i + 1) := by
  rw [Int.pow_succ, Int.ediv_ediv_of_nonneg (Int.le_of_lt (pos_pow i))]

theorem put_l0 (n : Int) (s : Nat) (hs : s ≤ 8) (d : Nat) : ∀ (k i : Nat), i + d = s → d < k →
    num_Put.l0 k n s (List.replicate d 0 ++ be n i) s i = some (be n s, 0) := by
  induction d with
  | zero =>
    intro k i hi hk
    obtain ⟨k, rfl⟩ : ∃ m, k = m + 1 := ⟨k - 1, by omega⟩
    obtain rfl : i = s := by omega
    simp only [num_Put.l0]
    rw [if_neg (by omega)]
    simp
  | succ d ih =>
    intro k i hi hk
    obtain ⟨k, rfl⟩ : ∃ m, k = m + 1 := ⟨k - 1, by omega⟩
    have e1 : wrap64 (8 * (i : Int)) = 8 * i := wrap_id _ (by omega) (by omega)
    have e2 : wrap64 ((s : Int) - 1) = s - 1 := wrap_id _ (by omega) (by omega)
    have e3 : wrap64 ((s : Int) - 1 - i) = (d : Int) := by rw [wrap_id _ (by omega) (by omega)]; omega
    have e4 : wrap64 ((i : Int) + 1) = ((i + 1 : Nat) : Int) := by rw [wrap_id _ (by omega) (by omega)]; omega
    simp only [num_Put.l0]
    rw [if_pos (by omega), e1, e2, e3, if_pos (by omega), if_pos (by omega), if_pos (by simp [be_length]; omega), Int.toNat_natCast, set_rep, shr_u64 n i (by omega), e4]
    exact ih k (i + 1) (by omega) (by omega)

/-- A number in so many bytes, or the error. -/
def put (n s : Int) : List Int × Int :=
  if s < 1 then ([], 2) else if 8 < s then ([], 2) else if n / 256 ^ s.toNat = 0 then (be n s.toNat, 0) else ([], 4)

theorem put_f (n s : Int) (h0 : 0 ≤ n) (h1 : n < 18446744073709551616) (k : Nat) (hk : 12 ≤ k) : num_Put.f k n s = some (put n s) := by
  obtain ⟨k, rfl⟩ : ∃ m, k = m + 2 := ⟨k - 2, by omega⟩
  unfold num_Put.f put
  by_cases c1 : s < 1
  · rw [if_pos c1, if_pos c1]; simp [num_Put.j0]
  rw [if_neg c1, if_neg c1]
  by_cases c2 : 8 < s
  · rw [if_pos c2]; simp [num_Put.j0, c2]
  rw [if_neg c2]
  obtain ⟨t, rfl⟩ := Int.eq_ofNat_of_zero_le (show 0 ≤ s by omega)
  have hj1 : num_Put.j1 (k + 1) n t = some (be n t, 0) := by
    simp only [num_Put.j1]
    rw [if_pos (by omega), if_pos (by omega), Int.toNat_natCast]
    have := put_l0 n t (by omega) t k 0 (by omega) (by omega)
    simpa [be] using this
  have e1 : wrap64 (8 * (t : Int)) = 8 * t := wrap_id _ (by omega) (by omega)
  have hd : decide ((t : Int) > 8) = false := decide_eq_false (by omega)
  rw [hd, Int.toNat_natCast]
  simp only [num_Put.j0, Bool.false_eq_true, if_false]
  by_cases c3 : (t : Int) < 8
  · rw [if_pos c3, e1, if_pos (by omega), shr_u64 n t (by omega)]
    have hge : 0 ≤ n / 256 ^ t := Int.ediv_nonneg h0 (Int.le_of_lt (pos_pow t))
    by_cases c4 : n / 256 ^ t = 0
    · rw [if_pos c4, if_neg (by omega), hj1]
    · rw [if_neg c4, if_pos (by omega)]
  · rw [if_neg c3, hj1]
    obtain rfl : t = 8 := by omega
    rw [if_pos (Int.ediv_eq_zero_of_lt h0 (by simpa using h1))]

theorem dig_l0 (n : Int) (h0 : 0 ≤ n) (h1 : n < 18446744073709551616) (s : Nat) (hs : s ≤ 8) (d : Nat) : ∀ (k i : Nat), i + d = s → d < k →
    beadrollref01_Digits.l0 k (n / 256 ^ i) (List.replicate d 0 ++ be n i) ((d : Int) - 1) = some (be n s, (n / 256 ^ s == 0)) := by
  induction d with
  | zero =>
    intro k i hi hk
    obtain ⟨k, rfl⟩ : ∃ m, k = m + 1 := ⟨k - 1, by omega⟩
    obtain rfl : i = s := by omega
    simp only [beadrollref01_Digits.l0]
    rw [if_neg (by omega)]
    simp
  | succ d ih =>
    intro k i hi hk
    obtain ⟨k, rfl⟩ : ∃ m, k = m + 1 := ⟨k - 1, by omega⟩
    have hge : 0 ≤ n / 256 ^ i := Int.ediv_nonneg h0 (Int.le_of_lt (pos_pow i))
    have hle : n / 256 ^ i ≤ n := Int.ediv_le_self _ h0
    have e0 : ((d + 1 : Nat) : Int) - 1 = (d : Int) := by omega
    have e4 : wrap64 ((d : Int) - 1) = (d : Int) - 1 := wrap_id _ (by omega) (by omega)
    have e5 : IntKind.u64.wrap (Int.tdiv (n / 256 ^ i) 256) = n / 256 ^ (i + 1) := by
      rw [Int.tdiv_eq_ediv_of_nonneg hge, div_step, wrapu_id]
      · exact Int.ediv_nonneg h0 (Int.le_of_lt (pos_pow _))
      · have := Int.ediv_le_self (256 ^ (i + 1)) h0; omega
    have e6 : Int.tmod (n / 256 ^ i) 256 % 256 = n / 256 ^ i % 256 := by
      rw [Int.tmod_eq_emod_of_nonneg hge, Int.emod_emod]
    simp only [beadrollref01_Digits.l0]
    rw [e0, if_pos (by omega), if_pos (by omega), if_pos (by simp [be_length]; omega), Int.toNat_natCast, set_rep, e4, e5, e6]
    exact ih k (i + 1) (by omega) (by omega)

theorem dig_f (n : Int) (h0 : 0 ≤ n) (h1 : n < 18446744073709551616) (s : Nat) (hs : s ≤ 8) (k : Nat) (hk : 10 ≤ k) : beadrollref01_Digits.f k n s = some (be n s, (n / 256 ^ s == 0)) := by
  unfold beadrollref01_Digits.f
  rw [if_pos (by omega), if_pos (by omega), Int.toNat_natCast, wrap_id _ (by omega) (by omega)]
  have := dig_l0 n h0 h1 s hs s k 0 (by omega) (by omega)
  simpa [be] using this

theorem rput_f (n s : Int) (h0 : 0 ≤ n) (h1 : n < 18446744073709551616) (k : Nat) (hk : 12 ≤ k) : beadrollref01_Put.f k n s = some (put n s) := by
  obtain ⟨k, rfl⟩ : ∃ m, k = m + 1 := ⟨k - 1, by omega⟩
  unfold beadrollref01_Put.f put
  by_cases c1 : s < 1
  · rw [if_pos c1, if_pos c1]; simp [beadrollref01_Put.j0]
  rw [if_neg c1, if_neg c1]
  by_cases c2 : 8 < s
  · rw [if_pos c2]; simp [beadrollref01_Put.j0, c2]
  rw [if_neg c2]
  obtain ⟨t, rfl⟩ := Int.eq_ofNat_of_zero_le (show 0 ≤ s by omega)
  have hd : decide ((t : Int) > 8) = false := decide_eq_false (by omega)
  rw [hd, Int.toNat_natCast]
  simp only [beadrollref01_Put.j0, Bool.false_eq_true, if_false]
  rw [dig_f n h0 h1 t (by omega) k (by omega)]
  simp only [Option.bind_some]
  by_cases c4 : n / 256 ^ t = 0
  · rw [if_pos c4, if_pos (by simp [c4])]
  · rw [if_neg c4, if_neg (by simp [c4])]

/-- Bytes as a part, or the error. -/
def putPart (l : List Int) : List Int × Int := if 4096 < (l.length : Int) then ([], 4) else (be l.length 2 ++ l, 0)
theorem put_two (n : Nat) (h : n ≤ 4096) : put n 2 = (be n 2, 0) := by
  unfold put
  rw [if_neg (by omega), if_neg (by omega), if_pos]
  · rfl
  · exact Int.ediv_eq_zero_of_lt (by omega) (by show (n : Int) < 256 ^ 2; omega)
theorem putPart_f (l : List Int) (k : Nat) (hk : 12 ≤ k) : num_PutPart.f k l = some (putPart l) := by
  unfold num_PutPart.f putPart
  by_cases c : (l.length : Int) > 4096
  · rw [if_pos c, if_pos c]
  · rw [if_neg c, if_neg (by omega), wrapu_id _ (by omega) (by omega), put_f _ _ (by omega) (by omega) k hk, put_two _ (by omega)]
    simp only [Option.bind_some]
    rw [if_pos (by rw [be_length]; omega)]
theorem rputPart_f (l : List Int) (k : Nat) (hk : 12 ≤ k) : beadrollref01_PutPart.f k l = some (putPart l) := by
  unfold beadrollref01_PutPart.f putPart
  by_cases c : (l.length : Int) > 4096
  · rw [if_pos c, if_pos c]
  · have := dig_f (l.length : Int) (by omega) (by omega) 2 (by omega) k (by omega)
    rw [if_neg c, if_neg (by omega), wrapu_id _ (by omega) (by omega)]
    rw [show ((2 : Nat) : Int) = 2 from rfl] at this
    rw [this]
    simp only [Option.bind_some]
    rw [if_pos (by rw [be_length]; omega)]

theorem spoil_l0 (d : Nat) : ∀ (k : Nat) (l : List Int) (i : Nat), l.length ≤ 9223372036854775806 → i + d = l.length → d < k → ∃ r, beadrolllaw01_spoil.l0 k l i = some r := by
  induction d with
  | zero =>
    intro k l i hb hi hk
    obtain ⟨k, rfl⟩ : ∃ m, k = m + 1 := ⟨k - 1, by omega⟩
    exact ⟨l, by simp only [beadrolllaw01_spoil.l0]; rw [if_neg (by omega)]⟩
  | succ d ih =>
    intro k l i hb hi hk
    obtain ⟨k, rfl⟩ : ∃ m, k = m + 1 := ⟨k - 1, by omega⟩
    simp only [beadrolllaw01_spoil.l0]
    have e4 : wrap64 ((i : Int) + 1) = ((i + 1 : Nat) : Int) := by rw [wrap_id _ (by omega) (by omega)]; omega
    rw [if_pos (by omega), if_pos (by omega), e4]
    exact ih k _ (i + 1) (by simpa using hb) (by simp; omega) (by omega)
theorem spoil_f (l : List Int) (k : Nat) (hb : l.length ≤ 9223372036854775806) (hk : l.length < k) : ∃ r, beadrolllaw01_spoil.f k l = some r := spoil_l0 l.length k l 0 hb (by omega) hk
theorem same_self (l : List Int) : beadrollref01_Same.f l l = some true := by simp [beadrollref01_Same.f]
theorem twin_f (l : List Int) (h : l.length < 140737488355328) : beadrollref01_Twin.f l = some l := by
  unfold beadrollref01_Twin.f
  rw [if_pos (by simpa using h)]; rfl
theorem put_len (n s : Int) : (put n s).1.length ≤ 8 := by
  unfold put
  split
  · simp
  · split
    · simp
    · split
      · simp [be_length]; omega
      · simp
theorem putPart_len (l : List Int) : (putPart l).1.length ≤ 4098 := by
  unfold putPart
  split
  · simp
  · simp [be_length]; omega

end Go.Proofs.Ytoncnjnicgfhmaa.NumPure
