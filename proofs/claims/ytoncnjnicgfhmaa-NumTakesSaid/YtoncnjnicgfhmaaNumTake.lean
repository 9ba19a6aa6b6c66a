/-
  What num.Take and num.TakePart answer, in plain Lean, and the chapter's first examples.
-/
import Derived.Test.YtoncnjnicgfhmaaQ3
import Derived.Test.YtoncnjnicgfhmaaNumPure
namespace Go.Proofs.Ytoncnjnicgfhmaa.NumPure
open Go.RowKit Go.Proofs.Ytoncnjnicgfhmaa.Q Go.Proofs.Ytoncnjnicgfhmaa.Num Go.Proofs.YtoncnjnicgfhmaaW.PrintWords Go.Proofs.YtoncnjnicgfhmaaW.PrintLast

theorem pow_le {m n : Nat} (h : m ≤ n) : (256 : Int) ^ m ≤ 256 ^ n := by
  obtain ⟨d, rfl⟩ := Nat.exists_eq_add_of_le h
  clear h
  induction d with
  | zero => exact Int.le_refl _
  | succ d ih =>
    refine Int.le_trans ih ?_
    have : (0 : Int) < 256 ^ (m + d) := Int.pow_pos (by decide)
    rw [← Nat.add_assoc, Int.pow_succ]
    omega
theorem or_byte (a c : Int) (ha : 0 ≤ a) (hb : a * 256 + 255 < 18446744073709551616) (hc : 0 ≤ c ∧ c < 256) :
    Go.bits .or .u64 (IntKind.u64.wrap (a * 256)) (IntKind.u64.wrap c) = a * 256 + c := by
  rw [wrapu_id _ (by omega) (by omega), wrapu_id _ (by omega) (by omega)]
  obtain ⟨x, rfl⟩ := Int.eq_ofNat_of_zero_le ha
  obtain ⟨y, rfl⟩ := Int.eq_ofNat_of_zero_le hc.1
  have e := Go.bits_or_u64_nat (x * 256) y (by omega) (by omega)
  have e2 : (((x * 256 : Nat) : Int)) = (x : Int) * 256 := by omega
  rw [e2] at e
  rw [e]
  have := Nat.two_pow_add_eq_or_of_lt (i := 8) (b := y) (by omega) x
  rw [show x * 256 = 2 ^ 8 * x by omega, ← this]
  omega
theorem take_val (m : Nat) : ∀ l : List Int, l.length = m → m ≤ 8 → (∀ x ∈ l, 0 ≤ x ∧ x < 256) → num_Take.n l = val l := by
  induction m with
  | zero => intro l hl _ _; rw [List.eq_nil_of_length_eq_zero hl]; rfl
  | succ m ih =>
    intro l hl hm hb
    rcases List.eq_nil_or_concat l with rfl | ⟨a, c, rfl⟩
    · rfl
    · rw [List.concat_eq_append] at *
      have hal : a.length = m := by simpa using hl
      have hab : ∀ x ∈ a, 0 ≤ x ∧ x < 256 := fun x hx => hb x (by simp [hx])
      have hv := val_bound a hab
      have hc := hb c (by simp)
      have hp : (256 : Int) ^ a.length ≤ 256 ^ 7 := pow_le (by omega)
      have h7 : (256 : Int) ^ 7 = 72057594037927936 := by decide
      have hlt : val a * 256 + 255 < 18446744073709551616 := by omega
      rw [num_Take.n_snoc, ih a hal (by omega) hab, or_byte _ _ hv.1 hlt hc, val_snoc]

theorem byte_of {l : List Int} (h : ∀ x ∈ l, (Lit.int .u8 x).wf = true) : ∀ x ∈ l, 0 ≤ x ∧ x < 256 := fun x hx => by
  have := bounds_u8 (h x hx); omega

/-- What num.Take answers where it answers. -/
theorem take_ok (l : List Int) (s : Nat) (h1 : 1 ≤ s) (h8 : s ≤ 8) (hs : s ≤ l.length) (hl : l.length < 140737488355328) (hb : ∀ x ∈ l, 0 ≤ x ∧ x < 256) :
    num_Take.f l s = some (val (l.take s), l.drop s, 0) := by
  unfold num_Take.f
  rw [if_neg (by omega), if_neg (by omega), if_neg (by omega), if_pos hl, Int.toNat_natCast, take_val s _ (by rw [List.length_take]; omega) h8 (fun x hx => hb x (List.mem_of_mem_take hx))]

theorem alive_f (k : Nat) (hk : 12 ≤ k) : beadrolllaw01_alive.f k = some true := by
  unfold beadrolllaw01_alive.f
  rw [put_f 258 2 (by decide) (by decide) k hk]
  have e1 : put 258 2 = ([1, 2], 0) := by decide
  have e2 : num_Take.f [1, 2, 3] 2 = some (258, [3], 0) := by
    have := take_ok [1, 2, 3] 2 (by decide) (by decide) (by decide) (by decide) (by decide)
    rw [show ((2 : Nat) : Int) = 2 from rfl] at this
    rw [this]; rfl
  rw [e1, e2]
  simp [same_self]

theorem part_of (n : Nat) (more : List Int) (hn : n ≤ 4096) (hm : n ≤ more.length) : num_TakePart.g n more 0 = some (more.take n, more.drop n, 0) := by
  unfold num_TakePart.g
  rw [if_neg (by simp), if_neg (by omega), if_neg (by omega), Int.toNat_natCast]
theorem takePart_put (l rest : List Int) (hl : l.length ≤ 4096) (hr : rest.length ≤ 5000) (hlb : ∀ x ∈ l, 0 ≤ x ∧ x < 256) (hrb : ∀ x ∈ rest, 0 ≤ x ∧ x < 256) :
    num_TakePart.f (be l.length 2 ++ l ++ rest) = some (l, rest, 0) := by
  unfold num_TakePart.f
  have hlen : (be l.length 2 ++ l ++ rest).length = 2 + l.length + rest.length := by simp [be_length]; omega
  have h := take_ok (be l.length 2 ++ l ++ rest) 2 (by decide) (by decide) (by omega) (by omega) (fun x hx => by
    rcases List.mem_append.1 hx with hx | hx
    · rcases List.mem_append.1 hx with hx | hx
      · exact be_byte _ _ x hx
      · exact hlb x hx
    · exact hrb x hx)
  rw [show ((2 : Nat) : Int) = 2 from rfl] at h
  rw [h]
  simp only [Option.bind_some]
  have e1 : (be (l.length : Int) 2 ++ l ++ rest).take 2 = be l.length 2 := by
    rw [List.append_assoc, List.take_append_of_le_length (by rw [be_length]; omega), List.take_of_length_le (by rw [be_length]; omega)]
  have e2 : (be (l.length : Int) 2 ++ l ++ rest).drop 2 = l ++ rest := by
    rw [List.append_assoc]
    exact List.drop_left' (be_length _ _)
  rw [e1, e2, val_be _ _ (by omega)]
  have e3 : (l.length : Int) % 256 ^ 2 = l.length := Int.emod_eq_of_lt (by omega) (by show (l.length : Int) < 256 ^ 2; omega)
  rw [e3, part_of _ _ hl (by simp)]
  simp

end Go.Proofs.Ytoncnjnicgfhmaa.NumPure
