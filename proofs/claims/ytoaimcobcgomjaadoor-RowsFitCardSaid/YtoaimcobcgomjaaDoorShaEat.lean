/-
  Blocks eaten: how a digest goes on over parts; plain lists.
-/
import Derived.Test.YtoaimcobcgomjaaDoorShaPure
namespace Go.Proofs.YtoaimcobcgomjaaDoor.Q
open Go.RowKit Go.Proofs.YtoaimcobcgomjaaDoorW.PrintWords
set_option linter.unusedVariables false

/-- From state s, some whole blocks of m are turned in: what is left is r, the state is s'. -/
inductive Eats : List Int → List Int → List Int → List Int → Prop
  | stay (s m : List Int) : Eats s m s m
  | step {s m s' r : List Int} (h : 64 ≤ m.length) (t : Eats (compress s (m.take 64)) (m.drop 64) s' r) : Eats s m s' r
theorem Eats.trans {s m s1 r1 s2 r2 : List Int} (h : Eats s m s1 r1) (h2 : Eats s1 r1 s2 r2) : Eats s m s2 r2 := by
  induction h with
  | stay => exact h2
  | step h t ih => exact .step h (ih h2)
theorem Eats.append {s m s1 r1 : List Int} (h : Eats s m s1 r1) (p : List Int) : Eats s (m ++ p) s1 (r1 ++ p) := by
  induction h with
  | stay => exact .stay _ _
  | @step s m s' r h t ih =>
    refine .step (by rw [List.length_append]; omega) ?_
    rw [List.take_append_of_le_length h, List.drop_append_of_le_length h]
    exact ih
theorem Eats.one {s m : List Int} (h : 64 ≤ m.length) : Eats s m (compress s (m.take 64)) (m.drop 64) := .step h (.stay _ _)
theorem Eats.len {s m s1 r1 : List Int} (h : Eats s m s1 r1) : r1.length ≤ m.length ∧ (m.length - r1.length) % 64 = 0 := by
  induction h with
  | stay => simp
  | @step s m s' r h t ih =>
    rw [List.length_drop] at ih
    omega
theorem Eats.absorb {s m s1 r1 : List Int} (h : Eats s m s1 r1) (hr : r1.length < 64) : ∀ n, m.length / 64 ≤ n → Q.absorb n s m = (s1, r1) := by
  induction h with
  | stay s m =>
    intro n hn
    cases n with
    | zero => rfl
    | succ n => simp only [Q.absorb]; rw [if_neg (by omega)]
  | @step s m s' r h t ih =>
    intro n hn
    cases n with
    | zero => omega
    | succ n =>
      simp only [Q.absorb]
      rw [if_pos h]
      exact ih hr n (by rw [List.length_drop]; omega)
theorem compress_length (s b : List Int) : (compress s b).length = 8 := by simp [compress]
theorem compress_u32 (s b : List Int) : ∀ x ∈ compress s b, U32 x := by
  intro x hx
  unfold compress at hx
  obtain ⟨i, _, rfl⟩ := List.mem_map.1 hx
  exact u32_wrap _
theorem Eats.state {s m s1 r1 : List Int} (h : Eats s m s1 r1) (hl : s.length = 8) (hs : ∀ x ∈ s, U32 x) : s1.length = 8 ∧ ∀ x ∈ s1, U32 x := by
  induction h with
  | stay => exact ⟨hl, hs⟩
  | step h t ih => exact ih (compress_length _ _) (compress_u32 _ _)
theorem Eats.mem {s m s1 r1 : List Int} (h : Eats s m s1 r1) {P : Int → Prop} (hp : ∀ x ∈ m, P x) : ∀ x ∈ r1, P x := by
  induction h with
  | stay => exact hp
  | step h t ih => exact ih (fun x hx => hp x (List.mem_of_mem_drop hx))
theorem init8_ok : init8.length = 8 ∧ ∀ x ∈ init8, U32 x := by
  refine ⟨rfl, ?_⟩
  unfold U32 init8
  decide
/-- What is behind a message. -/
theorem pad_len (m : List Int) : (padTo m).length = m.length + 1 + (119 - m.length % 64) % 64 := by simp [padTo]; omega
theorem len8_len (n : Int) : (len8 n).length = 8 := by simp [len8]
theorem sha_of_eats {m s1 : List Int} (h : Eats init8 (padTo m ++ len8 (8 * m.length)) s1 []) : shaOf m = bytes32 s1 := by
  unfold shaOf
  rw [h.absorb (by simp) _ (by rw [List.length_append, pad_len, len8_len]; omega)]
/-- Every message is eaten whole. -/
theorem eats_whole (n : Nat) : ∀ (s m : List Int), m.length = 64 * n → ∃ s1, Eats s m s1 [] := by
  induction n with
  | zero =>
    intro s m h
    obtain rfl : m = [] := List.eq_nil_of_length_eq_zero (by omega)
    exact ⟨s, .stay _ _⟩
  | succ n ih =>
    intro s m h
    obtain ⟨s1, h1⟩ := ih (compress s (m.take 64)) (m.drop 64) (by rw [List.length_drop]; omega)
    exact ⟨s1, .step (by omega) h1⟩
theorem bytes32_len (s : List Int) : (bytes32 s).length = 32 := by simp [bytes32]
theorem bytes32_bound (s : List Int) : ∀ x ∈ bytes32 s, 0 ≤ x ∧ x < 256 := by
  intro x hx
  unfold bytes32 at hx
  obtain ⟨i, _, rfl⟩ := List.mem_map.1 hx
  omega
theorem sha_len (m : List Int) : (shaOf m).length = 32 := bytes32_len _
theorem sha_bound (m : List Int) : ∀ x ∈ shaOf m, 0 ≤ x ∧ x < 256 := bytes32_bound _
theorem padTo_mem {m : List Int} (h : ∀ x ∈ m, 0 ≤ x ∧ x < 256) : ∀ x ∈ padTo m, 0 ≤ x ∧ x < 256 := by
  intro x hx
  simp only [padTo, List.mem_append, List.mem_singleton, List.mem_replicate] at hx
  rcases hx with (hx | rfl) | ⟨_, rfl⟩
  · exact h x hx
  · omega
  · omega
theorem len8_mem (n : Int) : ∀ x ∈ len8 n, 0 ≤ x ∧ x < 256 := by
  intro x hx
  unfold len8 at hx
  obtain ⟨i, _, rfl⟩ := List.mem_map.1 hx
  omega
end Go.Proofs.YtoaimcobcgomjaaDoor.Q
