/-
  A script of truth values that comes in.
-/
import Derived.Test.YtkkkjidbakmjdaaDoorTapStream
import Derived.WalkKit
import Derived.ProofKit
import Derived.OpenShut
import Derived.Deep.Slices
import Derived.Lib.SmallJoins
namespace Go.Proofs.YtkkkjidbakmjdaaDoor.Q
open Go.RowKit Go.ChangeShapes Go.WideShapes Go.ChangeAt Go.Deep Go.Joins Go.Proofs.YtkkkjidbakmjdaaDoorW.PrintWords
/-- A slice of truth values reads as a list. -/
structure Scr (W : World) (A : Option Addr) (n c : Nat) (l : List Bool) : Prop where
  len : l.length = n
  max : n ≤ 9223372036854775807
  nil_ : A = none → n = 0
  bools : ∀ ad, A = some ad → Bools W ad l
set_option maxRecDepth 100000 in
theorem open_bools {H : Type} {enc : TypeId × Value → H} {W : World} {r : Reach} {b0 base : Nat} {sp : Nat → Bool} {held : Bool} {v : Value} {d : DataW H} {p : List MemPlace} (ho : Value.okWide Tryd.prog W r b0 43 v) (h : DataW.Trod enc Tryd.prog W base sp held 43 v d p) :
    ∃ A l c n, v = .slice A n c ∧ Scr W A n c l := by
  obtain ⟨fuel, hf⟩ := h
  simp only [Value.okWide, Tryd.underlying43] at ho
  obtain ⟨A, n, c, hv⟩ := slice_form Tryd.underlying43 hf
  have hc : Tryd.prog.cellsOf 4 = 1 := by kernel_rfl
  rcases open_slice Tryd.underlying43 hf with ⟨hcs, _⟩ | ⟨x, len, cap, m, k, D, Pl, hcs, _, hl, hm, hme, _, hel⟩
  · obtain rfl : v = .slice none 0 0 := by
      cases v <;> simp [Value.cells] at hcs hv ⊢
      all_goals first | exact hcs | (simp [Cell.okWide, Cell.ok, Tryd.underlying43] at ho)
    exact ⟨none, [], 0, 0, rfl, ⟨rfl, by omega, fun _ => rfl, fun ad e => by cases e⟩⟩
  · obtain rfl : v = .slice (some x) len cap := by
      cases v <;> simp [Value.cells] at hcs hv ⊢
      all_goals first | exact hcs | (simp [Cell.okWide, Cell.ok, Tryd.underlying43] at ho)
    have hlm : len ≤ m := by rw [hme]; split <;> omega
    have each : ∀ i, ∃ b : Bool, i < len → W.cell? (x.add i) = some (.bool b) := fun i => by
      by_cases hi : i < len
      · obtain ⟨cs', hcc, ht⟩ := hel i (by omega)
        rw [hc, Nat.mul_one] at hcc
        obtain ⟨b, rfl, _⟩ := DataW.trod_bool Tryd.underlying4 ht
        exact ⟨b, fun _ => cell_of_cells?_one hcc⟩
      · exact ⟨false, fun h => absurd h hi⟩
    obtain ⟨f, hf2⟩ := Classical.axiomOfChoice each
    refine ⟨some x, (List.range len).map f, cap, len, rfl, ⟨by simp, by unfold maxLen at hm; omega, (fun e => by cases e), fun ad e j q hj => ?_⟩⟩
    cases e
    rw [List.getElem?_map] at hj
    obtain ⟨i, hi, rfl⟩ := Option.map_eq_some_iff.1 hj
    obtain ⟨hil, rfl⟩ := List.getElem?_eq_some_iff.1 hi
    simp only [List.getElem_range]
    exact hf2 j (by simpa using hil)
theorem tapStream_all (room : Int) (A : Option Addr) (n c : Nat) (l : List Bool) (W : World) (h : Scr W A n c l) (hg : GT W) :
    Calls Tryd.prog 4 #[.int .i64 room, .slice A n c] W fun e W' => e = .returned (.bool true) ∧ Below W.heap.size W W' :=
  tapStream_walk room A n c l W hg h.len h.max h.nil_ h.bools
end Go.Proofs.YtkkkjidbakmjdaaDoor.Q
