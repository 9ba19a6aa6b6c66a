/-
  Bytes that come in.
-/
import Derived.Test.YtoaimcobcgomjaaDoorShaPartsWalk
import Derived.WalkKit
import Derived.ProofKit
import Derived.OpenShut
import Derived.Lib.SmallJoins
namespace Go.Proofs.YtoaimcobcgomjaaDoor.Q
open Go.ChangeShapes Go.WideShapes Go.ChangeAt Go.RowKit Go.Joins Go.Proofs.YtoaimcobcgomjaaDoorW.PrintWords
theorem bts_of {W : World} {A : Addr} {len cap : Nat} {zs : List Int} (hl : len ≤ cap) (hm : cap ≤ maxLen) (hz : len ≤ zs.length) (hcell : ∀ i, i < zs.length → W.cell? (A.add i) = some (.int .u8 (zs.getD i 0))) (hw : ∀ n ∈ zs, (Lit.int .u8 n).wf = true) : Bts W (some A) len cap (zs.take len) := by
  refine ⟨⟨by rw [List.length_take]; omega, by unfold maxLen at hm; omega, fun _ => ⟨A, rfl, fun j p hj => ⟨[.int .u8 p], rfl, rfl, fun i u hu => ?_⟩⟩⟩, hl, fun x hx => ?_⟩
  · cases i with
    | succ i => simp at hu
    | zero =>
      simp only [List.getElem?_cons_zero, Option.some.injEq] at hu
      subst hu
      show W.cell? (A.add (j * 1 + 0)) = _
      rw [Nat.mul_one, Nat.add_zero]
      rw [List.getElem?_take] at hj
      split at hj
      · obtain ⟨h1, rfl⟩ := List.getElem?_eq_some_iff.1 hj
        rw [hcell j h1]
        simp [h1]
      · cases hj
  · have := bounds_u8 (hw x (List.mem_of_mem_take hx))
    omega
set_option maxRecDepth 100000 in
theorem open_bytes {H : Type} {enc : TypeId × Value → H} {W : World} {r : Reach} {b0 base : Nat} {sp : Nat → Bool} {held : Bool} {v : Value} {d : DataW H} {p : List MemPlace} (ho : Value.okWide Tryd.prog W r b0 22 v) (h : DataW.Trod enc Tryd.prog W base sp held 22 v d p) :
    ∃ A l c n, v = .slice A n c ∧ Bts W A n c l := by
  obtain ⟨fuel, hf⟩ := h
  simp only [Value.okWide, Tryd.underlying22] at ho
  obtain ⟨A, n, c, hv⟩ := slice_form Tryd.underlying22 hf
  rcases open_ints Tryd.underlying22 Tryd.underlying5 (by kernel_rfl) hf with ⟨hcs, _⟩ | ⟨x, l, cap, zs, hcs, _, hl, hm, hz, _, hcell, hwz⟩
  · obtain rfl : v = .slice none 0 0 := by
      cases v <;> simp [Value.cells] at hcs hv ⊢
      all_goals first | exact hcs | (simp [Cell.okWide, Cell.ok, Tryd.underlying22] at ho)
    exact ⟨none, [], 0, 0, rfl, Bts.none W⟩
  · obtain rfl : v = .slice (some x) l cap := by
      cases v <;> simp [Value.cells] at hcs hv ⊢
      all_goals first | exact hcs | (simp [Cell.okWide, Cell.ok, Tryd.underlying22] at ho)
    exact ⟨some x, zs.take l, cap, l, rfl, bts_of hl hm (by rw [hz]; split <;> omega) hcell hwz⟩
end Go.Proofs.YtoaimcobcgomjaaDoor.Q
