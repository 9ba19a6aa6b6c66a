/-
  A digest that comes in: its bytes.
-/
import Derived.Test.YtoaimcobcgomjaaDoorShaHex
import Derived.WalkKit
import Derived.ProofKit
import Derived.OpenShut
namespace Go.Proofs.YtoaimcobcgomjaaDoor.Q
open Go.RowKit Go.ChangeShapes Go.WideShapes Go.ChangeAt Go.Proofs.YtoaimcobcgomjaaDoorW.PrintWords
def numOf (v : Value) : Int := match v with | .int _ n => n | _ => 0
set_option maxRecDepth 100000 in
theorem open_dig {H : Type} {enc : TypeId × Value → H} {W : World} {r : Reach} {b0 base : Nat} {sp : Nat → Bool} {held : Bool} {v : Value} {d : DataW H} {p : List MemPlace} (hv : Value.okWide Tryd.prog W r b0 25 v) (h : DataW.Trod enc Tryd.prog W base sp held 25 v d p) :
    ∃ ds, Dig ds ∧ v = .agg (arr ds) := by
  simp only [Value.okWide, Tryd.underlying25] at hv
  obtain ⟨cs, rfl, hsz, _⟩ := hv
  have hc : Tryd.prog.cellsOf 25 = 32 := by kernel_rfl
  have hc5 : Tryd.prog.cellsOf 5 = 1 := by kernel_rfl
  rw [hc] at hsz
  obtain ⟨fuel, hf⟩ := h
  obtain ⟨xs, m, _, _, _, hxl, hx⟩ := DataW.trod_array Tryd.underlying25 hf
  have hat : ∀ i (hi : i < 32), ∃ a : Int, cs[i]'(by omega) = .int .u8 a ∧ 0 ≤ a ∧ a < 256 := fun i hi => by
    have h1 := hx i hi
    rw [hc5, Nat.mul_one] at h1
    have hl : i < cs.size := by omega
    have e1 : ((Value.cells (.agg cs)).toList.drop i).take 1 = [cs[i]] := by
      simp only [Value.cells]
      rw [List.drop_eq_getElem_cons (by simpa using hl)]
      simp
    rw [e1, List.getElem?_eq_getElem (by omega)] at h1
    obtain ⟨a, ha, _, hw⟩ := DataW.trod_int Tryd.underlying5 h1
    have hb := bounds_u8 hw
    exact ⟨a, by simpa using ha, by omega, by omega⟩
  refine ⟨cs.toList.map numOf, ⟨by simp [hsz], fun x hx => ?_⟩, ?_⟩
  · obtain ⟨v, hv, rfl⟩ := List.mem_map.1 hx
    obtain ⟨i, hi, rfl⟩ := List.mem_iff_getElem.1 hv
    obtain ⟨a, ha, h0, h1⟩ := hat i (by simpa [hsz] using hi)
    rw [Array.getElem_toList, ha]
    exact ⟨h0, h1⟩
  · congr 1
    apply Array.ext
    · simp [arr]
    · intro i h1 h2
      obtain ⟨a, ha, _, _⟩ := hat i (by omega)
      simp only [arr, List.getElem_toArray, List.getElem_map, Array.getElem_toList]
      rw [ha]; rfl
end Go.Proofs.YtoaimcobcgomjaaDoor.Q
