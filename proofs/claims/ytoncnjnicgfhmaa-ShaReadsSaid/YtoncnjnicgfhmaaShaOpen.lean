/-
  A digest that comes in: its bytes.
-/
import Derived.Test.YtoncnjnicgfhmaaShaReadsWalk
import Derived.WalkKit
import Derived.ProofKit
import Derived.OpenShut
namespace Go.Proofs.Ytoncnjnicgfhmaa.Q
open Go.RowKit Go.ChangeShapes Go.WideShapes Go.ChangeAt Go.Proofs.YtoncnjnicgfhmaaW.PrintWords
def numOf (v : Value) : Int := match v with | .int _ n => n | _ => 0
theorem open_dig {H : Type} {enc : TypeId × Value → H} {W : World} {r : Reach} {b0 base : Nat} {sp : Nat → Bool} {held : Bool} {v : Value} {d : DataW H} {p : List MemPlace} (hv : Value.okWide Try.prog W r b0 47 v) (h : DataW.Trod enc Try.prog W base sp held 47 v d p) :
    ∃ ds, Dig ds ∧ v = .agg (arr ds) := by
  simp only [Value.okWide, Try.underlying47] at hv
  obtain ⟨cs, rfl, hsz, _⟩ := hv
  have hc : Try.prog.cellsOf 47 = 32 := by kernel_rfl
  have hc5 : Try.prog.cellsOf 5 = 1 := by kernel_rfl
  rw [hc] at hsz
  obtain ⟨fuel, hf⟩ := h
  obtain ⟨xs, m, _, _, _, hxl, hx⟩ := DataW.trod_array Try.underlying47 hf
  have hat : ∀ i (hi : i < 32), ∃ a : Int, cs[i]'(by omega) = .int .u8 a ∧ 0 ≤ a ∧ a < 256 := fun i hi => by
    have h1 := hx i hi
    rw [hc5, Nat.mul_one] at h1
    have hl : i < cs.size := by omega
    have e1 : ((Value.cells (.agg cs)).toList.drop i).take 1 = [cs[i]] := by
      simp only [Value.cells]
      rw [List.drop_eq_getElem_cons (by simpa using hl)]
      simp
    rw [e1, List.getElem?_eq_getElem (by omega)] at h1
    obtain ⟨a, ha, _, hw⟩ := DataW.trod_int Try.underlying5 h1
    have hb := bounds_u8 hw
    exact ⟨a, by simpa using ha, by omega, by omega⟩
  refine ⟨cs.toList.map numOf, ⟨by simp [hsz], fun x hx => ?_⟩, ?_⟩
  · obtain ⟨v, hv, rfl⟩ := List.mem_map.1 hx
    obtain ⟨i, hi, rfl⟩ := List.mem_iff_getElem.1 hv
    obtain ⟨a, ha, h0, h1⟩ := hat i (by simpa [hsz] using hi)
    rw [Array.getElem_toList, ha]
    exact ⟨h0, h1⟩
  · congr 1
    apply Array.ext
    · simp [arr]
    · intro i h1 h2
      obtain ⟨a, ha, _, _⟩ := hat i (by omega)
      simp only [arr, List.getElem_toArray, List.getElem_map, Array.getElem_toList]
      rw [ha]; rfl
theorem shaReads_walk (ds : List Int) (hd : Dig ds) (s : ByteArray) (w : World) :
    Calls Try.prog 5 #[.agg (arr ds), .string s] w fun e w' => e = .returned (.bool true) ∧ Below w.heap.size w w' := by
  by_cases h : 200 < (s.size : Int)
  · exact reads_long ds s (decide_eq_true h) w
  · exact reads_walk ds hd s (decide_eq_false h) w
end Go.Proofs.Ytoncnjnicgfhmaa.Q
