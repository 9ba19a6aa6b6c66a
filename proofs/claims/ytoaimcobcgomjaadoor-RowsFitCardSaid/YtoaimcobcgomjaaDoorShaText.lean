/-
  A digest's text: strings.IndexByte, strings.Builder: the contracts, by hand (after the kit's shelf; the numbers are this dump's).
-/
import Derived.Test.YtoaimcobcgomjaaDoorQ0
import Derived.WalkSpells
import Derived.Lib.Hide
import Derived.OpenShut
import Derived.Lib.Walk
import Derived.Lib.Strings
import Derived.Lib.Bytealg
import Derived.BigCall
import Derived.BigGuard
import Derived.Deep.Draws
import Derived.Laws.Strings3
import Derived.Shelf.Strings.Builder1
import Derived.Shelf.RegionOpenPlain
import Derived.Lib.UnsafeStr
namespace Go.Proofs.YtoaimcobcgomjaaDoor.Q
open Go.RowKit Go.Proofs.YtoaimcobcgomjaaDoorW.PrintWords Go.Proofs.YtoaimcobcgomjaaDoorW.PrintLast Go.Proofs.YtoaimcobcgomjaaDoorW.PrintMore
set_option linter.unusedVariables false
set_option linter.unusedSimpArgs false

/-- Where a byte stands first; -1: nowhere. -/
def indexB (s : ByteArray) (c : Int) : Int := Lib.indexByte s.data.toList c.toNat.toUInt8
set_option maxHeartbeats 1000000 in
set_option maxRecDepth 100000 in
theorem index_lite (s : ByteArray) (c : Int) (w : World) :
    Calls Tryd.prog 61 #[.string s, .int .u8 c] w fun e w' => e = .returned (.int .i64 (indexB s c)) ∧ w' = w := by
  go_enter Tryd.func61, Tryd.ntmps61
  go_wp2
  rw [run_callFunc_extern Tryd.func73 (by kernel_rfl) (by kernel_rfl) (by kernel_rfl) (e := Extern.BytealgIndexByte.indexByte) (by kernel_rfl), Lib.run_indexByteString]
  simp only [Result.andThen]
  rw [Oper.upon_value]
  go_wp2
  go_ret
  exact ⟨rfl, rfl⟩
set_option maxHeartbeats 1000000 in
set_option maxRecDepth 100000 in
theorem index_walk (s : ByteArray) (c : Int) (w : World) :
    Calls Tryd.prog 46 #[.string s, .int .u8 c] w fun e w' => e = .returned (.int .i64 (indexB s c)) ∧ w' = w := by
  go_enter Tryd.func46, Tryd.ntmps46
  go_wp2_with (go_at_call 61; (with_reducible refine (index_lite _ _ _).mono ?_); rintro e w' ⟨rfl, rfl⟩)
  go_ret
  exact ⟨rfl, rfl⟩

/-! ### strings.Builder -/
theorem bld_shape {w : World} {g : Nat} {cs : Array Value} {t n : Nat} (h : w.heap[g]? = some (.cells cs t (0, 0))) (hn : cs.size = n) : w.shape? g = some (t, n) := by
  simp [World.shape?, h, hn]
set_option maxHeartbeats 1000000 in
set_option maxRecDepth 100000 in
theorem check_fresh (g : Nat) (v : Value) (w : World) (BK : Aside0 (w.heap[g]? = some (.cells #[.pointer none, v] 75 (0, 0)))) :
    Calls Tryd.prog 62 #[.pointer (some ⟨g, 0, none⟩)] w fun e w' => e = .returned (.tuple #[]) ∧ w' = w.setCell ⟨g, 0, none⟩ (.pointer (some ⟨g, 0, none⟩)) := by
  have h0 : w.cell? ⟨g, 0, none⟩ = some (.pointer none) := (blk_cell BK.out 0).trans rfl
  have hfz := blk_frozen BK.out 0
  have hsh : w.shape? g = some (75, 2) := bld_shape BK.out rfl
  obtain ⟨j, hj, hjs⟩ := Option.map_eq_some_iff.1 (show (Tryd.prog.info? 75).map (·.size) = some 2 by kernel_rfl)
  go_enter Tryd.func62, Tryd.ntmps62
  go_wp2
  rw [Lib.run_to_unsafe w ⟨g, 0, none⟩ Tryd.underlying73 Tryd.underlying103 hj (by rw [hjs]; decide) hsh (Nat.zero_lt_succ 1)]
  simp only [Result.andThen]
  rw [Oper.upon_value]
  go_wp2
  rw [run_callFunc_extern Tryd.func74 (by kernel_rfl) (by kernel_rfl) (by kernel_rfl) (e := Extern.AbiNoEscape.same) (by kernel_rfl)]
  rw [Lib.run_noEscape]
  simp only [Result.andThen]
  rw [Oper.upon_value]
  go_wp2
  rw [Lib.run_from_unsafe w ⟨g, 0, none⟩ Tryd.underlying103 Tryd.underlying73 hj hsh (by kernel_rfl)]
  simp only [Result.andThen]
  rw [Oper.upon_value]
  go_wp2
  go_end0
  exact ⟨rfl, rfl⟩
set_option maxHeartbeats 1000000 in
set_option maxRecDepth 100000 in
theorem check_used (g : Nat) (v : Value) (w : World) (BK : Aside0 (w.heap[g]? = some (.cells #[.pointer (some ⟨g, 0, none⟩), v] 75 (0, 0)))) :
    Calls Tryd.prog 62 #[.pointer (some ⟨g, 0, none⟩)] w fun e w' => e = .returned (.tuple #[]) ∧ w' = w := by
  have h0 : w.cell? ⟨g, 0, none⟩ = some (.pointer (some ⟨g, 0, none⟩)) := (blk_cell BK.out 0).trans rfl
  obtain ⟨j, hj, hjs⟩ := Option.map_eq_some_iff.1 (show (Tryd.prog.info? 75).map (·.size) = some 2 by kernel_rfl)
  go_enter Tryd.func62, Tryd.ntmps62
  go_wp2
  rw [Lib.run_neq_ptr_same w _ Tryd.underlying73 hj]
  go_wp2
  go_end0
  exact ⟨rfl, rfl⟩
theorem check_walk (g : Nat) (p v : Value) (base : Nat) (w0 w : World) (hp : p = .pointer none ∨ p = .pointer (some ⟨g, 0, none⟩)) (BK : Aside0 (w.heap[g]? = some (.cells #[p, v] 75 (0, 0)))) (HB : Aside0 (Below base w0 w)) (HG : Aside0 (base ≤ g)) (l : List Int) (HO : Aside0 (Kd.R (Kd.int .u8) 5 w base (fun _ => True) v l)) :
    Calls Tryd.prog 62 #[.pointer (some ⟨g, 0, none⟩)] w fun e w' => e = .returned (.tuple #[]) ∧ w'.heap[g]? = some (.cells #[.pointer (some ⟨g, 0, none⟩), v] 75 (0, 0)) ∧ Below base w0 w' ∧ Kd.R (Kd.int .u8) 5 w' base (fun _ => True) v l ∧ w'.heap.size = w.heap.size ∧ (∀ k, k ≠ g → w'.heap[k]? = w.heap[k]?) := by
  rcases hp with rfl | rfl
  · refine (check_fresh g v w BK).mono ?_
    rintro e w' ⟨rfl, rfl⟩
    exact ⟨rfl, blk_put BK.out 0 _ rfl, HB.out.setCell (p := ⟨g, 0, none⟩) HG.out _, Kd.R_mono (Kd.R_far (p := ⟨g, 0, none⟩) (Kd.R_types HO.out BK.out (by decide)) (fun _ hk => hk.2) _) (fun _ _ => trivial), by simp [World.setCell], fun k hk => Below.heap_setCell w ⟨g, 0, none⟩ _ k hk⟩
  · refine (check_used g v w BK).mono ?_
    rintro e w' ⟨rfl, rfl⟩
    exact ⟨rfl, BK.out, HB.out, HO.out, rfl, fun _ _ => rfl⟩
set_option maxHeartbeats 4000000 in
set_option maxRecDepth 100000 in
theorem write_walk (g : Nat) (p v : Value) (l : List Int) (c : Int) (base : Nat) (w0 W : World) (hp : p = .pointer none ∨ p = .pointer (some ⟨g, 0, none⟩)) (BK : Aside0 (W.heap[g]? = some (.cells #[p, v] 75 (0, 0)))) (HB : Aside0 (Below base w0 W)) (HS : Aside0 (base ≤ W.heap.size)) (HG : Aside0 (base ≤ g))
    (HO : Aside0 (Kd.R (Kd.int .u8) 5 W base (fun _ => True) v l)) (LM : Aside0 (l.length < 100000)) :
    Calls Tryd.prog 47 #[.pointer (some ⟨g, 0, none⟩), .int .u8 c] W fun e W' => e = .returned .nilIface ∧ ∃ v', W'.heap[g]? = some (.cells #[.pointer (some ⟨g, 0, none⟩), v'] 75 (0, 0)) ∧ Kd.R (Kd.int .u8) 5 W' base (fun _ => True) v' (l ++ [c]) ∧ Below base w0 W' ∧ base ≤ W'.heap.size ∧
      (∀ k, k < W.heap.size → k ≠ g → some k ≠ v.ownBlock → W'.heap[k]? = W.heap[k]?) := by
  go_enter Tryd.func47, Tryd.ntmps47
  go_wp2_with (first
    | (go_at_call 62; (with_reducible refine (check_walk g p v base w0 W hp BK HB HG l HO).mono ?_); rintro e w1 ⟨rfl, bk, hb, ho, hs, hk⟩;
       have hcz : w1.cell? ⟨g, 1, none⟩ = some v := (blk_cell bk 1).trans rfl; have hf := blk_frozen bk 1; have BK1 := Aside0.mk bk; have HB1 := Aside0.mk hb; have HO1 := Aside0.mk ho; have HS1 := Aside0.mk hs; have HK1 := Aside0.mk hk; clear bk hb ho hs hk)
    | ((with_reducible refine gate_builtin (b := .append) (xs := #[.tmp 11, .tmp 13]) rfl ?_); at_builtin;
       refine Kd.R_append (Kd.int .u8) (w0 := w0) base rfl (.tmp 11) (.tmp 13) 22 5 (.int .u8 0) 1 rfl Tryd.underlying22 info5 rfl (by decide) (by omega) v l c [.int .u8 c] (fun _ => True) (fun _ => False) rfl rfl ?aP (fun _ hk => hk.elim) (fun _ _ => trivial) ?aO ?aB ?aS ?aL ?_;
       (case aP => exact rfl); (case aB => exact HB1.out); (case aO => exact HO1.out); (case aS => rw [HS1.out]; exact HS.out); (case aL => have := LM.out; omega);
       intro v1 w2 ho hb hg hat; obtain ⟨A1, c1, e1⟩ := Kd.R_slice ho; subst e1;
       have bk := blk_grown BK1.out hg (Kd.R_ne HO1.out BK1.out (by decide));
       have hcz1 : w2.cell? ⟨g, 1, none⟩ = some v := (blk_cell bk 1).trans rfl;
       have hf1 := blk_frozen bk 1;
       have HO2 := Aside0.mk ho; have HB2 := Aside0.mk hb; have HGR := Aside0.mk hg; have BK2 := Aside0.mk bk; clear ho hb hg hat bk hcz hf))
  go_ret
  have ho1 := HO2.out
  simp only [List.length_append, List.length_cons, List.length_nil, Nat.zero_add] at ho1
  refine ⟨rfl, _, blk_put BK2.out 1 _ rfl, Kd.R_mono (Kd.R_far (p := ⟨g, 1, none⟩) (Kd.R_types ho1 BK2.out (by decide)) (fun _ hk => hk.2) _) (fun _ _ => trivial), HB2.out.setCell (p := ⟨g, 1, none⟩) HG.out _, ?_, fun k hk hkg hko => ?_⟩
  · have h1 := HGR.out.size
    have h2 := HS.out
    rw [HS1.out] at h1
    simp only [World.setCell, Array.size_modify]
    omega
  · rw [Below.heap_setCell w2 ⟨g, 1, none⟩ _ k hkg]
    exact (HGR.out.block k (by rw [HS1.out]; exact hk) hko).trans (HK1.out k hkg)

theorem add_zero_plain (g j : Nat) : (⟨g, 0, none⟩ : Addr).add j = ⟨g, j, none⟩ := by unfold Addr.add; split <;> simp_all
/-- The numbers of bytes. -/
def ints (lb : List UInt8) : List Int := lb.map fun b => (b.toNat : Int)
theorem ints_length (lb : List UInt8) : (ints lb).length = lb.length := by simp [ints]
set_option maxHeartbeats 4000000 in
set_option maxRecDepth 100000 in
theorem string_walk (g : Nat) (p v : Value) (lb : List UInt8) (base : Nat) (w0 W : World) (BK : Aside0 (W.heap[g]? = some (.cells #[p, v] 75 (0, 0)))) (HB : Aside0 (Below base w0 W)) (HO : Aside0 (Kd.R (Kd.int .u8) 5 W base (fun _ => True) v (ints lb))) (h0 : lb ≠ []) :
    Calls Tryd.prog 48 #[.pointer (some ⟨g, 0, none⟩)] W fun e W' => e = .returned (.string ⟨lb.toArray⟩) ∧ Below base w0 W' := by
  have hl0 : lb.length ≠ 0 := by simpa using h0
  obtain ⟨k, cap, rfl, hk, hkl, cells, hc⟩ := Kd.R_form HO.out (by rw [ints_length]; omega)
  obtain ⟨_, hlc, hrd⟩ := Kd.R_reads' HO.out
  have hmax : (ints lb).length ≤ 9223372036854775807 := hrd.2.1
  have hat : ∀ j x, lb[j]? = some x → W.cell? ⟨k, j, none⟩ = some (.int .u8 x.toNat) := fun j x hx => by
    have hj := (List.getElem?_eq_some_iff.1 hx).1
    obtain ⟨ad, he, hy⟩ := Kd.at_int hrd (j : Int) (by omega) (by rw [ints_length]; omega)
    cases he
    rw [Int.toNat_natCast] at hy
    have e1 := add_zero_plain k j
    rw [e1] at hy
    rw [hy]
    simp [rd, ints, hx]
  have hcs : lb.length ≤ cells.size := by
    rcases Nat.lt_or_ge cells.size lb.length with h | h
    · exfalso
      have hx := hat cells.size (lb[cells.size]'h) (List.getElem?_eq_getElem h)
      rw [cell_of_row W k cells.size cells 5 (0, 0) hc] at hx
      simp at hx
    · exact h
  rw [ints_length] at *
  have c1 : W.cell? ⟨g, 1, none⟩ = some (.slice (some ⟨k, 0, none⟩) lb.length cap) := (blk_cell BK.out 1).trans rfl
  have c1' : W.drew.cell? ⟨g, 1, none⟩ = some (.slice (some ⟨k, 0, none⟩) lb.length cap) := c1
  have hSD : ∀ W' : World, (Builtin.unsafeSliceData_ #[22] 95 #[.slice (some ⟨k, 0, none⟩) lb.length cap]).run Tryd.prog W' = .ok (.pointer (some ⟨k, 0, none⟩)) W' := fun W' =>
    Lib.run_unsafeSliceData_row W' _ _ _ _ _ (by omega)
  have hUS : (Builtin.unsafeString_ #[95, 3] 9 #[.pointer (some ⟨k, 0, none⟩), .int .i64 lb.length]).run Tryd.prog W.drew = .ok (.string ⟨lb.toArray⟩) (W.drew.freeze ⟨k, 0, none⟩ lb.length) := by
    refine Lib.run_unsafeString_row W.drew 95 3 9 5 Tryd.underlying95 (by kernel_rfl) k cells.size (by have hg' : W.drew.heap[k]? = some (.cells cells 5 (0, 0)) := hc; simp [World.shape?, hg']) lb h0 hcs (by omega) ?_
    intro j x hx
    have e1 := add_zero_plain k j
    rw [e1]
    exact hat j x hx
  have HK := Aside0.mk hk
  clear hat hrd hlc hmax hcs hc hk hkl
  have mixed : Tryd.prog.follows .mixedOrders = true := by kernel_rfl
  go_enter Tryd.func48, Tryd.ntmps48
  go_wp2
  go_region_o
  all_goals (go_wp2; go_ret; exact ⟨rfl, Lib.below_freeze (Below.drew HB.out) (p := ⟨k, 0, none⟩) HK.out _⟩)
end Go.Proofs.YtoaimcobcgomjaaDoor.Q
