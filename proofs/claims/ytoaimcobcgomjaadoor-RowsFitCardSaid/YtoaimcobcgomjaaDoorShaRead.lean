/-
  sha.Read: a text's digest: the contract, by hand.
-/
import Derived.Test.YtoaimcobcgomjaaDoorShaHex
namespace Go.Proofs.YtoaimcobcgomjaaDoor.Q
open Go.RowKit Go.Proofs.YtoaimcobcgomjaaDoorW.PrintWords Go.Proofs.YtoaimcobcgomjaaDoorW.PrintLast Go.Proofs.YtoaimcobcgomjaaDoorW.PrintMore
set_option linter.unusedVariables false
set_option linter.unusedSimpArgs false

/-- The number of a digit; -1: it is none. -/
def h16 (c : Int) : Int := match hexL.findIdx? (fun b => (b.toNat : Int) == c) with | some i => i | none => -1
theorem index_h16 (c : Int) (h0 : 0 ≤ c) (h1 : c < 256) : indexB ⟨#[48, 49, 50, 51, 52, 53, 54, 55, 56, 57, 97, 98, 99, 100, 101, 102]⟩ c = h16 c := by
  have : ∀ m : Fin 256, indexB ⟨#[48, 49, 50, 51, 52, 53, 54, 55, 56, 57, 97, 98, 99, 100, 101, 102]⟩ ((m.1 : Nat) : Int) = h16 ((m.1 : Nat) : Int) := by decide +kernel
  obtain ⟨m, rfl⟩ := Int.eq_ofNat_of_zero_le h0
  exact this ⟨m, by omega⟩
theorem h16_range (c : Int) : -1 ≤ h16 c ∧ h16 c < 16 := by
  unfold h16
  split
  · rename_i i hi
    have := (List.findIdx?_eq_some_iff_findIdx_eq.1 hi).1
    have e : hexL.length = 16 := rfl
    omega
  · omega
/-- The byte at a place of a text. -/
def chr (s : ByteArray) (i : Nat) : Int := (s.data.toList[i]?.getD 0).toNat
theorem chr_range (s : ByteArray) (i : Nat) : 0 ≤ chr s i ∧ chr s i < 256 := by
  unfold chr
  have := (s.data.toList[i]?.getD 0).toNat_lt
  omega
theorem run_index_str (s : ByteArray) (i : Nat) (hi : i < s.size) (W : World) : (Instr.index 9 (.string s) (.int .i64 (i : Int))).run Tryd.prog W = .ok (.int .u8 (chr s i)) W := by
  rw [run_index_string W 9 _ _ _ Tryd.underlying9, dif_pos ⟨by omega, by omega⟩]
  congr 3
  simp only [Int.toNat_natCast]
  have hl : i < s.data.toList.length := by simpa using hi
  rw [List.getElem?_eq_getElem hl]
  rfl
theorem or_hex (x y : Int) (hx : 0 ≤ x ∧ x < 16) (hy : 0 ≤ y ∧ y < 16) : bits .or .u8 (x * 16 % 256) y = 16 * x + y := by
  have : ∀ a b : Fin 16, bits .or .u8 (((a.1 : Nat) : Int) * 16 % 256) ((b.1 : Nat) : Int) = 16 * ((a.1 : Nat) : Int) + ((b.1 : Nat) : Int) := by decide +kernel
  obtain ⟨a, rfl⟩ := Int.eq_ofNat_of_zero_le hx.1
  obtain ⟨b, rfl⟩ := Int.eq_ofNat_of_zero_le hy.1
  exact this ⟨a, by omega⟩ ⟨b, by omega⟩
/-- What is read, i digits in. -/
def curD (s : ByteArray) (i : Nat) : List Int := (List.range 32).map fun j => if 2 * j + 1 < i then 16 * h16 (chr s (2 * j)) + h16 (chr s (2 * j + 1)) else if 2 * j < i then h16 (chr s (2 * j)) else 0
theorem curD_length (s : ByteArray) (i : Nat) : (curD s i).length = 32 := by simp [curD]
def zeros32 : List Int := List.replicate 32 0
/-- A text's digest and error. -/
def allDig (s : ByteArray) : Bool := (List.range 64).all fun i => decide (0 ≤ h16 (chr s i))
def readOf (s : ByteArray) : List Int × Int := if s.size = 64 ∧ allDig s = true then (curD s 64, 0) else (zeros32, 2)
theorem curD_zero (s : ByteArray) : curD s 0 = zeros32 := by
  unfold curD zeros32
  simp only [Nat.not_lt_zero, if_false]
  rfl
theorem curD_at (s : ByteArray) (i : Nat) (hi : i < 64) : rd (curD s i) ((i / 2 : Nat) : Int) = if i % 2 = 1 then h16 (chr s (i - 1)) else 0 := by
  unfold rd curD
  have h2 : i / 2 < 32 := by omega
  simp only [Int.toNat_natCast, List.getD_eq_getElem?_getD, List.getElem?_map]
  rw [List.getElem?_range h2]
  simp only [Option.map_some, Option.getD_some]
  by_cases hp : i % 2 = 1
  · rw [if_neg (by omega), if_pos (by omega), if_pos hp]
    congr 2; omega
  · rw [if_neg (by omega), if_neg (by omega), if_neg hp]
theorem curD_succ (s : ByteArray) (i : Nat) (hi : i < 64) : (curD s i).set (i / 2) (16 * rd (curD s i) ((i / 2 : Nat) : Int) + h16 (chr s i)) = curD s (i + 1) := by
  apply List.ext_getElem
  · simp [curD_length]
  · intro j hj1 hj2
    have hj : j < 32 := by simpa [curD_length] using hj2
    rw [List.getElem_set]
    by_cases he : i / 2 = j
    · rw [if_pos he, curD_at s i hi]
      subst he
      simp only [curD, List.getElem_map, List.getElem_range]
      by_cases hp : i % 2 = 1
      · rw [if_pos hp, if_pos (by omega), show 2 * (i / 2) = i - 1 by omega, show i - 1 + 1 = i by omega]
      · rw [if_neg hp, if_neg (by omega), if_pos (by omega), show 2 * (i / 2) = i by omega]
        omega
    · rw [if_neg he]
      simp only [curD, List.getElem_map, List.getElem_range]
      by_cases h1 : 2 * j + 1 < i
      · rw [if_pos h1, if_pos (by omega)]
      · rw [if_neg h1, if_neg (by omega), if_neg (by omega), if_neg (by omega)]
theorem arr_set (ds : List Int) (k : Nat) (x : Int) : (arr ds).setIfInBounds k (.int .u8 x) = arr (ds.set k x) := by
  simp [arr, List.map_set]

set_option maxHeartbeats 4000000 in
set_option maxRecDepth 100000 in
theorem read_short (s : ByteArray) (d : (((s.size : Int)) != 64) = true) (w : World) :
    Calls Tryd.prog 27 #[.string s] w fun e W' => e = .returned (.tuple #[.agg (arr zeros32), .int .i64 2]) ∧ Below w.heap.size w W' := by
  have HB := Aside0.mk (Below.refl w.heap.size w)
  go_enter Tryd.func27, Tryd.ntmps27
  go_wp2_with (
    first
    | ((with_reducible refine gate_dst (N := 2) rfl ?_); refine box_event ?hg (N := 2) ?hd (cs := arr zeros32) (t := 25) ?hr ?_; (case hd => rfl); (case hg => rfl); (case hr => first | (go_simp; done) | (go_simp; rfl));
       intro g2 hg w1 hbox hb; have BK := Aside0.mk hbox; have GE := Aside0.mk (show w.heap.size ≤ g2 by rw [hg]; exact Nat.le_refl _); have HB1 := Aside0.mk (below_step HB.out hb); clear HB; have HB := HB1; clear HB1 hb hbox hg)
    | ((with_reducible refine gate_dst (N := 9) rfl ?_); refine wpList_load_row rfl 25 (.tmp 2) rfl g2 rfl 25 (arr zeros32) (0, 0) _ BK.out Tryd.underlying25 rfl (by rw [arr_size]; exact info_dig) ?_)
    | ((with_reducible refine gate_store (p := 2) rfl ?_); refine dig_store rfl (.tmp 2) (.tmp 9) rfl g2 zeros32 zeros32 rfl rfl BK.out rfl rfl ?_; intro w3 bk _ hbel; have BK3 := Aside0.mk bk; have HB3 := Aside0.mk (hbel _ _ HB.out GE.out); clear bk hbel))
  refine bodyPost_ret (results_ct rfl _ _ g2 25 (arr zeros32) (0, 0) _ rfl BK3.out Tryd.underlying25 rfl (by rw [arr_size]; exact info_dig)) rfl ?_
  exact ⟨rfl, HB3.out⟩

set_option maxHeartbeats 4000000 in
set_option maxRecDepth 100000 in
theorem read_full (s : ByteArray) (HS : Aside0 (s.size = 64)) (d : (((s.size : Int)) != 64) = false) (w : World) :
    Calls Tryd.prog 27 #[.string s] w fun e W' => e = .returned (.tuple #[.agg (arr (readOf s).1), .int .i64 (readOf s).2]) ∧ Below w.heap.size w W' := by
  have HB := Aside0.mk (Below.refl w.heap.size w)
  go_enter Tryd.func27, Tryd.ntmps27
  go_wp2_with (
    first
    | ((with_reducible refine gate_dst (N := 2) rfl ?_); refine box_event ?hg (N := 2) ?hd (cs := arr zeros32) (t := 25) ?hr ?_; (case hd => rfl); (case hg => rfl); (case hr => first | (go_simp; done) | (go_simp; rfl));
       intro g2 hg w1 hbox hb; have BK := Aside0.mk hbox; have GE := Aside0.mk (show w.heap.size ≤ g2 by rw [hg]; exact Nat.le_refl _); have HB1 := Aside0.mk (below_step HB.out hb); clear HB; have HB := HB1; clear HB1 hb hbox hg))
  go_loopw [4, 5, 12] (fun _ _ i wr => ∃ k : Nat, k ≤ 64 ∧ i = .int .i64 (k : Int) ∧ Aside0 (wr.heap[g2]? = some (.cells (arr (curD s k)) 25 (0, 0)) ∧ (∀ j, j < k → 0 ≤ h16 (chr s j)) ∧ Below w.heap.size w wr)) (fun _ _ i _ => 64 - (intOf i).toNat)
  case atStart => exact ⟨0, by omega, rfl, ⟨by rw [curD_zero]; exact BK.out, fun j hj => by omega, HB.out⟩⟩
  case round =>
    obtain ⟨k, hk, rfl, HI⟩ := hrel
    clear HB BK
    have BK := Aside0.mk HI.out.1
    have HD := Aside0.mk HI.out.2.1
    have HB := Aside0.mk HI.out.2.2
    clear HI
    by_cases hlt : k < 64
    · have hix := fun W => run_index_str s k (by rw [HS.out]; exact hlt) W
      obtain ⟨c, hc⟩ : ∃ c, chr s k = c := ⟨_, rfl⟩
      have hcr := chr_range s k
      rw [hc] at hix hcr
      have HC := Aside0.mk hc
      have hr := h16_range c
      have hi16 := index_h16 c hcr.1 hcr.2
      have hgd : (decide (k < s.size)) = true := decide_eq_true (by rw [HS.out]; exact hlt)
      clear hc
      by_cases hn : h16 c < 0
      · have dn : decide (h16 c < 0) = true := decide_eq_true hn
        have HN : Aside0 (readOf s = (zeros32, 2)) := ⟨by
          unfold readOf
          rw [if_neg]
          rintro ⟨_, h⟩
          unfold allDig at h
          rw [List.all_eq_true] at h
          have := of_decide_eq_true (h k (List.mem_range.2 hlt))
          rw [HC.out] at this
          omega⟩
        go_wp2_with (
          first
          | (go_at_call 46; (with_reducible refine (index_walk _ c _).mono ?_); rw [hi16]; rintro e w' ⟨rfl, rfl⟩)
          | ((with_reducible refine gate_store (p := 2) rfl ?_); refine dig_store rfl (.tmp 2) (.tmp 21) rfl g2 zeros32 (curD s k) rfl rfl BK.out rfl (curD_length s k) ?_; intro w3 bk _ hbel; have BK3 := Aside0.mk bk; have HB3 := Aside0.mk (hbel _ _ HB.out GE.out); clear bk hbel))
        rw [HN.out]
        refine bodyPost_ret (results_ct rfl _ _ g2 25 (arr zeros32) (0, 0) _ rfl BK3.out Tryd.underlying25 rfl (by rw [arr_size]; exact info_dig)) rfl ?_
        exact ⟨rfl, HB3.out⟩
      · have hget := arr_get (curD s k) (k / 2) (by rw [curD_length]; omega)
        obtain ⟨x, hx⟩ : ∃ x, rd (curD s k) ((k / 2 : Nat) : Int) = x := ⟨_, rfl⟩
        rw [hx] at hget
        have hcell : wr.cell? ⟨g2, k / 2, none⟩ = some (.int .u8 x) := (blk_cell BK.out (k / 2)).trans hget
        have hfz := blk_frozen BK.out (k / 2)
        have dn : decide (h16 c < 0) = false := decide_eq_false hn
        go_wp2_with (
          first
          | (go_at_call 46; (with_reducible refine (index_walk _ c _).mono ?_); rw [hi16]; rintro e w' ⟨rfl, rfl⟩))
        have hor : bits .or .u8 (x * 16 % 256) (h16 c) = 16 * x + h16 c := or_hex x _ (by
          rw [← hx, curD_at s k hlt]
          split
          · have := HD.out (k - 1) (by omega)
            have h2 := (h16_range (chr s (k - 1))).2
            omega
          · omega) (by omega)
        rw [hor]
        refine ⟨⟨k + 1, by omega, by simp, ⟨?_, ?_, HB.out.setCell (p := ⟨g2, k / 2, none⟩) GE.out _⟩⟩, by simp [intOf]; omega⟩
        · refine blk_put BK.out (k / 2) _ ?_
          rw [arr_set, ← hx, ← HC.out, curD_succ s k hlt]
        · intro j hj
          rcases Nat.lt_or_ge j k with h | h
          · exact HD.out j h
          · obtain rfl : j = k := by omega
            rw [HC.out]; omega
    · have hk64 : k = 64 := by omega
      have HN : Aside0 (readOf s = (curD s k, 0)) := ⟨by
        rw [hk64] at HD ⊢
        unfold readOf
        rw [if_pos]
        refine ⟨HS.out, ?_⟩
        unfold allDig
        rw [List.all_eq_true]
        intro j hj
        exact decide_eq_true (HD.out j (List.mem_range.1 hj))⟩
      have hgd : (decide (k < s.size)) = false := decide_eq_false (by rw [HS.out]; omega)
      clear hk64 hlt hk
      go_wp2_with (
        first
        | ((with_reducible refine gate_dst (N := 34) rfl ?_); refine wpList_load_row rfl 25 (.tmp 2) rfl g2 rfl 25 (arr (curD s k)) (0, 0) _ BK.out Tryd.underlying25 rfl (by rw [arr_size, curD_length]; exact info_dig) ?_)
        | ((with_reducible refine gate_store (p := 2) rfl ?_); refine dig_store rfl (.tmp 2) (.tmp 34) rfl g2 (curD s k) (curD s k) rfl rfl BK.out (curD_length s 64) (curD_length s 64) ?_; intro w3 bk _ hbel; have BK3 := Aside0.mk bk; have HB3 := Aside0.mk (hbel _ _ HB.out GE.out); clear bk hbel))
      rw [HN.out]
      refine bodyPost_ret (results_ct rfl _ _ g2 25 (arr (curD s k)) (0, 0) _ rfl BK3.out Tryd.underlying25 rfl (by rw [arr_size, curD_length]; exact info_dig)) rfl ?_
      exact ⟨rfl, HB3.out⟩
theorem read_walk (s : ByteArray) (w : World) :
    Calls Tryd.prog 27 #[.string s] w fun e W' => e = .returned (.tuple #[.agg (arr (readOf s).1), .int .i64 (readOf s).2]) ∧ Below w.heap.size w W' := by
  by_cases h : s.size = 64
  · exact read_full s ⟨h⟩ (by simp [h]) w
  · have e : readOf s = (zeros32, 2) := by unfold readOf; rw [if_neg (fun hh => h hh.1)]
    rw [e]
    exact read_short s (by simp; omega) w
end Go.Proofs.YtoaimcobcgomjaaDoor.Q
