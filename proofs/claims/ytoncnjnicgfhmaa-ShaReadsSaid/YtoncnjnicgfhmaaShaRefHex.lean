/-
  beadrollref02.Hex: a digest's text, the document's (written by wip/tools/gen_refhex.py).
-/
import Derived.Test.YtoncnjnicgfhmaaShaHex
import Derived.Laws.IdiomStrings
namespace Go.Proofs.Ytoncnjnicgfhmaa.Q
open Go.RowKit Go.Proofs.YtoncnjnicgfhmaaW.PrintWords Go.Proofs.YtoncnjnicgfhmaaW.PrintLast Go.Proofs.YtoncnjnicgfhmaaW.PrintMore
set_option linter.unusedVariables false
set_option linter.unusedSimpArgs false

def rhex_T : Bool × List (List Nat × List Nat) := (true, [([], []), ([], []), ([1], [1]), ([2], [2]), ([3], [3]), ([4], [4]), ([], []), ([6], [6]), ([7], [7]), ([8], [8]), ([9], [9]), ([5, 10], [5, 10]), ([0, 11], [0, 11]), ([12, 12, 0, 1, 2, 3, 4, 5, 6, 7, 8, 9, 10, 11, 12], [0, 12])])
def rhex_B : List Nat := [0, 0, 2, 6, 14, 30, 0, 64, 192, 448, 960, 2046, 4095, 8191]
theorem rhex_tab : rtab .any (opsOf Try.f25 5) = rhex_T := by kernel_rfl
theorem rhex_bits : waitsOk rhex_T.2 rhex_B = true := by kernel_rfl

theorem two_C (w : World) (x y : Int) : Kd.C (Kd.int .u8) (w.alloc (.cells #[.int .u8 x, .int .u8 y] 5)) (some ⟨w.heap.size, 0, none⟩) 2 [x, y] :=
  (Kd.R_reads' (Kd.R_of_own (ok := fun _ => True) (by simpa [nums, encs] using own_lit w w.heap.size 5 .u8 [x, y] (Nat.le_refl _) (by simp)) (fun _ _ => trivial))).2.2

set_option maxHeartbeats 4000000 in
set_option maxRecDepth 100000 in
theorem rhex_walk (ds : List Int) (hd : Dig ds) (w : World) :
    Calls Try.prog 25 #[.agg (arr ds)] w fun e W' => e = .returned (.string ⟨(hexOf ds).toArray⟩) ∧ Below w.heap.size w W' := by
  have HD := Aside0.mk hd
  have HB := Aside0.mk (Below.refl w.heap.size w)
  clear hd
  go_enter Try.func25, Try.ntmps25
  go_wp2_with (
    first
    | ((with_reducible refine gate_dst (N := 1) rfl ?_); refine box_event ?hg (N := 1) ?hd (cs := arr ds) (t := 47) ?hr ?_; (case hd => rfl); (case hg => rfl); (case hr => first | (go_simp; done) | (go_simp; rfl));
       intro g1 hg w1 hbox hb; have BK1 := Aside0.mk hbox; have GE1 := Aside0.mk (show w.heap.size ≤ g1 by rw [hg]; exact Nat.le_refl _); have HB1 := Aside0.mk (below_step HB.out hb); clear HB; have HB := HB1; clear HB1 hb hbox hg))
  go_loopw [3, 4] (fun v i wr => ∃ k : Nat, k ≤ 32 ∧ i = .int .i64 (k : Int) ∧ Aside0 (wr.heap[g1]? = some (.cells (arr ds) 47 (0, 0)) ∧ Kd.R (Kd.int .u8) 5 wr w.heap.size (fun _ => True) v (ints (hexOf (ds.take k))) ∧ Below w.heap.size w wr)) (fun _ i _ => 32 - (intOf i).toNat)
  case atStart => exact ⟨0, by omega, rfl, ⟨BK1.out, Kd.R_nil _ _ _ _ _, HB.out⟩⟩
  case round =>
    obtain ⟨k, hk, rfl, HI⟩ := hrel
    clear HB BK1
    have BK1 := Aside0.mk HI.out.1
    have HO := Aside0.mk HI.out.2.1
    have HB := Aside0.mk HI.out.2.2
    clear HI
    by_cases hlt : k < 32
    · have hkl : k < ds.length := by rw [HD.out.1]; exact hlt
      obtain ⟨d, hd⟩ : ∃ d, rd ds (k : Int) = d := ⟨_, rfl⟩
      have hget := arr_get ds k hkl
      rw [hd] at hget
      have hd2 : 0 ≤ d ∧ d < 256 := by
        rw [← hd]; exact HD.out.2 _ (by simp [rd, hkl])
      have hs1 := fun W => run_index_hex (d / 16) (by omega) (by omega) .u8 W
      have hs2 := fun W => run_index_hex (d % 16) (by omega) (by omega) .u8 W
      have hq : IntKind.u8.wrap (d.tdiv 16) = d / 16 := by rw [Int.tdiv_eq_ediv_of_nonneg hd2.1, IntKind.wrap_u8]; omega
      have hr : d.tmod 16 = d % 16 := Int.tmod_eq_emod_of_nonneg hd2.1
      have hcell : wr.drew.cell? ⟨g1, k, none⟩ = some (.int .u8 d) := (blk_cell BK1.out k).trans hget
      have HL : Aside0 ((ints (hexOf (ds.take k))).length < 100000) := ⟨by rw [ints_length, hexOf_length, List.length_take]; omega⟩
      obtain ⟨A2, c2, e2⟩ := Kd.R_slice HO.out
      subst e2
      go_wp2
      refine start_ (n := 14) (S := fun w' => w'.cell? ⟨g1, k, none⟩ = some (.int .u8 d)) (ds := []) #[false, false, false, false, false, false, false, false, false, false, false, false, false, false] (by kernel_rfl) rfl rfl hcell (fun hHeld => ?_)
      refine with_tabW rhex_tab rhex_bits (fun HT_ HW_ => ?_)
      refine pure_ (i := 0) (N := (some 9)) (v := ?_) (a' := ?_) #[true, false, false, false, false, false, false, false, false, false, false, false, false, false] rfl rfl (any_of HT_.out (by kernel_rfl)) (fun _ _ _ h => h) (Or.inl ⟨by rfl, ?_⟩) ?_ ?_
      rotate_left
      · intro w'
        go_simp
        first | with_reducible rfl | (simp; done) | rfl
      rotate_left
      · simp only [Act.put, List.setIfInBounds_toArray, List.set_cons_zero, List.set_cons_succ, i64_w, i32_w]
        rfl
      refine pure_ (i := 1) (N := (some 10)) (v := ?_) (a' := ?_) #[true, true, false, false, false, false, false, false, false, false, false, false, false, false] rfl rfl (any_of HT_.out (by kernel_rfl)) (fun _ _ _ h => h) (Or.inl ⟨by rfl, ?_⟩) ?_ ?_
      rotate_left
      · intro w'
        go_simp
        first | with_reducible rfl | (simp; done) | rfl
      rotate_left
      · simp only [Act.put, List.setIfInBounds_toArray, List.set_cons_zero, List.set_cons_succ, i64_w, i32_w]
        rfl
      refine pure_ (i := 2) (N := (some 11)) (v := ?_) (a' := ?_) #[true, true, true, false, false, false, false, false, false, false, false, false, false, false] rfl rfl (any_of HT_.out (by kernel_rfl)) (fun _ _ _ h => h) (Or.inl ⟨by rfl, ?_⟩) ?_ ?_
      rotate_left
      · intro w'
        go_simp
        first | with_reducible rfl | (simp; done) | rfl
      rotate_left
      · simp only [Act.put, List.setIfInBounds_toArray, List.set_cons_zero, List.set_cons_succ, i64_w, i32_w]
        rfl
      refine pure_ (i := 6) (N := (some 15)) (v := ?_) (a' := ?_) #[true, true, true, false, false, false, true, false, false, false, false, false, false, false] rfl rfl (any_of HT_.out (by kernel_rfl)) (fun _ _ _ h => h) (Or.inl ⟨by rfl, ?_⟩) ?_ ?_
      rotate_left
      · intro w'
        go_simp
        first | with_reducible rfl | (simp; done) | rfl
      rotate_left
      · simp only [Act.put, List.setIfInBounds_toArray, List.set_cons_zero, List.set_cons_succ, i64_w, i32_w]
        rfl
      refine pure_ (i := 7) (N := (some 16)) (v := ?_) (a' := ?_) #[true, true, true, false, false, false, true, true, false, false, false, false, false, false] rfl rfl (any_of HT_.out (by kernel_rfl)) (fun _ _ _ h => h) (Or.inl ⟨by rfl, ?_⟩) ?_ ?_
      rotate_left
      · intro w'
        go_simp
        first | with_reducible rfl | (simp; done) | rfl
      rotate_left
      · simp only [Act.put, List.setIfInBounds_toArray, List.set_cons_zero, List.set_cons_succ, i64_w, i32_w]
        rfl
      refine take_ (i := 3) (N := (some 12)) (v := ?_) (a' := ?_) #[true, true, true, true, false, false, true, true, false, false, false, false, false, false] rfl rfl (take_ofW HT_.out HW_.out (by kernel_rfl)) (fun _ _ _ h => h) (Or.inl ⟨by rfl, ?_⟩) hHeld ?_ ?_
      rotate_left
      · rintro w' s0
        go_simp
        with_reducible rfl
      rotate_left
      · simp only [Act.put, List.setIfInBounds_toArray, List.set_cons_zero, List.set_cons_succ, i64_w, i32_w]
        rfl
      refine take_ (i := 8) (N := (some 17)) (v := ?_) (a' := ?_) #[true, true, true, true, false, false, true, true, true, false, false, false, false, false] rfl rfl (take_ofW HT_.out HW_.out (by kernel_rfl)) (fun _ _ _ h => h) (Or.inl ⟨by rfl, ?_⟩) hHeld ?_ ?_
      rotate_left
      · rintro w' s0
        go_simp
        with_reducible rfl
      rotate_left
      · simp only [Act.put, List.setIfInBounds_toArray, List.set_cons_zero, List.set_cons_succ, i64_w, i32_w]
        rfl
      refine pure_ (i := 4) (N := (some 13)) (v := ?_) (a' := ?_) #[true, true, true, true, true, false, true, true, true, false, false, false, false, false] rfl rfl (any_of HT_.out (by kernel_rfl)) (fun _ _ _ h => h) (Or.inl ⟨by rfl, ?_⟩) ?_ ?_
      rotate_left
      · intro w'
        go_simp
        first | with_reducible rfl | (simp; done) | rfl
      rotate_left
      · simp only [Act.put, List.setIfInBounds_toArray, List.set_cons_zero, List.set_cons_succ, i64_w, i32_w]
        rfl
      refine pure_ (i := 5) (N := (some 14)) (v := ?_) (a' := ?_) #[true, true, true, true, true, true, true, true, true, false, false, false, false, false] rfl rfl (any_of HT_.out (by kernel_rfl)) (fun _ _ _ h => h) (Or.inl ⟨by rfl, ?_⟩) ?_ ?_
      rotate_left
      · intro w'
        go_simp
        first | with_reducible rfl | (simp; done) | rfl
      rotate_left
      · simp only [Act.put, List.setIfInBounds_toArray, List.set_cons_zero, List.set_cons_succ, i64_w, i32_w]
        rfl
      refine pure_ (i := 9) (N := (some 18)) (v := ?_) (a' := ?_) #[true, true, true, true, true, true, true, true, true, true, false, false, false, false] rfl rfl (any_of HT_.out (by kernel_rfl)) (fun _ _ _ h => h) (Or.inl ⟨by rfl, ?_⟩) ?_ ?_
      rotate_left
      · intro w'
        go_simp
        first | with_reducible rfl | (simp; done) | rfl
      rotate_left
      · simp only [Act.put, List.setIfInBounds_toArray, List.set_cons_zero, List.set_cons_succ, i64_w, i32_w]
        rfl
      refine pure_ (i := 10) (N := (some 19)) (v := ?_) (a' := ?_) #[true, true, true, true, true, true, true, true, true, true, true, false, false, false] rfl rfl (any_of HT_.out (by kernel_rfl)) (fun _ _ _ h => h) (Or.inl ⟨by rfl, ?_⟩) ?_ ?_
      rotate_left
      · intro w'
        go_simp
        first | with_reducible rfl | (simp; done) | rfl
      rotate_left
      · simp only [Act.put, List.setIfInBounds_toArray, List.set_cons_zero, List.set_cons_succ, i64_w, i32_w]
        rfl
      refine one_ (i := 11) (N := (some 20)) #[true, true, true, true, true, true, true, true, true, true, true, true, false, false] rfl rfl (one_of HT_.out (by kernel_rfl)) (by decide) (fun K hK => ?_)
      refine event_step (w1 := wr.drew.alloc (.cells #[.int .u8 ((hx (d / 16)).toNat : Int), .int .u8 ((hx (d % 16)).toNat : Int)] 5)) (v := .slice (some ⟨wr.drew.heap.size, 0, none⟩) 2 2) (by rfl) (by go_simp; try rfl) ?_
      refine hK.out _ _ ((World.cell?_alloc_past _ _ _ (World.block_lt_of_cell? _ _ hHeld)).trans hHeld) (fun hHeld => ?_)
      clear hK K
      refine norm_ (a' := ?_) ?_ ?_
      rotate_left
      · show Act.put _ (some 20) _ = _
        simp only [Act.put, List.setIfInBounds_toArray, List.set_cons_zero, List.set_cons_succ, i64_w, i32_w]
        rfl
      refine one_ (i := 12) (N := (some 21)) #[true, true, true, true, true, true, true, true, true, true, true, true, true, false] rfl rfl (one_of HT_.out (by kernel_rfl)) (by decide) (fun K hK => ?_)
      refine Kd.R_append_rows_step (Kd.int .u8) (w0 := w) w.heap.size (by rfl) (.tmp 9) (.tmp 20) 23 5 (.int .u8 0) 1 rfl Try.underlying23 info5 rfl (by decide) (by omega) (.slice A2 (ints (hexOf (ds.take k))).length c2) (ints (hexOf (ds.take k))) [((hx (d / 16)).toNat : Int), ((hx (d % 16)).toNat : Int)] (some ⟨wr.drew.heap.size, 0, none⟩) 2 2 (fun _ => True) (fun _ => False) rfl rfl ?aO ?aR (fun _ _ h => h) (fun _ h => h.elim) (fun _ _ => trivial) ?aB ?aS ?aL ?_
      case aO => exact Kd.R_alloc (Kd.R_drew HO.out) _
      case aR => exact two_C _ _ _
      case aB => exact below_alloc (below_drew HB.out) _
      case aS => exact below_size (below_alloc (below_drew HB.out) _)
      case aL => have := HL.out; omega
      intro v1 w3 ho hb hg hat
      obtain ⟨A3, c3, e3⟩ := Kd.R_slice ho
      subst e3
      have HO3 := Aside0.mk ho
      have HB3 := Aside0.mk hb
      have hHeld3 : w3.heap[g1]? = some (.cells (arr ds) 47 (0, 0)) := blk_grown (blk_alloc (blk_drew BK1.out) _) hg (Kd.R_ne HO.out BK1.out (by decide))
      have BK3 := Aside0.mk hHeld3
      clear ho hb hg hat hHeld3
      refine hK.out _ _ ((blk_cell BK3.out k).trans hget) (fun hHeld => ?_)
      clear hK K
      refine norm_ (a' := ?_) ?_ ?_
      rotate_left
      · show Act.put _ (some 21) _ = _
        simp only [Act.put, List.setIfInBounds_toArray, List.set_cons_zero, List.set_cons_succ, i64_w, i32_w]
        rfl
      refine pure_ (i := 13) (N := (some 3)) (v := ?_) (a' := ?_) #[true, true, true, true, true, true, true, true, true, true, true, true, true, true] rfl rfl (any_of HT_.out (by kernel_rfl)) (fun _ _ _ h => h) (Or.inl ⟨by rfl, ?_⟩) ?_ ?_
      rotate_left
      · intro w'
        go_simp
        first | with_reducible rfl | (simp; done) | rfl
      rotate_left
      · simp only [Act.put, List.setIfInBounds_toArray, List.set_cons_zero, List.set_cons_succ, i64_w, i32_w]
        rfl
      refine done_ (done_of HT_.out (by kernel_rfl)) ?_
      go_wp2
      go_roundw
      case rel =>
        refine ⟨k + 1, by omega, by go_num, ⟨BK3.out, ?_, HB3.out⟩⟩
        have := HO3.out
        have e : ints (hexOf (ds.take (k + 1))) = ints (hexOf (ds.take k)) ++ [((hx (d / 16)).toNat : Int), ((hx (d % 16)).toNat : Int)] := by rw [hexOf_take ds k hkl, hd, ints_snoc, ints_snoc]; simp
        rw [e]
        simp only [List.length_append, List.length_cons, List.length_nil, Nat.zero_add] at this
        exact this
      case measure => simp [intOf]; omega
    · have hk32 : k = 32 := by omega
      have ho := HO.out
      rw [List.take_of_length_le (by rw [HD.out.1]; omega)] at ho
      have hlen : (hexOf ds).length = 64 := by rw [hexOf_length, HD.out.1]
      clear hk32 hk
      obtain ⟨g, cap, rfl, hg, _, cells, hc⟩ := Kd.R_form ho (by rw [ints_length]; omega)
      obtain ⟨_, hlc, hrd⟩ := Kd.R_reads' ho
      have hconv : (convert 23 9 (.slice (some ⟨g, 0, none⟩) (hexOf ds).length cap)).run Try.prog wr = .ok (.string ⟨(hexOf ds).toArray⟩) wr := by
        refine run_convert_bytes_back wr 23 9 5 ⟨g, 0, none⟩ cap (hexOf ds) Try.underlying23 Try.underlying5 Try.underlying9 ?_
        intro j hj
        obtain ⟨ad, he, hy⟩ := Kd.at_int hrd (j : Int) (by omega) (by rw [ints_length]; omega)
        cases he
        rw [Int.toNat_natCast] at hy
        rw [hy]
        simp [rd, ints, hj]
      clear HO ho hrd hc
      rw [ints_length]
      rw [hlen] at hconv ⊢
      clear hlen hlc
      go_wp2
      go_ret
      exact ⟨rfl, HB.out⟩
end Go.Proofs.Ytoncnjnicgfhmaa.Q
