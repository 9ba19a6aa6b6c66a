/-
  beadrollref02.Read: a text's digest, the document's (written by wip/tools/gen_refread.py).
-/
import Derived.Test.YtoncnjnicgfhmaaShaRead
namespace Go.Proofs.Ytoncnjnicgfhmaa.Q
open Go.RowKit Go.Proofs.YtoncnjnicgfhmaaW.PrintWords Go.Proofs.YtoncnjnicgfhmaaW.PrintLast Go.Proofs.YtoncnjnicgfhmaaW.PrintMore
set_option linter.unusedVariables false
set_option linter.unusedSimpArgs false

theorem hexL_at (j : Nat) (h : j < 16) : hexL[j]? = some (hx (j : Int)) := by
  have e : hexL.length = 16 := rfl
  simp [hx, List.getD_eq_getElem?_getD, List.getElem?_eq_getElem (show j < hexL.length by omega)]
theorem h16_found (c : Int) (k : Nat) (hk : k < 16) (h : ∀ j : Nat, j < k → ((hx (j : Int)).toNat : Int) ≠ c) (he : ((hx (k : Int)).toNat : Int) = c) : h16 c = k := by
  have e : hexL.length = 16 := rfl
  have : hexL.findIdx? (fun b => (b.toNat : Int) == c) = some k := by
    rw [List.findIdx?_eq_some_iff_getElem]
    have g : ∀ (j : Nat) (hj : j < hexL.length), hexL[j] = hx (j : Int) := fun j hj => by
      have := hexL_at j (by omega)
      rw [List.getElem?_eq_getElem hj] at this
      exact Option.some.inj this
    refine ⟨by omega, ?_, ?_⟩
    · rw [g k (by omega)]; simpa using he
    · intro j hj
      rw [g j (by omega)]; simpa using h j hj
  unfold h16
  rw [this]
theorem h16_none (c : Int) (h : ∀ j : Nat, j < 16 → ((hx (j : Int)).toNat : Int) ≠ c) : h16 c = -1 := by
  have e : hexL.length = 16 := rfl
  have : hexL.findIdx? (fun b => (b.toNat : Int) == c) = none := by
    rw [List.findIdx?_eq_none_iff]
    intro b hb
    obtain ⟨j, hj, rfl⟩ := List.mem_iff_getElem.1 hb
    have := hexL_at j (by omega)
    rw [List.getElem?_eq_getElem hj] at this
    rw [Option.some.inj this]
    simpa using h j (by omega)
  unfold h16
  rw [this]
set_option maxHeartbeats 2000000 in
theorem digit_walk (c : Int) (h0 : 0 ≤ c) (h1 : c < 256) (w : World) :
    Calls Try.prog 31 #[.int .u8 c] w fun e w' => e = .returned (.int .i64 (h16 c)) ∧ w' = w := by
  go_enter Try.func31, Try.ntmps31
  go_wp2
  go_loop [3] (fun i => ∃ k : Nat, k ≤ 16 ∧ i = .int .i64 (k : Int) ∧ Aside0 (∀ j : Nat, j < k → ((hx (j : Int)).toNat : Int) ≠ c)) (fun i => 16 - (intOf i).toNat)
  case atStart => exact ⟨0, by omega, rfl, ⟨fun j hj => by omega⟩⟩
  case round =>
    obtain ⟨k, hk, rfl, HN⟩ := hrel
    by_cases hlt : k < 16
    · have hs := fun W => run_index_hex (k : Int) (by omega) (by omega) .i64 W
      obtain ⟨x, hx0⟩ : ∃ x : Int, ((hx (k : Int)).toNat : Int) = x := ⟨_, rfl⟩
      rw [hx0] at hs
      have HX := Aside0.mk hx0
      clear hx0
      by_cases he : x = c
      · have d1 : (x == c) = true := beq_iff_eq.2 he
        have HE := Aside0.mk he
        clear he
        go_wp2
        go_ret
        exact ⟨by rw [h16_found c k hlt HN.out (HX.out.trans HE.out)]; rfl, rfl⟩
      · have d1 : (x == c) = false := beq_eq_false_iff_ne.2 he
        have HE := Aside0.mk he
        clear he
        go_wp2
        go_round
        case rel =>
          refine ⟨k + 1, by omega, by go_num, ⟨fun j hj => ?_⟩⟩
          rcases Nat.lt_or_ge j k with h | h
          · exact HN.out j h
          · obtain rfl : j = k := by omega
            rw [HX.out]; exact HE.out
        case measure => simp [intOf]; omega
    · have HK := Aside0.mk (show k = 16 by omega)
      clear hk
      go_wp2
      go_ret
      exact ⟨by rw [h16_none c (by have := HN.out; rwa [HK.out] at this)]; rfl, rfl⟩

theorem curD_two (s : ByteArray) (i : Nat) (hi : i < 32) : (curD s (2 * i)).set i (16 * h16 (chr s (2 * i)) + h16 (chr s (2 * i + 1))) = curD s (2 * (i + 1)) := by
  apply List.ext_getElem
  · simp [curD_length]
  · intro j hj1 hj2
    have hj : j < 32 := by simpa [curD_length] using hj2
    rw [List.getElem_set]
    simp only [curD, List.getElem_map, List.getElem_range]
    by_cases he : i = j
    · subst he
      rw [if_pos rfl, if_pos (by omega)]
    · rw [if_neg he]
      by_cases h1 : 2 * j + 1 < 2 * i
      · rw [if_pos h1, if_pos (by omega)]
      · rw [if_neg h1, if_neg (by omega), if_neg (by omega), if_neg (by omega)]

def rread_T : Bool × List (List Nat × List Nat) := (true, [([], []), ([], []), ([1], [1]), ([0, 2], [0, 2]), ([3], [3]), ([], []), ([], []), ([6], [6]), ([7], [7]), ([5, 8], [5, 8]), ([9, 4], [9]), ([4, 10, 0, 1, 2, 3, 4], [4]), ([10, 11, 0, 1, 2, 3, 4, 5, 6, 7, 8, 9, 10, 11], [10])])
def rread_B : List Nat := [0, 0, 2, 7, 15, 0, 0, 64, 192, 480, 1023, 2047, 4095]
theorem rread_tab : rtab .any (opsOf Try.f23 7) = rread_T := by kernel_rfl
theorem rread_bits : waitsOk rread_T.2 rread_B = true := by kernel_rfl

set_option maxHeartbeats 4000000 in
set_option maxRecDepth 100000 in
theorem rread_short (s : ByteArray) (d : (((s.size : Int)) != 64) = true) (w : World) :
    Calls Try.prog 23 #[.string s] w fun e W' => e = .returned (.tuple #[.agg (arr zeros32), .int .i64 2]) ∧ Below w.heap.size w W' := by
  have HB := Aside0.mk (Below.refl w.heap.size w)
  go_enter Try.func23, Try.ntmps23
  go_wp2_with (
    first
    | ((with_reducible refine gate_dst (N := 2) rfl ?_); refine box_event ?hg (N := 2) ?hd (cs := arr zeros32) (t := 47) ?hr ?_; (case hd => rfl); (case hg => rfl); (case hr => first | (go_simp; done) | (go_simp; rfl));
       intro g2 hg w1 hbox hb; have BK2 := Aside0.mk hbox; have GE2 := Aside0.mk (show w.heap.size ≤ g2 by rw [hg]; exact Nat.le_refl _); have HB1 := Aside0.mk (below_step HB.out hb); clear HB; have HB := HB1; clear HB1 hb hbox hg)
    | ((with_reducible refine gate_dst (N := 4) rfl ?_); refine box_event ?hg (N := 4) ?hd (cs := arr zeros32) (t := 47) ?hr ?_; (case hd => rfl); (case hg => rfl); (case hr => first | (go_simp; done) | (go_simp; rfl));
       intro g4 hg w2 hbox hb; have BK4 := Aside0.mk hbox; have GE4 := Aside0.mk (show w.heap.size ≤ g4 by rw [hg]; exact below_size HB.out);
       have bk2 := Aside0.mk (blk_below BK2.out hb); have NE := Aside0.mk (show g2 ≠ g4 by rw [hg]; exact Nat.ne_of_lt (blk_lt BK2.out)); have HB1 := Aside0.mk (below_step HB.out hb); clear HB BK2; have HB := HB1; have BK2 := bk2; clear HB1 bk2 hb hbox hg)
    | ((with_reducible refine gate_dst (N := 11) rfl ?_); refine wpList_load_row rfl 47 (.tmp 4) rfl g4 rfl 47 (arr zeros32) (0, 0) _ BK4.out Try.underlying47 rfl (by rw [arr_size]; exact info_dig) ?_)
    | ((with_reducible refine gate_store (p := 2) rfl ?_); refine dig_store rfl (.tmp 2) (.tmp 11) rfl g2 zeros32 zeros32 rfl rfl BK2.out rfl rfl ?_; intro w3 bk _ hbel; have BK3 := Aside0.mk bk; have HB3 := Aside0.mk (hbel _ _ HB.out GE2.out); clear bk hbel))
  refine bodyPost_ret (results_ct rfl _ _ g2 47 (arr zeros32) (0, 0) _ rfl BK3.out Try.underlying47 rfl (by rw [arr_size]; exact info_dig)) rfl ?_
  exact ⟨rfl, HB3.out⟩
set_option maxHeartbeats 4000000 in
set_option maxRecDepth 100000 in
theorem rread_full (s : ByteArray) (HS : Aside0 (s.size = 64)) (d : (((s.size : Int)) != 64) = false) (w : World) :
    Calls Try.prog 23 #[.string s] w fun e W' => e = .returned (.tuple #[.agg (arr (readOf s).1), .int .i64 (readOf s).2]) ∧ Below w.heap.size w W' := by
  have HB := Aside0.mk (Below.refl w.heap.size w)
  go_enter Try.func23, Try.ntmps23
  go_wp2_with (
    first
    | ((with_reducible refine gate_dst (N := 2) rfl ?_); refine box_event ?hg (N := 2) ?hd (cs := arr zeros32) (t := 47) ?hr ?_; (case hd => rfl); (case hg => rfl); (case hr => first | (go_simp; done) | (go_simp; rfl));
       intro g2 hg w1 hbox hb; have BK2 := Aside0.mk hbox; have GE2 := Aside0.mk (show w.heap.size ≤ g2 by rw [hg]; exact Nat.le_refl _); have HB1 := Aside0.mk (below_step HB.out hb); clear HB; have HB := HB1; clear HB1 hb hbox hg)
    | ((with_reducible refine gate_dst (N := 4) rfl ?_); refine box_event ?hg (N := 4) ?hd (cs := arr zeros32) (t := 47) ?hr ?_; (case hd => rfl); (case hg => rfl); (case hr => first | (go_simp; done) | (go_simp; rfl));
       intro g4 hg w2 hbox hb; have BK4 := Aside0.mk hbox; have GE4 := Aside0.mk (show w.heap.size ≤ g4 by rw [hg]; exact below_size HB.out);
       have bk2 := Aside0.mk (blk_below BK2.out hb); have NE := Aside0.mk (show g2 ≠ g4 by rw [hg]; exact Nat.ne_of_lt (blk_lt BK2.out)); have HB1 := Aside0.mk (below_step HB.out hb); clear HB BK2; have HB := HB1; have BK2 := bk2; clear HB1 bk2 hb hbox hg))
  go_loopw [5, 6, 7] (fun i _ _ wr => ∃ k : Nat, k ≤ 32 ∧ i = .int .i64 (k : Int) ∧ Aside0 (wr.heap[g4]? = some (.cells (arr (curD s (2 * k))) 47 (0, 0)) ∧ wr.heap[g2]? = some (.cells (arr zeros32) 47 (0, 0)) ∧ (∀ j, j < 2 * k → 0 ≤ h16 (chr s j)) ∧ Below w.heap.size w wr)) (fun i _ _ _ => 32 - (intOf i).toNat)
  case atStart => exact ⟨0, by omega, rfl, ⟨by rw [Nat.mul_zero, curD_zero]; exact BK4.out, BK2.out, fun j hj => by omega, HB.out⟩⟩
  case round =>
    obtain ⟨k, hk, rfl, HI⟩ := hrel
    clear HB BK2 BK4
    have BK4 := Aside0.mk HI.out.1
    have BK2 := Aside0.mk HI.out.2.1
    have HD := Aside0.mk HI.out.2.2.1
    have HB := Aside0.mk HI.out.2.2.2
    clear HI
    by_cases hlt : k < 32
    · have hix1 := fun W => run_index_str s (2 * k) (by rw [HS.out]; omega) W
      have hix2 := fun W => run_index_str s (2 * k + 1) (by rw [HS.out]; omega) W
      obtain ⟨c1, hc1⟩ : ∃ c, chr s (2 * k) = c := ⟨_, rfl⟩
      obtain ⟨c2, hc2⟩ : ∃ c, chr s (2 * k + 1) = c := ⟨_, rfl⟩
      rw [hc1] at hix1
      rw [hc2] at hix2
      rw [show ((2 * k : Nat) : Int) = 2 * (k : Int) by omega] at hix1
      rw [show ((2 * k + 1 : Nat) : Int) = 2 * (k : Int) + 1 by omega] at hix2
      have hw1 : IntKind.i64.wrap (2 * (k : Int)) = 2 * (k : Int) := by rw [IntKind.wrap_i64]; omega
      have hw2 : IntKind.i64.wrap (2 * (k : Int) + 1) = 2 * (k : Int) + 1 := by rw [IntKind.wrap_i64]; omega
      have Hc1 := Aside0.mk (hc1 ▸ chr_range s (2 * k))
      have Hc2 := Aside0.mk (hc2 ▸ chr_range s (2 * k + 1))
      have HC1 := Aside0.mk hc1
      have HC2 := Aside0.mk hc2
      clear hc1 hc2
      go_wp2
      refine start_ (n := 13) (S := fun w' => True) (ds := []) #[false, false, false, false, false, false, false, false, false, false, false, false, false] (by kernel_rfl) rfl rfl trivial (fun hHeld => ?_)
      refine with_tabW rread_tab rread_bits (fun HT_ HW_ => ?_)
      refine pure_ (i := 0) (N := (some 16)) (v := ?_) (a' := ?_) #[true, false, false, false, false, false, false, false, false, false, false, false, false] rfl rfl (any_of HT_.out (by kernel_rfl)) (fun _ _ _ h => h) (Or.inl ⟨by rfl, ?_⟩) ?_ ?_
      rotate_left
      · intro w'
        go_simp
        first | with_reducible rfl | (simp; done) | rfl
      rotate_left
      · simp only [Act.put, List.setIfInBounds_toArray, List.set_cons_zero, List.set_cons_succ, i64_w, i32_w]
        rfl
      refine pure_ (i := 1) (N := (some 17)) (v := ?_) (a' := ?_) #[true, true, false, false, false, false, false, false, false, false, false, false, false] rfl rfl (any_of HT_.out (by kernel_rfl)) (fun _ _ _ h => h) (Or.inl ⟨by rfl, ?_⟩) ?_ ?_
      rotate_left
      · intro w'
        go_simp
        first | with_reducible rfl | (simp; done) | rfl
      rotate_left
      · simp only [Act.put, List.setIfInBounds_toArray, List.set_cons_zero, List.set_cons_succ, i64_w, i32_w]
        rfl
      refine pure_ (i := 2) (N := (some 18)) (v := ?_) (a' := ?_) #[true, true, true, false, false, false, false, false, false, false, false, false, false] rfl rfl (any_of HT_.out (by kernel_rfl)) (fun _ _ _ h => h) (Or.inl ⟨by rfl, ?_⟩) ?_ ?_
      rotate_left
      · intro w'
        go_simp
        first | with_reducible rfl | (simp; done) | rfl
      rotate_left
      · simp only [Act.put, List.setIfInBounds_toArray, List.set_cons_zero, List.set_cons_succ, i64_w, i32_w]
        rfl
      refine pure_ (i := 3) (N := (some 19)) (v := ?_) (a' := ?_) #[true, true, true, true, false, false, false, false, false, false, false, false, false] rfl rfl (any_of HT_.out (by kernel_rfl)) (fun _ _ _ h => h) (Or.inl ⟨by rfl, ?_⟩) ?_ ?_
      rotate_left
      · intro w'
        go_simp
        first | with_reducible rfl | (simp; done) | rfl
      rotate_left
      · simp only [Act.put, List.setIfInBounds_toArray, List.set_cons_zero, List.set_cons_succ, i64_w, i32_w]
        rfl
      refine pure_ (i := 5) (N := (some 21)) (v := ?_) (a' := ?_) #[true, true, true, true, false, true, false, false, false, false, false, false, false] rfl rfl (any_of HT_.out (by kernel_rfl)) (fun _ _ _ h => h) (Or.inl ⟨by rfl, ?_⟩) ?_ ?_
      rotate_left
      · intro w'
        go_simp
        first | with_reducible rfl | (simp; done) | rfl
      rotate_left
      · simp only [Act.put, List.setIfInBounds_toArray, List.set_cons_zero, List.set_cons_succ, i64_w, i32_w]
        rfl
      refine pure_ (i := 6) (N := (some 22)) (v := ?_) (a' := ?_) #[true, true, true, true, false, true, true, false, false, false, false, false, false] rfl rfl (any_of HT_.out (by kernel_rfl)) (fun _ _ _ h => h) (Or.inl ⟨by rfl, ?_⟩) ?_ ?_
      rotate_left
      · intro w'
        go_simp
        first | with_reducible rfl | (simp; done) | rfl
      rotate_left
      · simp only [Act.put, List.setIfInBounds_toArray, List.set_cons_zero, List.set_cons_succ, i64_w, i32_w]
        rfl
      refine pure_ (i := 7) (N := (some 23)) (v := ?_) (a' := ?_) #[true, true, true, true, false, true, true, true, false, false, false, false, false] rfl rfl (any_of HT_.out (by kernel_rfl)) (fun _ _ _ h => h) (Or.inl ⟨by rfl, ?_⟩) ?_ ?_
      rotate_left
      · intro w'
        go_simp
        first | with_reducible rfl | (simp; done) | rfl
      rotate_left
      · simp only [Act.put, List.setIfInBounds_toArray, List.set_cons_zero, List.set_cons_succ, i64_w, i32_w]
        rfl
      refine pure_ (i := 8) (N := (some 24)) (v := ?_) (a' := ?_) #[true, true, true, true, false, true, true, true, true, false, false, false, false] rfl rfl (any_of HT_.out (by kernel_rfl)) (fun _ _ _ h => h) (Or.inl ⟨by rfl, ?_⟩) ?_ ?_
      rotate_left
      · intro w'
        go_simp
        first | with_reducible rfl | (simp; done) | rfl
      rotate_left
      · simp only [Act.put, List.setIfInBounds_toArray, List.set_cons_zero, List.set_cons_succ, i64_w, i32_w]
        rfl
      refine pure_ (i := 9) (N := (some 25)) (v := ?_) (a' := ?_) #[true, true, true, true, false, true, true, true, true, true, false, false, false] rfl rfl (any_of HT_.out (by kernel_rfl)) (fun _ _ _ h => h) (Or.inl ⟨by rfl, ?_⟩) ?_ ?_
      rotate_left
      · intro w'
        go_simp
        first | with_reducible rfl | (simp; done) | rfl
      rotate_left
      · simp only [Act.put, List.setIfInBounds_toArray, List.set_cons_zero, List.set_cons_succ, i64_w, i32_w]
        rfl
      refine one_ (i := 4) (N := (some 20)) #[true, true, true, true, true, true, true, true, true, true, false, false, false] rfl rfl (one_of HT_.out (by kernel_rfl)) (by decide) (fun K hK => ?_)
      refine goes_ Try.func31 (by kernel_rfl) rfl #[.int .u8 c1] (by rfl) rfl rfl (by (try simp only [List.map_toArray, List.map_cons, List.map_nil]); first | done | rfl) ?_
      with_reducible refine (digit_walk c1 Hc1.out.1 Hc1.out.2 _).mono ?_
      rintro e0 w' ⟨rfl, rfl⟩
      refine ⟨_, rfl, ?_⟩
      refine hK.out _ _ trivial (fun hHeld => ?_)
      clear hK K
      refine norm_ (a' := ?_) ?_ ?_
      rotate_left
      · show Act.put _ (some 20) _ = _
        simp only [Act.put, List.setIfInBounds_toArray, List.set_cons_zero, List.set_cons_succ, i64_w, i32_w]
        rfl
      refine one_ (i := 10) (N := (some 26)) #[true, true, true, true, true, true, true, true, true, true, true, false, false] rfl rfl (one_of HT_.out (by kernel_rfl)) (by decide) (fun K hK => ?_)
      refine goes_ Try.func31 (by kernel_rfl) rfl #[.int .u8 c2] (by rfl) rfl rfl (by (try simp only [List.map_toArray, List.map_cons, List.map_nil]); first | done | rfl) ?_
      with_reducible refine (digit_walk c2 Hc2.out.1 Hc2.out.2 _).mono ?_
      rintro e0 w' ⟨rfl, rfl⟩
      refine ⟨_, rfl, ?_⟩
      refine hK.out _ _ trivial (fun hHeld => ?_)
      clear hK K
      refine norm_ (a' := ?_) ?_ ?_
      rotate_left
      · show Act.put _ (some 26) _ = _
        simp only [Act.put, List.setIfInBounds_toArray, List.set_cons_zero, List.set_cons_succ, i64_w, i32_w]
        rfl
      refine pure_ (i := 11) (N := (some 6)) (v := ?_) (a' := ?_) #[true, true, true, true, true, true, true, true, true, true, true, true, false] rfl rfl (any_of HT_.out (by kernel_rfl)) (fun _ _ _ h => h) (Or.inl ⟨by rfl, ?_⟩) ?_ ?_
      rotate_left
      · intro w'
        go_simp
        first | with_reducible rfl | (simp; done) | rfl
      rotate_left
      · simp only [Act.put, List.setIfInBounds_toArray, List.set_cons_zero, List.set_cons_succ, i64_w, i32_w]
        rfl
      refine pure_ (i := 12) (N := (some 7)) (v := ?_) (a' := ?_) #[true, true, true, true, true, true, true, true, true, true, true, true, true] rfl rfl (any_of HT_.out (by kernel_rfl)) (fun _ _ _ h => h) (Or.inl ⟨by rfl, ?_⟩) ?_ ?_
      rotate_left
      · intro w'
        go_simp
        first | with_reducible rfl | (simp; done) | rfl
      rotate_left
      · simp only [Act.put, List.setIfInBounds_toArray, List.set_cons_zero, List.set_cons_succ, i64_w, i32_w]
        rfl
      refine done_ (done_of HT_.out (by kernel_rfl)) ?_
      have hr1 := h16_range c1
      have hr2 := h16_range c2
      by_cases hbad : h16 c1 < 0 ∨ h16 c2 < 0
      · have HN : Aside0 (readOf s = (zeros32, 2)) := ⟨by
          unfold readOf
          rw [if_neg]
          rintro ⟨_, h⟩
          unfold allDig at h
          rw [List.all_eq_true] at h
          have h1 := of_decide_eq_true (h (2 * k) (List.mem_range.2 (by omega)))
          have h2 := of_decide_eq_true (h (2 * k + 1) (List.mem_range.2 (by omega)))
          rw [HC1.out] at h1
          rw [HC2.out] at h2
          omega⟩
        by_cases hn1 : h16 c1 < 0
        · have d1 : decide (h16 c1 < 0) = true := decide_eq_true hn1
          clear hbad
          go_wp2_with (
            first
            | ((with_reducible refine gate_store (p := 2) rfl ?_); refine dig_store rfl (.tmp 2) (.tmp 33) rfl g2 zeros32 zeros32 rfl rfl (blk_drew BK2.out) rfl rfl ?_; intro w3 bk _ hbel; have BK3 := Aside0.mk bk; have HB3 := Aside0.mk (hbel _ _ (below_drew1 HB.out) GE2.out); clear bk hbel))
          rw [HN.out]
          refine bodyPost_ret (results_ct rfl _ _ g2 47 (arr zeros32) (0, 0) _ rfl BK3.out Try.underlying47 rfl (by rw [arr_size]; exact info_dig)) rfl ?_
          exact ⟨rfl, HB3.out⟩
        · have d1 : decide (h16 c1 < 0) = false := decide_eq_false hn1
          have d2 : decide (h16 c2 < 0) = true := decide_eq_true (by omega)
          clear hbad
          go_wp2_with (
            first
            | ((with_reducible refine gate_store (p := 2) rfl ?_); refine dig_store rfl (.tmp 2) (.tmp 33) rfl g2 zeros32 zeros32 rfl rfl (blk_drew BK2.out) rfl rfl ?_; intro w3 bk _ hbel; have BK3 := Aside0.mk bk; have HB3 := Aside0.mk (hbel _ _ (below_drew1 HB.out) GE2.out); clear bk hbel))
          rw [HN.out]
          refine bodyPost_ret (results_ct rfl _ _ g2 47 (arr zeros32) (0, 0) _ rfl BK3.out Try.underlying47 rfl (by rw [arr_size]; exact info_dig)) rfl ?_
          exact ⟨rfl, HB3.out⟩
      · have hn1 : 0 ≤ h16 c1 := by omega
        have hn2 : 0 ≤ h16 c2 := by omega
        have d1 : decide (h16 c1 < 0) = false := decide_eq_false (by omega)
        have d2 : decide (h16 c2 < 0) = false := decide_eq_false (by omega)
        have hcell : wr.drew.cell? ⟨g4, k, none⟩ = some (.int .u8 (rd (curD s (2 * k)) (k : Int))) := (blk_cell BK4.out k).trans (arr_get (curD s (2 * k)) k (by rw [curD_length]; exact hlt))
        have hfz : wr.drew.frozen? ⟨g4, k, none⟩ = false := blk_frozen (blk_drew BK4.out) k
        clear hbad
        go_wp2
        refine ⟨⟨k + 1, by omega, by simp, ⟨?_, blk_drew (blk_far BK2.out NE.out _), ?_, below_drew1 (HB.out.setCell (p := ⟨g4, k, none⟩) GE4.out _)⟩⟩, by simp [intOf]; omega⟩
        · refine blk_drew (blk_put BK4.out k _ ?_)
          rw [arr_set, ← HC1.out, ← HC2.out, curD_two s k hlt]
        · intro j hj
          rcases Nat.lt_or_ge j (2 * k) with h | h
          · exact HD.out j h
          · by_cases he : j = 2 * k
            · rw [he, HC1.out]; exact hn1
            · obtain rfl : j = 2 * k + 1 := by omega
              rw [HC2.out]; exact hn2
    · have hk32 : k = 32 := by omega
      have HN : Aside0 (readOf s = (curD s (2 * k), 0)) := ⟨by
        rw [hk32] at HD ⊢
        unfold readOf
        rw [if_pos]
        refine ⟨HS.out, ?_⟩
        unfold allDig
        rw [List.all_eq_true]
        intro j hj
        exact decide_eq_true (HD.out j (by have := List.mem_range.1 hj; omega))⟩
      clear hk32 hk
      go_wp2_with (
        first
        | ((with_reducible refine gate_dst (N := 41) rfl ?_); refine wpList_load_row rfl 47 (.tmp 4) rfl g4 rfl 47 (arr (curD s (2 * k))) (0, 0) _ BK4.out Try.underlying47 rfl (by rw [arr_size, curD_length]; exact info_dig) ?_)
        | ((with_reducible refine gate_store (p := 2) rfl ?_); refine dig_store rfl (.tmp 2) (.tmp 41) rfl g2 (curD s (2 * k)) zeros32 rfl rfl BK2.out (curD_length s (2 * k)) rfl ?_; intro w3 bk _ hbel; have BK3 := Aside0.mk bk; have HB3 := Aside0.mk (hbel _ _ HB.out GE2.out); clear bk hbel))
      rw [HN.out]
      refine bodyPost_ret (results_ct rfl _ _ g2 47 (arr (curD s (2 * k))) (0, 0) _ rfl BK3.out Try.underlying47 rfl (by rw [arr_size, curD_length]; exact info_dig)) rfl ?_
      exact ⟨rfl, HB3.out⟩
theorem rread_walk (s : ByteArray) (w : World) :
    Calls Try.prog 23 #[.string s] w fun e W' => e = .returned (.tuple #[.agg (arr (readOf s).1), .int .i64 (readOf s).2]) ∧ Below w.heap.size w W' := by
  by_cases h : s.size = 64
  · exact rread_full s ⟨h⟩ (by simp [h]) w
  · have e : readOf s = (zeros32, 2) := by unfold readOf; rw [if_neg (fun hh => h hh.1)]
    rw [e]
    exact rread_short s (by simp; omega) w
end Go.Proofs.Ytoncnjnicgfhmaa.Q
