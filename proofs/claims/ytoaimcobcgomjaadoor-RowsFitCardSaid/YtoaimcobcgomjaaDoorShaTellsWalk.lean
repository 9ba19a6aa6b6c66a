/-
  ShaTells answers true: the digest of two parts is the document's, of them one behind the other; they stay. This text: the law's walk (written by wip/tools/gen_tells.py).
-/
import Derived.Test.YtoaimcobcgomjaaDoorShaSum4
import Derived.Test.YtoaimcobcgomjaaDoorQ1
namespace Go.Proofs.YtoaimcobcgomjaaDoor.Q
open Go.RowKit Go.Proofs.YtoaimcobcgomjaaDoorW.PrintWords Go.Proofs.YtoaimcobcgomjaaDoorW.PrintLast Go.Proofs.YtoaimcobcgomjaaDoorW.PrintMore
set_option linter.unusedVariables false
set_option linter.unusedSimpArgs false

theorem joined2 (l1 l2 : List Int) (h1 : l1.length ≤ 700) (h2 : l2.length ≤ 700) : beadrollref02_Joined.f 3 [l1, l2] = some (l1 ++ l2) := by
  unfold beadrollref02_Joined.f
  have e0 : rd_L1 [l1, l2] 0 = l1 := rfl
  have e1 : rd_L1 [l1, l2] 1 = l2 := rfl
  have w0 : wrap64 (0 + 1) = 1 := by unfold wrap64; omega
  have w1 : wrap64 (1 + 1) = 2 := by unfold wrap64; omega
  simp only [beadrollref02_Joined.l0]
  rw [if_pos (by simp), if_pos (by omega), e0, if_pos (by simp only [List.length_nil]; omega), w0, if_pos (by simp), if_pos (by omega), e1, if_pos (by simp only [List.length_append, List.length_nil]; omega), w1, if_neg (by simp)]
  rfl
theorem joined_walk (g c1 c2 cap : Nat) (A1 A2 : Option Addr) (l1 l2 : List Int) (n1 n2 t : Nat) (W : World) (h : W.heap[g]? = some (.cells #[.slice A1 n1 c1, .slice A2 n2 c2] t (0, 0))) (b1 : Bts W A1 n1 c1 l1) (b2 : Bts W A2 n2 c2 l2) (h1 : l1.length ≤ 700) (h2 : l2.length ≤ 700) (hcap : 2 ≤ cap) :
    Calls Tryd.prog 15 #[.slice (some ⟨g, 0, none⟩) 2 cap] W fun e W' => ∃ A n c, e = .returned (.slice A n c) ∧ Bts W' A n c (l1 ++ l2) ∧ Below W.heap.size W W' := by
  have e1 := b1.len
  have e2 := b2.len
  subst e1 e2
  refine (beadrollref02_Joined.calls 3 (some ⟨g, 0, none⟩) cap [l1, l2] (l1 ++ l2) W (parts_C h (by simp) fun j q hj => ?_) (by simpa using hcap) (joined2 l1 l2 h1 h2)).mono ?_
  · match j, hj with
    | 0, hj => exact ⟨A1, c1, by simp at hj; subst hj; rfl, by simp at hj; subst hj; exact b1.le, by simp at hj; subst hj; exact b1.rd_⟩
    | 1, hj => exact ⟨A2, c2, by simp at hj; subst hj; rfl, by simp at hj; subst hj; exact b2.le, by simp at hj; subst hj; exact b2.rd_⟩
    | j + 2, hj => simp at hj
  · rintro e W' ⟨v, rfl, hR, hB⟩
    have hQ := Kd.Q_of_R hR
    obtain ⟨A, n, c, rfl, _⟩ := Q_form' hQ
    exact ⟨A, n, c, rfl, Q_bts hQ (fun x hx => (List.mem_append.1 hx).elim (b1.by_ x) (b2.by_ x)), hB⟩
theorem twin_walk (A : Option Addr) (n c : Nat) (l : List Int) (W : World) (b : Bts W A n c l) (hl : l.length ≤ 100000) :
    Calls Tryd.prog 12 #[.slice A n c] W fun e W' => ∃ A n c, e = .returned (.slice A n c) ∧ Bts W' A n c l ∧ Below W.heap.size W W' := by
  have e1 := b.len
  subst e1
  refine (beadrollref01_Twin.calls A c l l W b.rd_ b.le ?_).mono ?_
  · unfold beadrollref01_Twin.f
    rw [if_pos (by simp only [List.length_nil]; omega), List.nil_append]
  · rintro e W' ⟨v, rfl, hR, hB⟩
    have hQ := Kd.Q_of_R hR
    obtain ⟨A, n, c, rfl, _⟩ := Q_form' hQ
    exact ⟨A, n, c, rfl, Q_bts hQ b.by_, hB⟩
theorem same_walk (A1 A2 : Option Addr) (n1 c1 n2 c2 : Nat) (l : List Int) (W : World) (b1 : Bts W A1 n1 c1 l) (b2 : Bts W A2 n2 c2 l) :
    Calls Tryd.prog 16 #[.slice A1 n1 c1, .slice A2 n2 c2] W fun e W' => e = .returned (.bool true) ∧ Below W.heap.size W W' := by
  have e1 := b1.len
  have e2 := b2.len
  subst e1
  subst e2
  refine (beadrollref01_Same.calls A1 c1 l A2 c2 l true W b1.rd_ b1.le b2.rd_ b2.le (by unfold beadrollref01_Same.f; simp)).mono ?_
  rintro e W' ⟨rfl, m, rfl⟩
  exact ⟨rfl, pw_below_drewN (Below.refl _ _) m⟩
set_option maxHeartbeats 4000000 in
set_option maxRecDepth 100000 in
theorem tells_long (A1 A2 : Option Addr) (n1 n2 c1 c2 : Nat) (d : 700 < (n1 : Int) ∨ 700 < (n2 : Int)) (w : World) :
    Calls Tryd.prog 3 #[.slice A1 n1 c1, .slice A2 n2 c2] w fun e w' => e = .returned (.bool true) ∧ Below w.heap.size w w' := by
  by_cases h1 : 700 < (n1 : Int)
  rotate_left
  have h2 : 700 < (n2 : Int) := by omega
  all_goals
    clear d
    go_enter Tryd.func3, Tryd.ntmps3
    go_wp2
    go_ret
    exact ⟨rfl, Below.refl _ _⟩
def tells_T : Bool × List (List Nat × List Nat) := (true, [([], []), ([], []), ([], []), ([1, 2], [1, 2]), ([3], [3]), ([4, 4], [4]), ([0, 5], [0, 5]), ([6, 5], [6]), ([7], [7]), ([7], [7]), ([8, 9, 7, 7], [7, 8, 9]), ([7, 10], [7, 10]), ([11, 10], [11]), ([12], [12]), ([12], [12]), ([13, 14, 12, 12], [12, 13, 14]), ([12, 15], [12, 15]), ([16, 15, 0, 1, 2, 3, 4, 5, 6, 7, 8, 9, 10, 11, 12, 13, 14, 15, 16], [16])])
def tells_B : List Nat := [0, 0, 0, 6, 14, 30, 63, 127, 255, 255, 1023, 2047, 4095, 8191, 8191, 32767, 65535, 131071]
theorem tells_tab : rtab .any (opsOf Tryd.f3 5) = tells_T := by kernel_rfl
theorem tells_bits : waitsOk tells_T.2 tells_B = true := by kernel_rfl

set_option maxHeartbeats 4000000 in
set_option maxRecDepth 100000 in
theorem tells_main (A1 A2 : Option Addr) (n1 n2 c1 c2 : Nat) (l1 l2 : List Int) (w : World) (b1 : Bts w A1 n1 c1 l1) (b2 : Bts w A2 n2 c2 l2) (d1 : (n1 : Int) ≤ 700) (d2 : (n2 : Int) ≤ 700) (hk : KT w) :
    Calls Tryd.prog 3 #[.slice A1 n1 c1, .slice A2 n2 c2] w fun e w' => e = .returned (.bool true) ∧ Below w.heap.size w w' := by
  have HK := Aside0.mk hk
  have HB := Aside0.mk (Below.refl w.heap.size w)
  have L1 : Aside0 (l1.length ≤ 700) := ⟨by rw [b1.len]; omega⟩
  have L2 : Aside0 (l2.length ≤ 700) := ⟨by rw [b2.len]; omega⟩
  have C1 := Aside0.mk b1
  have C2 := Aside0.mk b2
  obtain ⟨mm, hmm⟩ : ∃ mm, l1 ++ l2 = mm := ⟨_, rfl⟩
  have HMM := Aside0.mk hmm
  clear hk b1 b2 hmm
  go_enter Tryd.func3, Tryd.ntmps3
  go_wp2_with (
    first
    | (go_at_call 12; (with_reducible refine (twin_walk A1 n1 c1 l1 _ (C1.out.below HB.out) (by have := L1.out; omega)).mono ?_); rintro e w2 ⟨A5, n5, c5, rfl, o1, hb⟩; have O1 := Aside0.mk o1; have HB1 := Aside0.mk (below_step HB.out hb); clear HB o1 hb; have HB := HB1; clear HB1)
    | (go_at_call 12; (with_reducible refine (twin_walk A2 n2 c2 l2 _ (C2.out.below HB.out) (by have := L2.out; omega)).mono ?_); rintro e w3 ⟨A6, n6, c6, rfl, o2, hb⟩; have O2 := Aside0.mk o2; have HC := Aside0.mk hb; have n0 := Aside0.mk (below_step HB.out HC.out); have n1 := Aside0.mk (O1.out.below HC.out); clear HB O1 HC; have HB := n0; have O1 := n1; clear n0 n1; clear o2 hb)
    | (go_at_call 13; (with_reducible refine (of_2 _ c5 c6 A5 A6 l1 l2 mm HMM.out n5 n6 22 2 _ (blk_new _ _) (O1.out.alloc _) (O2.out.alloc _) (by have := L1.out; have := L2.out; omega) (HK.out.below HK.out.lt (below_alloc HB.out _))).mono ?_); rintro e wz ⟨rfl, hb⟩; have HC := Aside0.mk (below_step (below_new _ _) hb); have n0 := Aside0.mk (below_step HB.out HC.out); have n1 := Aside0.mk (O1.out.below HC.out); have n2 := Aside0.mk (O2.out.below HC.out); clear HB O1 O2 HC; have HB := n0; have O1 := n1; have O2 := n2; clear n0 n1 n2; have HZ := Aside0.mk (Below.refl wz.heap.size wz); clear hb)
    | ((with_reducible refine gate_dst (N := 7) rfl ?_); refine box_event ?hg (N := 7) ?hd (cs := arr zeros32) (t := 25) ?hr ?_; (case hd => rfl); (case hg => rfl); (case hr => first | (go_simp; done) | (go_simp; rfl));
       intro g7 hg w1 hbox hb; have BK7 := Aside0.mk hbox; have G7 := Aside0.mk (show w.heap.size ≤ g7 by rw [hg]; exact below_size HB.out); have HB1 := Aside0.mk (below_step HB.out hb); clear HB ; have HB := HB1; clear HB1 ; have GZ := Aside0.mk (show wz.heap.size ≤ g7 by rw [hg]; exact below_size HZ.out); have HZ1 := Aside0.mk (below_step HZ.out hb); clear HZ hbox hg hb; have HZ := HZ1; clear HZ1)
    | ((with_reducible refine gate_store (p := 7) rfl ?_); refine dig_store rfl (.tmp 7) (.tmp 23) rfl g7 (shaOf mm) zeros32 rfl rfl BK7.out (sha_len mm) rfl ?_; intro w9 bk hoth hbel; have nn := Aside0.mk bk; have HZ1 := Aside0.mk (hbel _ _ HZ.out GZ.out); clear HZ; have HZ := HZ1; clear HZ1; have HB1 := Aside0.mk (hbel _ _ HB.out G7.out); clear HB ; have HB := HB1; clear HB1 ; clear BK7; have BK7 := nn; clear nn bk hoth hbel))
  have HC : Aside0 (Below w9.heap.size w9 w9.drew) := ⟨below_drew (Below.refl _ _)⟩
  refine start_ (n := 18) (S := fun w' => w'.heap[g7]? = some (.cells (arr (shaOf mm)) 25 (0, 0))) (ds := []) #[false, false, false, false, false, false, false, false, false, false, false, false, false, false, false, false, false, false] (by kernel_rfl) rfl rfl (blk_drew BK7.out) (fun hHeld => ?_)
  refine with_tabW tells_tab tells_bits (fun HT_ HW_ => ?_)
  have n0 := Aside0.mk (below_step HB.out HC.out)
  have n1 := Aside0.mk (below_step HZ.out HC.out)
  have n2 := Aside0.mk (blk_below BK7.out HC.out)
  clear HB HZ BK7 HC
  have HB := n0
  have HZ := n1
  have BK7 := n2
  clear n0 n1 n2
  generalize w9.drew = wa at HB HZ BK7 hHeld ⊢
  refine take_ (i := 0) (N := (some 24)) (v := ?_) (a' := ?_) #[true, false, false, false, false, false, false, false, false, false, false, false, false, false, false, false, false, false] rfl rfl (take_ofW HT_.out HW_.out (by kernel_rfl)) (fun _ _ _ h => h) (Or.inl ⟨by rfl, ?_⟩) hHeld ?_ ?_
  rotate_left
  · rintro w' s0
    refine dig_load (x := .tmp 7) ?_ ?_ s0 (sha_len mm) <;> rfl
  rotate_left
  · simp only [Act.put, List.setIfInBounds_toArray, List.set_cons_zero, List.set_cons_succ, i64_w, i32_w]
    rfl
  refine pure_ (i := 1) (N := (some 25)) (v := ?_) (a' := ?_) #[true, true, false, false, false, false, false, false, false, false, false, false, false, false, false, false, false, false] rfl rfl (any_of HT_.out (by kernel_rfl)) (fun _ _ _ h => h) (Or.inl ⟨by rfl, ?_⟩) ?_ ?_
  rotate_left
  · intro w'
    go_simp
    first | with_reducible rfl | (simp; done) | rfl
  rotate_left
  · simp only [Act.put, List.setIfInBounds_toArray, List.set_cons_zero, List.set_cons_succ, i64_w, i32_w]
    rfl
  refine pure_ (i := 2) (N := (some 26)) (v := ?_) (a' := ?_) #[true, true, true, false, false, false, false, false, false, false, false, false, false, false, false, false, false, false] rfl rfl (any_of HT_.out (by kernel_rfl)) (fun _ _ _ h => h) (Or.inl ⟨by rfl, ?_⟩) ?_ ?_
  rotate_left
  · intro w'
    go_simp
    first | with_reducible rfl | (simp; done) | rfl
  rotate_left
  · simp only [Act.put, List.setIfInBounds_toArray, List.set_cons_zero, List.set_cons_succ, i64_w, i32_w]
    rfl
  refine one_ (i := 3) (N := (some 27)) #[true, true, true, true, false, false, false, false, false, false, false, false, false, false, false, false, false, false] rfl rfl (one_of HT_.out (by kernel_rfl)) (by decide) (fun K hK => ?_)
  refine value_ (v := .slice (some ⟨wa.heap.size, 0, none⟩) 2 2) (w1 := wa.alloc (.cells #[.slice A1 n1 c1, .slice A2 n2 c2] 22)) (by rfl) rfl ?_ ?_
  · go_simp
    first | done | rfl
  refine hK.out _ _ (blk_alloc BK7.out _) (fun hHeld => ?_)
  clear hK K
  refine norm_ (a' := ?_) ?_ ?_
  rotate_left
  · show Act.put _ (some 27) _ = _
    simp only [Act.put, List.setIfInBounds_toArray, List.set_cons_zero, List.set_cons_succ, i64_w, i32_w]
    rfl
  refine one_ (i := 4) (N := (some 28)) #[true, true, true, true, true, false, false, false, false, false, false, false, false, false, false, false, false, false] rfl rfl (one_of HT_.out (by kernel_rfl)) (by decide) (fun K hK => ?_)
  refine goes_ Tryd.func15 (by kernel_rfl) rfl #[.slice (some ⟨wa.heap.size, 0, none⟩) 2 2] (by rfl) rfl rfl (by (try simp only [List.map_toArray, List.map_cons, List.map_nil]); first | done | rfl) ?_
  with_reducible refine (joined_walk wa.heap.size c1 c2 2 A1 A2 l1 l2 n1 n2 22 _ (blk_new wa _) ((C1.out.below HB.out).alloc _) ((C2.out.below HB.out).alloc _) L1.out L2.out (Nat.le_refl _)).mono ?_
  rintro e0 wb ⟨A3, n3, c3, rfl, b3, hb⟩
  refine ⟨_, rfl, ?_⟩
  have HC := Aside0.mk (below_step (below_new wa _) hb)
  have C3 := Aside0.mk b3
  clear hb b3
  refine hK.out _ _ (blk_below BK7.out HC.out) (fun hHeld => ?_)
  clear hK K
  refine norm_ (a' := ?_) ?_ ?_
  rotate_left
  · show Act.put _ (some 28) _ = _
    simp only [Act.put, List.setIfInBounds_toArray, List.set_cons_zero, List.set_cons_succ, i64_w, i32_w]
    rfl
  have n0 := Aside0.mk (below_step HB.out HC.out)
  have n1 := Aside0.mk (below_step HZ.out HC.out)
  have n2 := Aside0.mk (blk_below BK7.out HC.out)
  clear HB HZ BK7 HC
  have HB := n0
  have HZ := n1
  have BK7 := n2
  clear n0 n1 n2
  refine one_ (i := 5) (N := (some 29)) #[true, true, true, true, true, true, false, false, false, false, false, false, false, false, false, false, false, false] rfl rfl (one_of HT_.out (by kernel_rfl)) (by decide) (fun K hK => ?_)
  refine goes_ Tryd.func14 (by kernel_rfl) rfl #[.slice A3 n3 c3] (by rfl) rfl rfl (by (try simp only [List.map_toArray, List.map_cons, List.map_nil]); first | done | rfl) ?_
  with_reducible refine (sum_walk A3 n3 c3 (l1 ++ l2) _ C3.out (by have := L1.out; have := L2.out; rw [List.length_append]; omega)).mono ?_
  rintro e0 wc ⟨rfl, hb⟩
  refine ⟨_, rfl, ?_⟩
  rw [HMM.out]
  have HC := Aside0.mk hb
  clear hb
  refine hK.out _ _ (blk_below BK7.out HC.out) (fun hHeld => ?_)
  clear hK K
  refine norm_ (a' := ?_) ?_ ?_
  rotate_left
  · show Act.put _ (some 29) _ = _
    simp only [Act.put, List.setIfInBounds_toArray, List.set_cons_zero, List.set_cons_succ, i64_w, i32_w]
    rfl
  have n0 := Aside0.mk (below_step HB.out HC.out)
  have n1 := Aside0.mk (below_step HZ.out HC.out)
  have n2 := Aside0.mk (blk_below BK7.out HC.out)
  clear HB HZ BK7 HC
  have HB := n0
  have HZ := n1
  have BK7 := n2
  clear n0 n1 n2
  refine pure_ (i := 6) (N := (some 30)) (v := ?_) (a' := ?_) #[true, true, true, true, true, true, true, false, false, false, false, false, false, false, false, false, false, false] rfl rfl (any_of HT_.out (by kernel_rfl)) (fun _ _ _ h => h) (Or.inl ⟨by rfl, ?_⟩) ?_ ?_
  rotate_left
  · intro w'
    refine dig_eql (x := .tmp 24) (y := .tmp 29) ?_ ?_ ?_ (dig_sha mm) <;> rfl
  rotate_left
  · simp only [Act.put, List.setIfInBounds_toArray, List.set_cons_zero, List.set_cons_succ, i64_w, i32_w]
    rfl
  refine pure_ (i := 7) (N := (some 31)) (v := ?_) (a' := ?_) #[true, true, true, true, true, true, true, true, false, false, false, false, false, false, false, false, false, false] rfl rfl (any_of HT_.out (by kernel_rfl)) (fun _ _ _ h => h) (Or.inl ⟨by rfl, ?_⟩) ?_ ?_
  rotate_left
  · intro w'
    go_simp
    first | with_reducible rfl | (simp; done) | rfl
  rotate_left
  · simp only [Act.put, List.setIfInBounds_toArray, List.set_cons_zero, List.set_cons_succ, i64_w, i32_w]
    rfl
  refine pure_ (i := 8) (N := (some 32)) (v := ?_) (a' := ?_) #[true, true, true, true, true, true, true, true, true, false, false, false, false, false, false, false, false, false] rfl rfl (any_of HT_.out (by kernel_rfl)) (fun _ _ _ h => h) (Or.inl ⟨by rfl, ?_⟩) ?_ ?_
  rotate_left
  · intro w'
    go_simp
    first | with_reducible rfl | (simp; done) | rfl
  rotate_left
  · simp only [Act.put, List.setIfInBounds_toArray, List.set_cons_zero, List.set_cons_succ, i64_w, i32_w]
    rfl
  refine pure_ (i := 9) (N := (some 33)) (v := ?_) (a' := ?_) #[true, true, true, true, true, true, true, true, true, true, false, false, false, false, false, false, false, false] rfl rfl (any_of HT_.out (by kernel_rfl)) (fun _ _ _ h => h) (Or.inl ⟨by rfl, ?_⟩) ?_ ?_
  rotate_left
  · intro w'
    go_simp
    first | with_reducible rfl | (simp; done) | rfl
  rotate_left
  · simp only [Act.put, List.setIfInBounds_toArray, List.set_cons_zero, List.set_cons_succ, i64_w, i32_w]
    rfl
  refine one_ (i := 10) (N := (some 34)) #[true, true, true, true, true, true, true, true, true, true, true, false, false, false, false, false, false, false] rfl rfl (one_of HT_.out (by kernel_rfl)) (by decide) (fun K hK => ?_)
  refine goes_ Tryd.func16 (by kernel_rfl) rfl #[.slice A5 n5 c5, .slice A1 n1 c1] (by rfl) rfl rfl (by (try simp only [List.map_toArray, List.map_cons, List.map_nil]); first | done | rfl) ?_
  with_reducible refine (same_walk A5 A1 n5 c5 n1 c1 l1 _ (O1.out.below HZ.out) (C1.out.below HB.out)).mono ?_
  rintro e0 wd ⟨rfl, hb⟩
  refine ⟨_, rfl, ?_⟩
  have HC := Aside0.mk hb
  clear hb
  refine hK.out _ _ (blk_below BK7.out HC.out) (fun hHeld => ?_)
  clear hK K
  refine norm_ (a' := ?_) ?_ ?_
  rotate_left
  · show Act.put _ (some 34) _ = _
    simp only [Act.put, List.setIfInBounds_toArray, List.set_cons_zero, List.set_cons_succ, i64_w, i32_w]
    rfl
  have n0 := Aside0.mk (below_step HB.out HC.out)
  have n1 := Aside0.mk (below_step HZ.out HC.out)
  have n2 := Aside0.mk (blk_below BK7.out HC.out)
  clear HB HZ BK7 HC
  have HB := n0
  have HZ := n1
  have BK7 := n2
  clear n0 n1 n2
  refine pure_ (i := 11) (N := (some 35)) (v := ?_) (a' := ?_) #[true, true, true, true, true, true, true, true, true, true, true, true, false, false, false, false, false, false] rfl rfl (any_of HT_.out (by kernel_rfl)) (fun _ _ _ h => h) (Or.inl ⟨by rfl, ?_⟩) ?_ ?_
  rotate_left
  · intro w'
    go_simp
    first | with_reducible rfl | (simp; done) | rfl
  rotate_left
  · simp only [Act.put, List.setIfInBounds_toArray, List.set_cons_zero, List.set_cons_succ, i64_w, i32_w]
    rfl
  refine pure_ (i := 12) (N := (some 36)) (v := ?_) (a' := ?_) #[true, true, true, true, true, true, true, true, true, true, true, true, true, false, false, false, false, false] rfl rfl (any_of HT_.out (by kernel_rfl)) (fun _ _ _ h => h) (Or.inl ⟨by rfl, ?_⟩) ?_ ?_
  rotate_left
  · intro w'
    go_simp
    first | with_reducible rfl | (simp; done) | rfl
  rotate_left
  · simp only [Act.put, List.setIfInBounds_toArray, List.set_cons_zero, List.set_cons_succ, i64_w, i32_w]
    rfl
  refine pure_ (i := 13) (N := (some 37)) (v := ?_) (a' := ?_) #[true, true, true, true, true, true, true, true, true, true, true, true, true, true, false, false, false, false] rfl rfl (any_of HT_.out (by kernel_rfl)) (fun _ _ _ h => h) (Or.inl ⟨by rfl, ?_⟩) ?_ ?_
  rotate_left
  · intro w'
    go_simp
    first | with_reducible rfl | (simp; done) | rfl
  rotate_left
  · simp only [Act.put, List.setIfInBounds_toArray, List.set_cons_zero, List.set_cons_succ, i64_w, i32_w]
    rfl
  refine pure_ (i := 14) (N := (some 38)) (v := ?_) (a' := ?_) #[true, true, true, true, true, true, true, true, true, true, true, true, true, true, true, false, false, false] rfl rfl (any_of HT_.out (by kernel_rfl)) (fun _ _ _ h => h) (Or.inl ⟨by rfl, ?_⟩) ?_ ?_
  rotate_left
  · intro w'
    go_simp
    first | with_reducible rfl | (simp; done) | rfl
  rotate_left
  · simp only [Act.put, List.setIfInBounds_toArray, List.set_cons_zero, List.set_cons_succ, i64_w, i32_w]
    rfl
  refine one_ (i := 15) (N := (some 39)) #[true, true, true, true, true, true, true, true, true, true, true, true, true, true, true, true, false, false] rfl rfl (one_of HT_.out (by kernel_rfl)) (by decide) (fun K hK => ?_)
  refine goes_ Tryd.func16 (by kernel_rfl) rfl #[.slice A6 n6 c6, .slice A2 n2 c2] (by rfl) rfl rfl (by (try simp only [List.map_toArray, List.map_cons, List.map_nil]); first | done | rfl) ?_
  with_reducible refine (same_walk A6 A2 n6 c6 n2 c2 l2 _ (O2.out.below HZ.out) (C2.out.below HB.out)).mono ?_
  rintro e0 we ⟨rfl, hb⟩
  refine ⟨_, rfl, ?_⟩
  have HC := Aside0.mk hb
  clear hb
  refine hK.out _ _ (blk_below BK7.out HC.out) (fun hHeld => ?_)
  clear hK K
  refine norm_ (a' := ?_) ?_ ?_
  rotate_left
  · show Act.put _ (some 39) _ = _
    simp only [Act.put, List.setIfInBounds_toArray, List.set_cons_zero, List.set_cons_succ, i64_w, i32_w]
    rfl
  have n0 := Aside0.mk (below_step HB.out HC.out)
  have n1 := Aside0.mk (below_step HZ.out HC.out)
  have n2 := Aside0.mk (blk_below BK7.out HC.out)
  clear HB HZ BK7 HC
  have HB := n0
  have HZ := n1
  have BK7 := n2
  clear n0 n1 n2
  refine pure_ (i := 16) (N := (some 40)) (v := ?_) (a' := ?_) #[true, true, true, true, true, true, true, true, true, true, true, true, true, true, true, true, true, false] rfl rfl (any_of HT_.out (by kernel_rfl)) (fun _ _ _ h => h) (Or.inl ⟨by rfl, ?_⟩) ?_ ?_
  rotate_left
  · intro w'
    go_simp
    first | with_reducible rfl | (simp; done) | rfl
  rotate_left
  · simp only [Act.put, List.setIfInBounds_toArray, List.set_cons_zero, List.set_cons_succ, i64_w, i32_w]
    rfl
  refine pure_ (i := 17) (N := (some 4)) (v := ?_) (a' := ?_) #[true, true, true, true, true, true, true, true, true, true, true, true, true, true, true, true, true, true] rfl rfl (any_of HT_.out (by kernel_rfl)) (fun _ _ _ h => h) (Or.inl ⟨by rfl, ?_⟩) ?_ ?_
  rotate_left
  · intro w'
    go_simp
    first | with_reducible rfl | (simp; done) | rfl
  rotate_left
  · simp only [Act.put, List.setIfInBounds_toArray, List.set_cons_zero, List.set_cons_succ, i64_w, i32_w]
    rfl
  refine done_ (done_of HT_.out (by kernel_rfl)) ?_
  go_wp2
  go_ret
  exact ⟨rfl, HB.out⟩
theorem shaTells_walk (A1 A2 : Option Addr) (n1 n2 c1 c2 : Nat) (l1 l2 : List Int) (w : World) (b1 : Bts w A1 n1 c1 l1) (b2 : Bts w A2 n2 c2 l2) (hk : KT w) :
    Calls Tryd.prog 3 #[.slice A1 n1 c1, .slice A2 n2 c2] w fun e w' => e = .returned (.bool true) ∧ Below w.heap.size w w' := by
  by_cases d : 700 < (n1 : Int) ∨ 700 < (n2 : Int)
  · exact tells_long A1 A2 n1 n2 c1 c2 d w
  · exact tells_main A1 A2 n1 n2 c1 c2 l1 l2 w b1 b2 (by omega) (by omega) hk
end Go.Proofs.YtoaimcobcgomjaaDoor.Q
