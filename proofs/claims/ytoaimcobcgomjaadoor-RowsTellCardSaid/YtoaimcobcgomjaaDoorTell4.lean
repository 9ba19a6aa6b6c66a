/- What the law reaches of these texts: RowsPart, RowsSidesW, RowsAliveW, RowsSame, RowsJoinP, RowsTell, ShaArgB, RowsArgR, ShaLaid (joined by wip/tools/prune.py). -/
import Derived.Test.YtoaimcobcgomjaaDoorTell3
import Derived.Laws.EntriesVeiled
import Derived.WalkKit
import Derived.ProofKit
import Derived.OpenShut
import Derived.Lib.SmallJoins
import Derived.Deep.Slices
import Derived.Test.YtoaimcobcgomjaaDoorRows
import Derived.LaidMore
import Derived.Stop.Joined
import Derived.Lib.LaidTab
namespace Go.Proofs.YtoaimcobcgomjaaDoor.Q
open Go.RowKit Go.Proofs.YtoaimcobcgomjaaDoorW.PrintWords Go.Proofs.YtoaimcobcgomjaaDoorW.PrintLast Go.Proofs.YtoaimcobcgomjaaDoorW.PrintMore
set_option linter.unusedVariables false
set_option linter.unusedSimpArgs false
/-- The inner function's value. -/
def partF (Bp Bo : Nat) : Value := .func (.func 40) #[] #[.pointer (some ⟨Bp, 0, none⟩), .pointer (some ⟨Bo, 0, none⟩)]
/-- What lies in memory between two of its calls. -/
structure PartM (B Bp Bo : Nat) (W : World) (v : Value) (ss : List (List Int)) : Prop where
  part : W.heap[Bp]? = some (.cells #[partF Bp Bo] 65 (0, 0))
  out : W.heap[Bo]? = some (.cells #[v] 31 (0, 0))
  own : W.ownsRow B 25 32 v ss.length (flatD ss)
theorem PartM.below {B Bp Bo : Nat} {W w : World} {v : Value} {ss : List (List Int)} (h : PartM B Bp Bo W v ss) (hb : Below W.heap.size W w) : PartM B Bp Bo w v ss := ⟨blk_below h.part hb, blk_below h.out hb, pw_own_below h.own hb⟩
theorem PartM.grow {B Bp Bo : Nat} {W w : World} {v : Value} {ss : List (List Int)} (h : PartM B Bp Bo W v ss) (hg : W.grownBy w v.ownBlock) {k : Nat} {x t : Value} {ty : TypeId} (ht : ty ≠ 25) (hk : W.heap[k]? = some (.cells #[x] ty (0, 0))) : w.heap[k]? = some (.cells #[x] ty (0, 0)) := by
  refine (hg.block k (blk_lt hk) (fun e => ?_)).trans hk
  obtain ⟨cells, hc⟩ := own_typed h.own k e.symm
  rw [hk] at hc
  cases hc
  exact ht rfl
/-- One more digest, put back into out. -/
theorem PartM.step {B Bp Bo : Nat} {W w : World} {v v' : Value} {ss : List (List Int)} {d : List Int} (hne : Bp ≠ Bo) (h : PartM B Bp Bo W v ss) (hg : W.grownBy w v.ownBlock) (ho : w.ownsRow B 25 32 v' (ss.length + 1) (flatD ss ++ (arr d).toList)) :
    PartM B Bp Bo (w.setCell ⟨Bo, 0, none⟩ v') v' (ss ++ [d]) := by
  have ho2 := h.grow (t := undef) hg (by decide) h.out
  refine ⟨blk_far (h.grow (t := undef) hg (by decide) h.part) (p := ⟨Bo, 0, none⟩) (by simp only; exact hne) v', blk_put ho2 0 v' rfl, ?_⟩
  rw [List.length_append, flatD_append, flatD_one]
  refine own_move ho fun k hk => ?_
  obtain ⟨cells, hc⟩ := own_typed ho k hk
  rw [hc]
  exact blk_far hc (p := ⟨Bo, 0, none⟩) (by
    simp only
    intro e
    subst e
    rw [ho2] at hc
    cases hc) v'
def part3_T : Bool × List (List Nat × List Nat) := (true, [([], []), ([], []), ([], []), ([1, 2], [1, 2]), ([], []), ([0, 3, 4], [0, 3, 4])])
def part3_B : List Nat := [0, 0, 0, 6, 0, 31]
theorem part3_tab : rtab .any (opsOf Tryd.f40 3) = part3_T := by kernel_rfl
theorem part3_bits : waitsOk part3_T.2 part3_B = true := by kernel_rfl
def part4_T : Bool × List (List Nat × List Nat) := (true, [([], []), ([], []), ([], []), ([1, 2], [1, 2]), ([3], [3]), ([4], [4]), ([0, 5, 4], [0, 5]), ([6, 6, 0, 1, 2, 3, 4, 5, 6], [6])])
def part4_B : List Nat := [0, 0, 0, 6, 14, 30, 63, 127]
theorem part4_tab : rtab .any (opsOf Tryd.f40 4) = part4_T := by kernel_rfl
theorem part4_bits : waitsOk part4_T.2 part4_B = true := by kernel_rfl
def part5_T : Bool × List (List Nat × List Nat) := (true, [([], []), ([], []), ([], []), ([1, 2], [1, 2]), ([], []), ([], []), ([4, 5], [4, 5]), ([0, 3, 6], [0, 3, 6])])
def part5_B : List Nat := [0, 0, 0, 6, 0, 0, 48, 127]
theorem part5_tab : rtab .any (opsOf Tryd.f40 5) = part5_T := by kernel_rfl
theorem part5_bits : waitsOk part5_T.2 part5_B = true := by kernel_rfl
def part6_T : Bool × List (List Nat × List Nat) := (true, [([], []), ([], []), ([], []), ([1, 2], [1, 2]), ([3], [3]), ([4], [4]), ([0, 5, 4], [0, 5]), ([6, 6, 0, 1, 2, 3, 4, 5, 6], [6])])
def part6_B : List Nat := [0, 0, 0, 6, 14, 30, 63, 127]
theorem part6_tab : rtab .any (opsOf Tryd.f40 6) = part6_T := by kernel_rfl
theorem part6_bits : waitsOk part6_T.2 part6_B = true := by kernel_rfl
set_option maxHeartbeats 16000000 in
set_option maxRecDepth 100000 in
theorem part_walk (W0 : World) (hk0 : KT W0) (Bp Bo : Nat) (hne : Bp ≠ Bo) (hgo : W0.heap.size ≤ Bo) (k : Nat) : ∀ (A : Option Addr) (n c : Nat) (l : List (List Int)) (i : Nat) (v : Value) (ss : List (List Int)) (W : World), Rws W0 A n c l → Short l → n ≤ k → n ≤ 256 → i < n → ss.length ≤ 1000 → Below W0.heap.size W0 W → PartM W0.heap.size Bp Bo W v ss →
    Calls Tryd.prog 40 #[.slice A n c, .int .i64 (i : Int), .pointer (some ⟨Bp, 0, none⟩), .pointer (some ⟨Bo, 0, none⟩)] W fun e W' => (∃ u, e = .returned u) ∧ ∃ v', PartM W0.heap.size Bp Bo W' v' (ss ++ sidesP l i) ∧ Below W0.heap.size W0 W' := by
  induction k with
  | zero => intro A n c l i v ss W br hs h1 h2 h3; omega
  | succ k ih =>
    intro A n c l i v ss W br hs h1 h2 h3 h5 hB hM
    have hln := br.len
    have HB := Aside0.mk hB
    have HM := Aside0.mk hM
    by_cases h4 : n ≤ 1
    · obtain rfl : n = 1 := by omega
      rw [sidesP_one l i (by omega), List.append_nil]
      clear br hs ih hln h1 h2 h3 h4 h5 hB hM hk0
      go_enter Tryd.func40, Tryd.ntmps40
      go_wp2
      refine bodyPost_ret (v := .tuple #[]) (by simp [results, Tryd.results40, go_sem]) rfl ?_
      exact ⟨⟨_, rfl⟩, _, HM.out, HB.out⟩
    · have e := sidesP_two l i (by omega) (by omega)
      rw [hln] at e
      obtain ⟨m, hm⟩ : ∃ m, frontN n = m := ⟨_, rfl⟩
      have hmr := frontN_range n (by omega) h2
      rw [hm] at hmr e
      obtain ⟨hm1, hm2, hm3⟩ := hmr
      have b1 : ((n : Int) == 1) = false := by simp; omega
      have hct := rows_to A n c m (by omega) br.le
      have hcf := rows_from A n c m (by omega)
      have HD2 := br.drop m (by omega)
      obtain ⟨A2, hA2⟩ : ∃ A2, (if c = m then A else A.map (·.add (m * 1))) = A2 := ⟨_, rfl⟩
      rw [hA2] at HD2
      simp only [hA2] at hcf
      have FF : Aside0 (rows_front.f (n : Int) = some (m : Int)) := ⟨by rw [front_f (n : Int) (by omega) (by omega), hm3]⟩
      have NE := Aside0.mk hne
      have GO := Aside0.mk hgo
      have hlt : (l.take m).length = m := by rw [List.length_take]; omega
      have hld : (l.drop m).length = n - m := by rw [List.length_drop]; omega
      by_cases hi : i < m
      · rw [if_pos hi] at e
        obtain ⟨d, hd⟩ : ∃ d, rootP (l.drop m) = d := ⟨_, rfl⟩
        obtain ⟨qs, hss⟩ : ∃ ss, sidesP (l.take m) i = ss := ⟨_, rfl⟩
        rw [hd, hss] at e
        have DD : Aside0 (Dig d) := ⟨by rw [← hd]; exact rootP_dig _⟩
        have SL : Aside0 ((ss ++ qs).length ≤ 1008) := ⟨by rw [← hss, List.length_append]; have := sides_eight (l.take m) i (by omega) (by omega); omega⟩
        have HS : Aside0 (∀ w, Below W0.heap.size W0 w → ∀ v, PartM W0.heap.size Bp Bo w v ss → Calls Tryd.prog 40 #[.slice A m c, .int .i64 (i : Int), .pointer (some ⟨Bp, 0, none⟩), .pointer (some ⟨Bo, 0, none⟩)] w fun e W' => (∃ u, e = .returned u) ∧ ∃ v', PartM W0.heap.size Bp Bo W' v' (ss ++ qs) ∧ Below W0.heap.size W0 W') := ⟨fun w hw v hv => by
          have := ih A m c (l.take m) i v ss w (br.take m (by omega)) (hs.take m) (by omega) (by omega) hi h5 hw hv
          rwa [hss] at this⟩
        have HO : Aside0 (∀ w, Below W0.heap.size W0 w → Calls Tryd.prog 42 #[.slice A2 (n - m) (c - m)] w fun e W' => e = .returned (.agg (arr d)) ∧ Below w.heap.size w W') := ⟨fun w hw => by
          have := root_walk 256 A2 (n - m) (c - m) (l.drop m) w (HD2.below hw) (hs.drop m) (by omega) (by omega) (hk0.below hk0.lt hw)
          rwa [hd] at this⟩
        have hdi : decide (i < m) = true := decide_eq_true hi
        rw [e]
        clear e hd hss HD2 hA2 hm hm3 br hs ih hln hlt hld h1 h2 h3 h4 h5 hm1 hm2 hB hM hne hgo hk0
        go_enter Tryd.func40, Tryd.ntmps40
        go_wp2_with (go_at_call 41; (with_reducible refine (rows_front.calls (n : Int) (m : Int) _ FF.out).mono ?_); rintro e wq ⟨rfl, ⟨nd, rfl⟩⟩; have n0 := Aside0.mk (pw_below_drewN HB.out nd); have n1 := Aside0.mk (HM.out.below (pw_below_drewN (Below.refl _ _) nd)); clear HB HM; have HB := n0; have HM := n1; clear n0 n1)
        obtain ⟨w2, hw1⟩ : ∃ w', World.drewN W nd = w' := ⟨_, rfl⟩
        rw [hw1] at HB HM ⊢
        clear hw1
        have hb : Below w2.heap.size w2 w2.drew := below_drew (Below.refl _ _)
        refine start_ (n := 6) (S := fun w' => w'.cell? ⟨Bp, 0, none⟩ = some (partF Bp Bo)) (ds := []) #[false, false, false, false, false, false] (by kernel_rfl) rfl rfl ((blk_cell (HM.out.below hb).part 0).trans rfl) (fun hHeld => ?_)
        refine with_tabW part3_tab part3_bits (fun HT_ HW_ => ?_)
        have n0 := Aside0.mk (below_step HB.out hb)
        have n1 := Aside0.mk (HM.out.below hb)
        clear HB HM
        have HB := n0
        have HM := n1
        clear n0 n1
        clear hb
        generalize w2.drew = wa at HB HM hHeld ⊢
        refine take_ (i := 0) (N := (some 16)) (v := ?_) (a' := ?_) #[true, false, false, false, false, false] rfl rfl (take_ofW HT_.out HW_.out (by kernel_rfl)) (fun _ _ _ h => h) (Or.inl ⟨by rfl, ?_⟩) hHeld ?_ ?_
        rotate_left
        · rintro w' s0
          go_simp
          with_reducible rfl
        rotate_left
        · simp only [Act.put, List.setIfInBounds_toArray, List.set_cons_zero, List.set_cons_succ, i64_w, i32_w]
          rfl
        refine pure_ (i := 1) (N := (some 17)) (v := ?_) (a' := ?_) #[true, true, false, false, false, false] rfl rfl (any_of HT_.out (by kernel_rfl)) (fun _ _ _ h => h) (Or.inl ⟨by rfl, ?_⟩) ?_ ?_
        rotate_left
        · intro w'
          go_simp
          first | with_reducible rfl | (simp; done) | rfl
        rotate_left
        · simp only [Act.put, List.setIfInBounds_toArray, List.set_cons_zero, List.set_cons_succ, i64_w, i32_w]
          rfl
        refine pure_ (i := 2) (N := (some 18)) (v := ?_) (a' := ?_) #[true, true, true, false, false, false] rfl rfl (any_of HT_.out (by kernel_rfl)) (fun _ _ _ h => h) (Or.inl ⟨by rfl, ?_⟩) ?_ ?_
        rotate_left
        · intro w'
          go_simp
          first | with_reducible rfl | (simp; done) | rfl
        rotate_left
        · simp only [Act.put, List.setIfInBounds_toArray, List.set_cons_zero, List.set_cons_succ, i64_w, i32_w]
          rfl
        refine pure_ (i := 3) (N := (some 19)) (v := ?_) (a' := ?_) #[true, true, true, true, false, false] rfl rfl (any_of HT_.out (by kernel_rfl)) (fun _ _ _ h => h) (Or.inl ⟨by rfl, ?_⟩) ?_ ?_
        rotate_left
        · intro w'
          go_simp
          first | with_reducible rfl | (simp; done) | rfl
        rotate_left
        · simp only [Act.put, List.setIfInBounds_toArray, List.set_cons_zero, List.set_cons_succ, i64_w, i32_w]
          rfl
        refine pure_ (i := 4) (N := (some 20)) (v := ?_) (a' := ?_) #[true, true, true, true, true, false] rfl rfl (any_of HT_.out (by kernel_rfl)) (fun _ _ _ h => h) (Or.inl ⟨by rfl, ?_⟩) ?_ ?_
        rotate_left
        · intro w'
          go_simp
          first | with_reducible rfl | (simp; done) | rfl
        rotate_left
        · simp only [Act.put, List.setIfInBounds_toArray, List.set_cons_zero, List.set_cons_succ, i64_w, i32_w]
          rfl
        refine one_ (i := 5) (N := (some 21)) #[true, true, true, true, true, true] rfl rfl (one_of HT_.out (by kernel_rfl)) (by decide) (fun K hK => ?_)
        refine goes_dyn (cap := #[.pointer (some ⟨Bp, 0, none⟩), .pointer (some ⟨Bo, 0, none⟩)]) Tryd.func40 (by kernel_rfl) rfl #[.slice A m c, .int .i64 (i : Int)] (by rfl) rfl rfl (by rfl) (by (try simp only [List.map_toArray, List.map_cons, List.map_nil]); first | done | rfl) (all := #[.slice A m c, .int .i64 (i : Int), .pointer (some ⟨Bp, 0, none⟩), .pointer (some ⟨Bo, 0, none⟩)]) rfl ?_
        with_reducible refine (HS.out _ HB.out _ HM.out).mono ?_
        rintro e0 w3 ⟨⟨u, rfl⟩, v3, hM, hb⟩
        refine ⟨_, rfl, ?_⟩
        clear HB HM
        have HB := Aside0.mk hb
        have HM := Aside0.mk hM
        clear hb hM
        refine hK.out _ _ ((blk_cell HM.out.part 0).trans rfl) (fun hHeld => ?_)
        clear hK K
        refine norm_ (a' := ?_) ?_ ?_
        rotate_left
        · show Act.put _ (some 21) _ = _
          simp only [Act.put, List.setIfInBounds_toArray, List.set_cons_zero, List.set_cons_succ, i64_w, i32_w]
          rfl
        refine done_ (done_of HT_.out (by kernel_rfl)) ?_
        go_wp2
        have hb : Below w3.heap.size w3 w3.drew := below_drew (Below.refl _ _)
        refine start_ (n := 8) (S := fun w' => w'.cell? ⟨Bo, 0, none⟩ = some v3) (ds := [7]) #[false, false, false, false, false, false, false, false] (by kernel_rfl) rfl rfl ((blk_cell (HM.out.below hb).out 0).trans rfl) (fun hHeld => ?_)
        refine with_tabW part4_tab part4_bits (fun HT_ HW_ => ?_)
        have n0 := Aside0.mk (below_step HB.out hb)
        have n1 := Aside0.mk (HM.out.below hb)
        clear HB HM
        have HB := n0
        have HM := n1
        clear n0 n1
        clear hb
        generalize w3.drew = wb at HB HM hHeld ⊢
        refine take_ (i := 0) (N := (some 22)) (v := ?_) (a' := ?_) #[true, false, false, false, false, false, false, false] rfl rfl (take_ofW HT_.out HW_.out (by kernel_rfl)) (fun _ _ _ h => h) (Or.inl ⟨by rfl, ?_⟩) hHeld ?_ ?_
        rotate_left
        · rintro w' s0
          go_simp
          with_reducible rfl
        rotate_left
        · simp only [Act.put, List.setIfInBounds_toArray, List.set_cons_zero, List.set_cons_succ, i64_w, i32_w]
          rfl
        refine pure_ (i := 1) (N := (some 23)) (v := ?_) (a' := ?_) #[true, true, false, false, false, false, false, false] rfl rfl (any_of HT_.out (by kernel_rfl)) (fun _ _ _ h => h) (Or.inl ⟨by rfl, ?_⟩) ?_ ?_
        rotate_left
        · intro w'
          go_simp
          first | with_reducible rfl | (simp; done) | rfl
        rotate_left
        · simp only [Act.put, List.setIfInBounds_toArray, List.set_cons_zero, List.set_cons_succ, i64_w, i32_w]
          rfl
        refine pure_ (i := 2) (N := (some 24)) (v := ?_) (a' := ?_) #[true, true, true, false, false, false, false, false] rfl rfl (any_of HT_.out (by kernel_rfl)) (fun _ _ _ h => h) (Or.inl ⟨by rfl, ?_⟩) ?_ ?_
        rotate_left
        · intro w'
          go_simp
          first | with_reducible rfl | (simp; done) | rfl
        rotate_left
        · simp only [Act.put, List.setIfInBounds_toArray, List.set_cons_zero, List.set_cons_succ, i64_w, i32_w]
          rfl
        refine pure_ (i := 3) (N := (some 25)) (v := ?_) (a' := ?_) #[true, true, true, true, false, false, false, false] rfl rfl (any_of HT_.out (by kernel_rfl)) (fun _ _ _ h => h) (Or.inl ⟨by rfl, ?_⟩) ?_ ?_
        rotate_left
        · intro w'
          go_simp
          first | with_reducible rfl | (simp; done) | rfl
        rotate_left
        · simp only [Act.put, List.setIfInBounds_toArray, List.set_cons_zero, List.set_cons_succ, i64_w, i32_w]
          rfl
        refine one_ (i := 4) (N := (some 26)) #[true, true, true, true, true, false, false, false] rfl rfl (one_of HT_.out (by kernel_rfl)) (by decide) (fun K hK => ?_)
        refine goes_ Tryd.func42 (by kernel_rfl) rfl #[.slice A2 (n - m) (c - m)] (by rfl) rfl rfl (by (try simp only [List.map_toArray, List.map_cons, List.map_nil]); first | done | rfl) ?_
        with_reducible refine (HO.out _ HB.out).mono ?_
        rintro e0 w4 ⟨rfl, hb⟩
        refine ⟨_, rfl, ?_⟩
        have n0 := Aside0.mk (below_step HB.out hb)
        have n1 := Aside0.mk (HM.out.below hb)
        clear HB HM
        have HB := n0
        have HM := n1
        clear n0 n1
        clear hb
        refine hK.out _ _ ((blk_cell HM.out.out 0).trans rfl) (fun hHeld => ?_)
        clear hK K
        refine norm_ (a' := ?_) ?_ ?_
        rotate_left
        · show Act.put _ (some 26) _ = _
          simp only [Act.put, List.setIfInBounds_toArray, List.set_cons_zero, List.set_cons_succ, i64_w, i32_w]
          rfl
        refine one_ (i := 5) (N := (some 27)) #[true, true, true, true, true, true, false, false] rfl rfl (one_of HT_.out (by kernel_rfl)) (by decide) (fun K hK => ?_)
        refine value_ (v := .slice (some ⟨w4.heap.size, 0, none⟩) 1 1) (w1 := w4.alloc (.cells (arr d) 25)) (by rfl) rfl (build_one (d := d) rfl rfl DD.out) ?_
        have hb := below_new w4 (.cells (arr d) 25)
        have BK := Aside0.mk (blk_new w4 (.cells (arr d) 25))
        obtain ⟨ga, hga⟩ : ∃ g, w4.heap.size = g := ⟨_, rfl⟩
        rw [hga] at BK ⊢
        generalize w4.alloc (.cells (arr d) 25) = w5 at hb BK ⊢
        have n0 := Aside0.mk (below_step HB.out hb)
        have n1 := Aside0.mk (HM.out.below hb)
        clear HB HM
        have HB := n0
        have HM := n1
        clear n0 n1
        clear hb hga
        refine hK.out _ _ ((blk_cell HM.out.out 0).trans rfl) (fun hHeld => ?_)
        clear hK K
        refine norm_ (a' := ?_) ?_ ?_
        rotate_left
        · show Act.put _ (some 27) _ = _
          simp only [Act.put, List.setIfInBounds_toArray, List.set_cons_zero, List.set_cons_succ, i64_w, i32_w]
          rfl
        refine one_ (i := 6) (N := (some 28)) #[true, true, true, true, true, true, true, false] rfl rfl (one_of HT_.out (by kernel_rfl)) (by decide) (fun K hK => ?_)
        rw [if_pos (by rfl)]
        obtain ⟨i0, hi0, hz0, hz1, hz2⟩ := info_parts info_digs
        refine wp_append_own w5 (.tmp 22) (.tmp 27) 31 rfl W0.heap.size 25 i0 (.agg (arr zeros32)) 32 32 Tryd.underlying31 hi0 hz0 hz1 hz2 rfl (by decide) v3 (ss ++ qs).length (flatD (ss ++ qs)) rfl HM.out.own ⟨ga, 0, none⟩ 1 1 (arr d).toList rfl (by rw [Array.length_toList, arr_size, DD.out.1]) (row_news BK.out) (arr_ones d) (by have := SL.out; simp only [maxLen]; omega) (by have := SL.out; omega) (below_size HB.out) ?_
        intro v6 w6 ho hg _
        clear hi0 hz0 hz1 hz2
        obtain ⟨g6, c6, rfl⟩ := own_form ho
        have hcb : w6.cell? ⟨Bo, 0, none⟩ = some v3 := (blk_cell (HM.out.grow (t := undef) hg (by decide) HM.out.out) 0).trans rfl
        have hfb : w6.frozen? ⟨Bo, 0, none⟩ = false := blk_frozen (HM.out.grow (t := undef) hg (by decide) HM.out.out) 0
        have HS6 := Aside0.mk (HM.out.step NE.out hg ho)
        have HB6 := Aside0.mk ((below_grown HB.out (below_size HB.out) HM.out.own hg).setCell (p := ⟨Bo, 0, none⟩) GO.out (.slice (some ⟨g6, 0, none⟩) ((ss ++ qs).length + 1) c6))
        clear ho hg HB HM
        refine hK.out _ _ hcb (fun hHeld => ?_)
        clear hK K
        refine norm_ (a' := ?_) ?_ ?_
        rotate_left
        · show Act.put _ (some 28) _ = _
          simp only [Act.put, List.setIfInBounds_toArray, List.set_cons_zero, List.set_cons_succ, i64_w, i32_w]
          rfl
        refine last_ (i := 7) (N := none) #[true, true, true, true, true, true, true, true] rfl rfl (one_of HT_.out (by kernel_rfl)) (by decide) (fun K hK => ?_)
        refine skip_ (w1 := ?_) (by rfl) rfl ?_ ?_
        rotate_left
        · go_simp
          rfl
        refine hK.out _ _ ?_
        clear hK K
        refine done_ (done_of HT_.out (by kernel_rfl)) ?_
        go_wp2
        first | refine bodyPost_end (v := .tuple #[]) (by simp [results, Tryd.results40, go_sem]) rfl ?_ | refine bodyPost_ret (v := .tuple #[]) (by simp [results, Tryd.results40, go_sem]) rfl ?_
        have h6 := HS6.out
        have b6 := HB6.out
        simp only [List.length_append] at h6 b6
        exact ⟨⟨_, rfl⟩, _, by rw [← List.append_assoc]; exact h6, b6⟩
      · rw [if_neg hi] at e
        obtain ⟨d, hd⟩ : ∃ d, rootP (l.take m) = d := ⟨_, rfl⟩
        obtain ⟨j, hj⟩ : ∃ j, i - m = j := ⟨_, rfl⟩
        obtain ⟨qs, hss⟩ : ∃ ss, sidesP (l.drop m) (i - m) = ss := ⟨_, rfl⟩
        rw [hd, hss] at e
        have DD : Aside0 (Dig d) := ⟨by rw [← hd]; exact rootP_dig _⟩
        have SL : Aside0 ((ss ++ qs).length ≤ 1008) := ⟨by rw [← hss, List.length_append]; have := sides_eight (l.drop m) (i - m) (by omega) (by omega); omega⟩
        have HS : Aside0 (∀ w, Below W0.heap.size W0 w → ∀ v, PartM W0.heap.size Bp Bo w v ss → Calls Tryd.prog 40 #[.slice A2 (n - m) (c - m), .int .i64 (j : Int), .pointer (some ⟨Bp, 0, none⟩), .pointer (some ⟨Bo, 0, none⟩)] w fun e W' => (∃ u, e = .returned u) ∧ ∃ v', PartM W0.heap.size Bp Bo W' v' (ss ++ qs) ∧ Below W0.heap.size W0 W') := ⟨fun w hw v hv => by
          have := ih A2 (n - m) (c - m) (l.drop m) (i - m) v ss w HD2 (hs.drop m) (by omega) (by omega) (by omega) h5 hw hv
          rwa [hss, hj] at this⟩
        have HO : Aside0 (∀ w, Below W0.heap.size W0 w → Calls Tryd.prog 42 #[.slice A m c] w fun e W' => e = .returned (.agg (arr d)) ∧ Below w.heap.size w W') := ⟨fun w hw => by
          have := root_walk 256 A m c (l.take m) w ((br.below hw).take m (by omega)) (hs.take m) (by omega) (by omega) (hk0.below hk0.lt hw)
          rwa [hd] at this⟩
        have hdi : decide (i < m) = false := decide_eq_false hi
        have hsb : wrap64 ((i : Int) - (m : Int)) = (j : Int) := by unfold wrap64; omega
        rw [e]
        clear e hd hss hj HD2 hA2 hm hm3 br hs ih hln hlt hld h1 h2 h3 h4 h5 hm1 hm2 hB hM hne hgo hk0
        go_enter Tryd.func40, Tryd.ntmps40
        go_wp2_with (go_at_call 41; (with_reducible refine (rows_front.calls (n : Int) (m : Int) _ FF.out).mono ?_); rintro e wq ⟨rfl, ⟨nd, rfl⟩⟩; have n0 := Aside0.mk (pw_below_drewN HB.out nd); have n1 := Aside0.mk (HM.out.below (pw_below_drewN (Below.refl _ _) nd)); clear HB HM; have HB := n0; have HM := n1; clear n0 n1)
        obtain ⟨w2, hw1⟩ : ∃ w', World.drewN W nd = w' := ⟨_, rfl⟩
        rw [hw1] at HB HM ⊢
        clear hw1
        have hb : Below w2.heap.size w2 w2.drew := below_drew (Below.refl _ _)
        refine start_ (n := 8) (S := fun w' => w'.cell? ⟨Bp, 0, none⟩ = some (partF Bp Bo)) (ds := []) #[false, false, false, false, false, false, false, false] (by kernel_rfl) rfl rfl ((blk_cell (HM.out.below hb).part 0).trans rfl) (fun hHeld => ?_)
        refine with_tabW part5_tab part5_bits (fun HT_ HW_ => ?_)
        have n0 := Aside0.mk (below_step HB.out hb)
        have n1 := Aside0.mk (HM.out.below hb)
        clear HB HM
        have HB := n0
        have HM := n1
        clear n0 n1
        clear hb
        generalize w2.drew = wa at HB HM hHeld ⊢
        refine take_ (i := 0) (N := (some 29)) (v := ?_) (a' := ?_) #[true, false, false, false, false, false, false, false] rfl rfl (take_ofW HT_.out HW_.out (by kernel_rfl)) (fun _ _ _ h => h) (Or.inl ⟨by rfl, ?_⟩) hHeld ?_ ?_
        rotate_left
        · rintro w' s0
          go_simp
          with_reducible rfl
        rotate_left
        · simp only [Act.put, List.setIfInBounds_toArray, List.set_cons_zero, List.set_cons_succ, i64_w, i32_w]
          rfl
        refine pure_ (i := 1) (N := (some 30)) (v := ?_) (a' := ?_) #[true, true, false, false, false, false, false, false] rfl rfl (any_of HT_.out (by kernel_rfl)) (fun _ _ _ h => h) (Or.inl ⟨by rfl, ?_⟩) ?_ ?_
        rotate_left
        · intro w'
          go_simp
          first | with_reducible rfl | (simp; done) | rfl
        rotate_left
        · simp only [Act.put, List.setIfInBounds_toArray, List.set_cons_zero, List.set_cons_succ, i64_w, i32_w]
          rfl
        refine pure_ (i := 2) (N := (some 31)) (v := ?_) (a' := ?_) #[true, true, true, false, false, false, false, false] rfl rfl (any_of HT_.out (by kernel_rfl)) (fun _ _ _ h => h) (Or.inl ⟨by rfl, ?_⟩) ?_ ?_
        rotate_left
        · intro w'
          go_simp
          first | with_reducible rfl | (simp; done) | rfl
        rotate_left
        · simp only [Act.put, List.setIfInBounds_toArray, List.set_cons_zero, List.set_cons_succ, i64_w, i32_w]
          rfl
        refine pure_ (i := 3) (N := (some 32)) (v := ?_) (a' := ?_) #[true, true, true, true, false, false, false, false] rfl rfl (any_of HT_.out (by kernel_rfl)) (fun _ _ _ h => h) (Or.inl ⟨by rfl, ?_⟩) ?_ ?_
        rotate_left
        · intro w'
          go_simp
          first | with_reducible rfl | (simp; done) | rfl
        rotate_left
        · simp only [Act.put, List.setIfInBounds_toArray, List.set_cons_zero, List.set_cons_succ, i64_w, i32_w]
          rfl
        refine pure_ (i := 4) (N := (some 33)) (v := ?_) (a' := ?_) #[true, true, true, true, true, false, false, false] rfl rfl (any_of HT_.out (by kernel_rfl)) (fun _ _ _ h => h) (Or.inl ⟨by rfl, ?_⟩) ?_ ?_
        rotate_left
        · intro w'
          go_simp
          first | with_reducible rfl | (simp; done) | rfl
        rotate_left
        · simp only [Act.put, List.setIfInBounds_toArray, List.set_cons_zero, List.set_cons_succ, i64_w, i32_w]
          rfl
        refine pure_ (i := 5) (N := (some 34)) (v := ?_) (a' := ?_) #[true, true, true, true, true, true, false, false] rfl rfl (any_of HT_.out (by kernel_rfl)) (fun _ _ _ h => h) (Or.inl ⟨by rfl, ?_⟩) ?_ ?_
        rotate_left
        · intro w'
          go_simp
          first | with_reducible rfl | (simp; done) | rfl
        rotate_left
        · simp only [Act.put, List.setIfInBounds_toArray, List.set_cons_zero, List.set_cons_succ, i64_w, i32_w]
          rfl
        refine pure_ (i := 6) (N := (some 35)) (v := ?_) (a' := ?_) #[true, true, true, true, true, true, true, false] rfl rfl (any_of HT_.out (by kernel_rfl)) (fun _ _ _ h => h) (Or.inl ⟨by rfl, ?_⟩) ?_ ?_
        rotate_left
        · intro w'
          go_simp
          first | with_reducible rfl | (simp; done) | rfl
        rotate_left
        · simp only [Act.put, List.setIfInBounds_toArray, List.set_cons_zero, List.set_cons_succ, i64_w, i32_w]
          rfl
        rw [hsb]
        refine one_ (i := 7) (N := (some 36)) #[true, true, true, true, true, true, true, true] rfl rfl (one_of HT_.out (by kernel_rfl)) (by decide) (fun K hK => ?_)
        refine goes_dyn (cap := #[.pointer (some ⟨Bp, 0, none⟩), .pointer (some ⟨Bo, 0, none⟩)]) Tryd.func40 (by kernel_rfl) rfl #[.slice A2 (n - m) (c - m), .int .i64 ((j : Nat) : Int)] (by rfl) rfl rfl (by rfl) (by (try simp only [List.map_toArray, List.map_cons, List.map_nil]); first | done | rfl) (all := #[.slice A2 (n - m) (c - m), .int .i64 ((j : Nat) : Int), .pointer (some ⟨Bp, 0, none⟩), .pointer (some ⟨Bo, 0, none⟩)]) rfl ?_
        with_reducible refine (HS.out _ HB.out _ HM.out).mono ?_
        rintro e0 w3 ⟨⟨u, rfl⟩, v3, hM, hb⟩
        refine ⟨_, rfl, ?_⟩
        clear HB HM
        have HB := Aside0.mk hb
        have HM := Aside0.mk hM
        clear hb hM
        refine hK.out _ _ ((blk_cell HM.out.part 0).trans rfl) (fun hHeld => ?_)
        clear hK K
        refine norm_ (a' := ?_) ?_ ?_
        rotate_left
        · show Act.put _ (some 36) _ = _
          simp only [Act.put, List.setIfInBounds_toArray, List.set_cons_zero, List.set_cons_succ, i64_w, i32_w]
          rfl
        refine done_ (done_of HT_.out (by kernel_rfl)) ?_
        go_wp2
        have hb : Below w3.heap.size w3 w3.drew := below_drew (Below.refl _ _)
        refine start_ (n := 8) (S := fun w' => w'.cell? ⟨Bo, 0, none⟩ = some v3) (ds := [7]) #[false, false, false, false, false, false, false, false] (by kernel_rfl) rfl rfl ((blk_cell (HM.out.below hb).out 0).trans rfl) (fun hHeld => ?_)
        refine with_tabW part6_tab part6_bits (fun HT_ HW_ => ?_)
        have n0 := Aside0.mk (below_step HB.out hb)
        have n1 := Aside0.mk (HM.out.below hb)
        clear HB HM
        have HB := n0
        have HM := n1
        clear n0 n1
        clear hb
        generalize w3.drew = wb at HB HM hHeld ⊢
        refine take_ (i := 0) (N := (some 37)) (v := ?_) (a' := ?_) #[true, false, false, false, false, false, false, false] rfl rfl (take_ofW HT_.out HW_.out (by kernel_rfl)) (fun _ _ _ h => h) (Or.inl ⟨by rfl, ?_⟩) hHeld ?_ ?_
        rotate_left
        · rintro w' s0
          go_simp
          with_reducible rfl
        rotate_left
        · simp only [Act.put, List.setIfInBounds_toArray, List.set_cons_zero, List.set_cons_succ, i64_w, i32_w]
          rfl
        refine pure_ (i := 1) (N := (some 38)) (v := ?_) (a' := ?_) #[true, true, false, false, false, false, false, false] rfl rfl (any_of HT_.out (by kernel_rfl)) (fun _ _ _ h => h) (Or.inl ⟨by rfl, ?_⟩) ?_ ?_
        rotate_left
        · intro w'
          go_simp
          first | with_reducible rfl | (simp; done) | rfl
        rotate_left
        · simp only [Act.put, List.setIfInBounds_toArray, List.set_cons_zero, List.set_cons_succ, i64_w, i32_w]
          rfl
        refine pure_ (i := 2) (N := (some 39)) (v := ?_) (a' := ?_) #[true, true, true, false, false, false, false, false] rfl rfl (any_of HT_.out (by kernel_rfl)) (fun _ _ _ h => h) (Or.inl ⟨by rfl, ?_⟩) ?_ ?_
        rotate_left
        · intro w'
          go_simp
          first | with_reducible rfl | (simp; done) | rfl
        rotate_left
        · simp only [Act.put, List.setIfInBounds_toArray, List.set_cons_zero, List.set_cons_succ, i64_w, i32_w]
          rfl
        refine pure_ (i := 3) (N := (some 40)) (v := ?_) (a' := ?_) #[true, true, true, true, false, false, false, false] rfl rfl (any_of HT_.out (by kernel_rfl)) (fun _ _ _ h => h) (Or.inl ⟨by rfl, ?_⟩) ?_ ?_
        rotate_left
        · intro w'
          go_simp
          first | with_reducible rfl | (simp; done) | rfl
        rotate_left
        · simp only [Act.put, List.setIfInBounds_toArray, List.set_cons_zero, List.set_cons_succ, i64_w, i32_w]
          rfl
        refine one_ (i := 4) (N := (some 41)) #[true, true, true, true, true, false, false, false] rfl rfl (one_of HT_.out (by kernel_rfl)) (by decide) (fun K hK => ?_)
        refine goes_ Tryd.func42 (by kernel_rfl) rfl #[.slice A m c] (by rfl) rfl rfl (by (try simp only [List.map_toArray, List.map_cons, List.map_nil]); first | done | rfl) ?_
        with_reducible refine (HO.out _ HB.out).mono ?_
        rintro e0 w4 ⟨rfl, hb⟩
        refine ⟨_, rfl, ?_⟩
        have n0 := Aside0.mk (below_step HB.out hb)
        have n1 := Aside0.mk (HM.out.below hb)
        clear HB HM
        have HB := n0
        have HM := n1
        clear n0 n1
        clear hb
        refine hK.out _ _ ((blk_cell HM.out.out 0).trans rfl) (fun hHeld => ?_)
        clear hK K
        refine norm_ (a' := ?_) ?_ ?_
        rotate_left
        · show Act.put _ (some 41) _ = _
          simp only [Act.put, List.setIfInBounds_toArray, List.set_cons_zero, List.set_cons_succ, i64_w, i32_w]
          rfl
        refine one_ (i := 5) (N := (some 42)) #[true, true, true, true, true, true, false, false] rfl rfl (one_of HT_.out (by kernel_rfl)) (by decide) (fun K hK => ?_)
        refine value_ (v := .slice (some ⟨w4.heap.size, 0, none⟩) 1 1) (w1 := w4.alloc (.cells (arr d) 25)) (by rfl) rfl (build_one (d := d) rfl rfl DD.out) ?_
        have hb := below_new w4 (.cells (arr d) 25)
        have BK := Aside0.mk (blk_new w4 (.cells (arr d) 25))
        obtain ⟨ga, hga⟩ : ∃ g, w4.heap.size = g := ⟨_, rfl⟩
        rw [hga] at BK ⊢
        generalize w4.alloc (.cells (arr d) 25) = w5 at hb BK ⊢
        have n0 := Aside0.mk (below_step HB.out hb)
        have n1 := Aside0.mk (HM.out.below hb)
        clear HB HM
        have HB := n0
        have HM := n1
        clear n0 n1
        clear hb hga
        refine hK.out _ _ ((blk_cell HM.out.out 0).trans rfl) (fun hHeld => ?_)
        clear hK K
        refine norm_ (a' := ?_) ?_ ?_
        rotate_left
        · show Act.put _ (some 42) _ = _
          simp only [Act.put, List.setIfInBounds_toArray, List.set_cons_zero, List.set_cons_succ, i64_w, i32_w]
          rfl
        refine one_ (i := 6) (N := (some 43)) #[true, true, true, true, true, true, true, false] rfl rfl (one_of HT_.out (by kernel_rfl)) (by decide) (fun K hK => ?_)
        rw [if_pos (by rfl)]
        obtain ⟨i0, hi0, hz0, hz1, hz2⟩ := info_parts info_digs
        refine wp_append_own w5 (.tmp 37) (.tmp 42) 31 rfl W0.heap.size 25 i0 (.agg (arr zeros32)) 32 32 Tryd.underlying31 hi0 hz0 hz1 hz2 rfl (by decide) v3 (ss ++ qs).length (flatD (ss ++ qs)) rfl HM.out.own ⟨ga, 0, none⟩ 1 1 (arr d).toList rfl (by rw [Array.length_toList, arr_size, DD.out.1]) (row_news BK.out) (arr_ones d) (by have := SL.out; simp only [maxLen]; omega) (by have := SL.out; omega) (below_size HB.out) ?_
        intro v6 w6 ho hg _
        clear hi0 hz0 hz1 hz2
        obtain ⟨g6, c6, rfl⟩ := own_form ho
        have hcb : w6.cell? ⟨Bo, 0, none⟩ = some v3 := (blk_cell (HM.out.grow (t := undef) hg (by decide) HM.out.out) 0).trans rfl
        have hfb : w6.frozen? ⟨Bo, 0, none⟩ = false := blk_frozen (HM.out.grow (t := undef) hg (by decide) HM.out.out) 0
        have HS6 := Aside0.mk (HM.out.step NE.out hg ho)
        have HB6 := Aside0.mk ((below_grown HB.out (below_size HB.out) HM.out.own hg).setCell (p := ⟨Bo, 0, none⟩) GO.out (.slice (some ⟨g6, 0, none⟩) ((ss ++ qs).length + 1) c6))
        clear ho hg HB HM
        refine hK.out _ _ hcb (fun hHeld => ?_)
        clear hK K
        refine norm_ (a' := ?_) ?_ ?_
        rotate_left
        · show Act.put _ (some 43) _ = _
          simp only [Act.put, List.setIfInBounds_toArray, List.set_cons_zero, List.set_cons_succ, i64_w, i32_w]
          rfl
        refine last_ (i := 7) (N := none) #[true, true, true, true, true, true, true, true] rfl rfl (one_of HT_.out (by kernel_rfl)) (by decide) (fun K hK => ?_)
        refine skip_ (w1 := ?_) (by rfl) rfl ?_ ?_
        rotate_left
        · go_simp
          rfl
        refine hK.out _ _ ?_
        clear hK K
        refine done_ (done_of HT_.out (by kernel_rfl)) ?_
        go_wp2
        first | refine bodyPost_end (v := .tuple #[]) (by simp [results, Tryd.results40, go_sem]) rfl ?_ | refine bodyPost_ret (v := .tuple #[]) (by simp [results, Tryd.results40, go_sem]) rfl ?_
        have h6 := HS6.out
        have b6 := HB6.out
        simp only [List.length_append] at h6 b6
        exact ⟨⟨_, rfl⟩, _, by rw [← List.append_assoc]; exact h6, b6⟩
end Go.Proofs.YtoaimcobcgomjaaDoor.Q
namespace Go.Proofs.YtoaimcobcgomjaaDoor.Q
open Go.RowKit Go.Proofs.YtoaimcobcgomjaaDoorW.PrintWords Go.Proofs.YtoaimcobcgomjaaDoorW.PrintLast Go.Proofs.YtoaimcobcgomjaaDoorW.PrintMore
set_option linter.unusedVariables false
set_option linter.unusedSimpArgs false
/-- A row's sides and code. -/
def sidesC (l : List (List Int)) (i : Int) : List (List Int) × Int := if listP l = true then (if i < 0 ∨ (l.length : Int) ≤ i then ([], 2) else (sidesP l i.toNat, 0)) else ([], 8)
set_option maxHeartbeats 8000000 in
set_option maxRecDepth 100000 in
theorem sides_walk (A : Option Addr) (n c : Nat) (l : List (List Int)) (i : Int) (W : World) (br : Rws W A n c l) (hk : KT W) :
    Calls Tryd.prog 17 #[.slice A n c, .int .i64 i] W fun e W' => ∃ v, e = .returned (.tuple #[v, .int .i64 (sidesC l i).2]) ∧ W'.ownsRow W.heap.size 25 32 v (sidesC l i).1.length (flatD (sidesC l i).1) ∧ Below W.heap.size W W' := by
  have HL : Aside0 (∀ w, Below W.heap.size W w → Calls Tryd.prog 39 #[.slice A n c] w fun e W' => e = .returned (.bool (listP l)) ∧ Below w.heap.size w W') := ⟨fun w hw => list_walk A n c l w (br.below hw)⟩
  have HB := Aside0.mk (Below.refl W.heap.size W)
  have hln := br.len
  unfold sidesC
  rw [hln]
  cases hl : listP l with
  | false =>
    rw [hl] at HL
    rw [if_neg (by decide)]
    clear hl br hk hln
    go_enter Tryd.func17, Tryd.ntmps17
    go_wp2_with (go_at_call 39; (with_reducible refine (HL.out _ HB.out).mono ?_); rintro e wq ⟨rfl, hb⟩; have n1 := Aside0.mk (below_step HB.out hb); clear HB; have HB := n1; clear n1 hb)
    go_ret2
    exact ⟨_, rfl, own_nil _ _ _ _, HB.out⟩
  | true =>
    rw [if_pos rfl]
    by_cases h1 : i < 0
    · rw [hl] at HL
      rw [if_pos (.inl h1)]
      have d1 : decide (i < 0) = true := decide_eq_true h1
      clear hl br hk hln
      go_enter Tryd.func17, Tryd.ntmps17
      go_wp2_with (go_at_call 39; (with_reducible refine (HL.out _ HB.out).mono ?_); rintro e wq ⟨rfl, hb⟩; have n1 := Aside0.mk (below_step HB.out hb); clear HB; have HB := n1; clear n1 hb)
      go_ret2
      exact ⟨_, rfl, own_nil _ _ _ _, HB.out⟩
    · obtain ⟨j, rfl⟩ := Int.eq_ofNat_of_zero_le (show 0 ≤ i by omega)
      by_cases h2 : n ≤ j
      · rw [hl] at HL
        rw [if_pos (.inr (by omega))]
        clear hl br hk hln h1
        go_enter Tryd.func17, Tryd.ntmps17
        go_wp2_with (go_at_call 39; (with_reducible refine (HL.out _ HB.out).mono ?_); rintro e wq ⟨rfl, hb⟩; have n1 := Aside0.mk (below_step HB.out hb); clear HB; have HB := n1; clear n1 hb)
        go_ret2
        exact ⟨_, rfl, own_nil _ _ _ _, HB.out⟩
      · rw [if_neg (by omega)]
        have h3 : j < n := by omega
        have hlen := listP_len hl
        have hsh := listP_short hl
        rw [hl] at HL
        have HP : Aside0 (∀ w Bp Bo, Below W.heap.size W w → Bp ≠ Bo → W.heap.size ≤ Bo → PartM W.heap.size Bp Bo w (.slice none 0 0) [] → Calls Tryd.prog 40 #[.slice A n c, .int .i64 (j : Int), .pointer (some ⟨Bp, 0, none⟩), .pointer (some ⟨Bo, 0, none⟩)] w fun e W' => (∃ u, e = .returned u) ∧ ∃ v', PartM W.heap.size Bp Bo W' v' (sidesP l j) ∧ Below W.heap.size W W') := ⟨fun w Bp Bo hw hne hgo hM => part_walk W hk Bp Bo hne hgo 256 A n c l j _ [] w br hsh (by omega) (by omega) h3 (by simp) hw hM⟩
        rw [Int.toNat_natCast]
        obtain ⟨ss, hss⟩ : ∃ ss, sidesP l j = ss := ⟨_, rfl⟩
        rw [hss] at HP ⊢
        clear hl br hk hln h1 h2 hlen hsh hss
        go_enter Tryd.func17, Tryd.ntmps17
        go_wp2_with (
          first
          | (go_at_call 39; (with_reducible refine (HL.out _ HB.out).mono ?_); rintro e wq ⟨rfl, hb⟩; have n1 := Aside0.mk (below_step HB.out hb); clear HB; have HB := n1; clear n1 hb)
          | (go_at_call 40; refine (HP.out _ (wq.heap.size + 1) wq.heap.size (below_alloc (below_alloc HB.out _) _) (by omega) (below_size HB.out) ⟨blk_new1 _ _ _, blk_alloc (blk_new _ _) _, own_nil _ _ _ _⟩).mono ?_; rintro e w3 ⟨⟨u, rfl⟩, v3, hM, hb⟩; have hc3 : w3.cell? ⟨wq.heap.size, 0, none⟩ = some v3 := (blk_cell hM.out 0).trans rfl; have HO := Aside0.mk hM.own; have HB3 := Aside0.mk hb; clear hM hb))
        go_ret2
        exact ⟨_, rfl, HO.out, HB3.out⟩
end Go.Proofs.YtoaimcobcgomjaaDoor.Q
namespace Go.Proofs.YtoaimcobcgomjaaDoor.Q
open Go.RowKit Go.Proofs.YtoaimcobcgomjaaDoorW.PrintWords Go.Proofs.YtoaimcobcgomjaaDoorW.PrintLast Go.Proofs.YtoaimcobcgomjaaDoorW.PrintMore
set_option linter.unusedVariables false
set_option linter.unusedSimpArgs false
theorem run_neq_dig (x y : List Int) (hx : Dig x) (hy : Dig y) (W : World) : (binOp .neq 25 (.agg (arr x)) (.agg (arr y))).run Tryd.prog W = .ok (.bool (!decide (x = y))) W := by
  have h := run_eql_dig x y hx hy W
  simp only [binOp, Sem.run_bind] at h ⊢
  generalize (Op.equal 25 (.agg (arr x)) (.agg (arr y))).run Tryd.prog W = r at h ⊢
  cases r with
  | ok b w =>
    simp [Result.andThen, Sem.run_pure] at h ⊢
    obtain ⟨h1, h2⟩ := h
    exact ⟨by rw [h1], h2⟩
  | halt hh w => simp [Result.andThen] at h
theorem Rws.none (W : World) : Rws W none 0 0 [] := ⟨none_C W, Nat.le_refl _, by simp⟩
end Go.Proofs.YtoaimcobcgomjaaDoor.Q
namespace Go.Proofs.YtoaimcobcgomjaaDoor.Q
open Go.RowKit Go.Proofs.YtoaimcobcgomjaaDoorW.PrintWords Go.Proofs.YtoaimcobcgomjaaDoorW.PrintLast Go.Proofs.YtoaimcobcgomjaaDoorW.PrintMore
set_option linter.unusedVariables false
set_option linter.unusedSimpArgs false
theorem dig_load_at {o : Oper} {a : Act} {W : World} {x : Operand} {e : Addr} {ds : List Int} (ho : o.op = .load 25 x) (hx : a.eval x = .pointer (some e)) (hl : ds.length = 32) (hc : ∀ i, i < 32 → W.cell? (e.add i) = some (.int .u8 (rd ds (i : Int)))) :
    (execOp a.eval o).run Tryd.prog W = .ok (.value (.agg (arr ds))) W := by
  unfold execOp
  simp only [ho, hx, Instr.loadAt, Instr.sureAddr, Sem.run_bind, Sem.run_pure, Result.andThen_ok, run_loadVar_dig W e ds hl hc]
theorem dig_neqB {o : Oper} {a : Act} {W : World} {x y : Operand} {ds es : List Int} {b : Bool} (ho : o.op = .binOp .neq 25 x y 25) (hx : a.eval x = .agg (arr ds)) (hy : a.eval y = .agg (arr es)) (hd : Dig ds) (he : Dig es) (hb : decide (ds = es) = b) :
    (execOp a.eval o).run Tryd.prog W = .ok (.value (.bool (!b))) W := by
  have := run_neq_dig ds es hd he W
  rw [hb] at this
  unfold execOp
  simp only [ho, hx, hy]
  have hg := run_eqGuard_agg W .neq 25 x y (arr ds) (arr es) eqg_dig
  simp [this, hg, Sem.run_bind, Result.andThen]
theorem take_eq_snoc {α : Type} {l o : List α} {k : Nat} {x y : α} (hl : l[k]? = some x) (ho : o[k]? = some y) (h : l.take k = o.take k) (e : x = y) : l.take (k + 1) = o.take (k + 1) := by
  subst e
  rw [List.take_add_one, List.take_add_one, h, hl, ho]
def same6_T : Bool × List (List Nat × List Nat) := (true, [([], []), ([], []), ([0, 1], [0, 1]), ([2], [2]), ([], []), ([], []), ([4, 5], [4, 5]), ([6], [6]), ([3, 7], [3, 7])])
def same6_B : List Nat := [0, 0, 3, 7, 0, 0, 48, 112, 255]
theorem same6_tab : rtab .any (opsOf Tryd.f22 6) = same6_T := by kernel_rfl
theorem same6_bits : waitsOk same6_T.2 same6_B = true := by kernel_rfl
set_option maxHeartbeats 8000000 in
set_option maxRecDepth 100000 in
theorem sameD_walk (A1 A2 : Option Addr) (n1 c1 n2 c2 : Nat) (l o : List (List Int)) (W : World) (b1 : Digs W A1 n1 c1 l) (b2 : Digs W A2 n2 c2 o) :
    Calls Tryd.prog 22 #[.slice A1 n1 c1, .slice A2 n2 c2] W fun e W' => e = .returned (.bool (decide (l = o))) ∧ Below W.heap.size W W' := by
  have hl := b1.len
  have ho := b2.len
  have m1 : n1 ≤ 9223372036854775807 := by have := b1.le; have := b1.max; omega
  have m2 : n2 ≤ 9223372036854775807 := by have := b2.le; have := b2.max; omega
  have HB := Aside0.mk (Below.refl W.heap.size W)
  by_cases hn : n1 = n2
  · subst hn
    have HL := Aside0.mk hl
    have HO := Aside0.mk ho
    have B1 := Aside0.mk b1
    have B2 := Aside0.mk b2
    clear hl ho b1 b2 m2
    go_enter Tryd.func22, Tryd.ntmps22
    go_wp2
    go_loopw [5] (fun x wr => ∃ k : Nat, k ≤ n1 ∧ x = .int .i64 (k : Int) ∧ Aside0 (l.take k = o.take k) ∧ Aside0 (Below W.heap.size W wr)) (fun x _ => n1 - (intOf x).toNat)
    case atStart => exact ⟨0, by omega, rfl, ⟨rfl⟩, HB⟩
    case round =>
      obtain ⟨k, hk, rfl, hall, hB⟩ := hrel
      clear HB
      have HB := hB
      clear hB
      by_cases hlt : k < n1
      · obtain ⟨x, hx⟩ : ∃ x, l[k]? = some x := ⟨_, List.getElem?_eq_getElem (by rw [HL.out]; exact hlt)⟩
        obtain ⟨y, hy⟩ : ∃ y, o[k]? = some y := ⟨_, List.getElem?_eq_getElem (by rw [HO.out]; exact hlt)⟩
        obtain ⟨hkl, ex⟩ := List.getElem?_eq_some_iff.1 hx
        obtain ⟨hko, ey⟩ := List.getElem?_eq_some_iff.1 hy
        obtain ⟨ad1, hA1, c1'⟩ := (B1.out.below HB.out).at_ k hkl
        obtain ⟨ad2, hA2, c2'⟩ := (B2.out.below HB.out).at_ k hko
        rw [ex] at c1'
        rw [ey] at c2'
        have DX : Aside0 (Dig x) := ⟨B1.out.dg x (List.mem_of_getElem? hx)⟩
        have DY : Aside0 (Dig y) := ⟨B2.out.dg y (List.mem_of_getElem? hy)⟩
        have C1 : Aside0 (∀ i, i < 32 → wr.cell? ((ad1.add (k * 32)).add i) = some (.int .u8 (rd x (i : Int)))) := ⟨fun i hi => by rw [addr_add]; exact c1' i hi⟩
        have C2 : Aside0 (∀ i, i < 32 → wr.cell? ((ad2.add (k * 32)).add i) = some (.int .u8 (rd y (i : Int)))) := ⟨fun i hi => by rw [addr_add]; exact c2' i hi⟩
        have HX := Aside0.mk hx
        have HY := Aside0.mk hy
        subst hA1
        subst hA2
        have i1 := fun W => idx_dgs ad1 n1 c1 k hlt W
        have i2 := fun W => idx_dgs ad2 n1 c2 k hlt W
        clear hx hy ex ey c1' c2' hkl hko
        by_cases hxy : x = y
        · have EQ : Aside0 (decide (x = y) = true) := ⟨decide_eq_true hxy⟩
          have HXY := Aside0.mk hxy
          clear hxy
          go_wp2
          have hb : Below wr.heap.size wr wr.drew := below_drew (Below.refl _ _)
          refine start_ (n := 9) (S := fun w' => (∀ i, i < 32 → w'.cell? ((ad1.add (k * 32)).add i) = some (.int .u8 (rd x (i : Int)))) ∧ (∀ i, i < 32 → w'.cell? ((ad2.add (k * 32)).add i) = some (.int .u8 (rd y (i : Int))))) (ds := []) #[false, false, false, false, false, false, false, false, false] (by kernel_rfl) rfl rfl ⟨fun i hi => cell_below (C1.out i hi) hb, fun i hi => cell_below (C2.out i hi) hb⟩ (fun hHeld => ?_)
          refine with_tabW same6_tab same6_bits (fun HT_ HW_ => ?_)
          have n0 := Aside0.mk (below_step HB.out hb)
          clear HB hb C1 C2
          have HB := n0
          clear n0
          generalize wr.drew = wa at HB hHeld ⊢
          refine pure_ (i := 0) (N := (some 17)) (v := ?_) (a' := ?_) #[true, false, false, false, false, false, false, false, false] rfl rfl (any_of HT_.out (by kernel_rfl)) (fun _ _ _ h => h) (Or.inl ⟨by rfl, ?_⟩) ?_ ?_
          rotate_left
          · intro w'
            go_simp
            first | with_reducible rfl | (simp; done) | rfl
          rotate_left
          · simp only [Act.put, List.setIfInBounds_toArray, List.set_cons_zero, List.set_cons_succ, i64_w, i32_w]
            rfl
          refine pure_ (i := 1) (N := (some 18)) (v := ?_) (a' := ?_) #[true, true, false, false, false, false, false, false, false] rfl rfl (any_of HT_.out (by kernel_rfl)) (fun _ _ _ h => h) (Or.inl ⟨by rfl, ?_⟩) ?_ ?_
          rotate_left
          · intro w'
            go_simp
            first | with_reducible rfl | (simp; done) | rfl
          rotate_left
          · simp only [Act.put, List.setIfInBounds_toArray, List.set_cons_zero, List.set_cons_succ, i64_w, i32_w]
            rfl
          refine pure_ (i := 2) (N := (some 19)) (v := ?_) (a' := ?_) #[true, true, true, false, false, false, false, false, false] rfl rfl (any_of HT_.out (by kernel_rfl)) (fun _ _ _ h => h) (Or.inl ⟨by rfl, ?_⟩) ?_ ?_
          rotate_left
          · intro w'
            go_simp
            first | with_reducible rfl | (simp; done) | rfl
          rotate_left
          · simp only [Act.put, List.setIfInBounds_toArray, List.set_cons_zero, List.set_cons_succ, i64_w, i32_w]
            rfl
          refine take_ (i := 3) (N := (some 20)) (v := ?_) (a' := ?_) #[true, true, true, true, false, false, false, false, false] rfl rfl (take_ofW HT_.out HW_.out (by kernel_rfl)) (fun _ _ _ h => h) (Or.inl ⟨by rfl, ?_⟩) hHeld ?_ ?_
          rotate_left
          · rintro w' ⟨s0, s1⟩
            refine dig_load_at (x := .tmp 19) (ds := x) ?_ ?_ DX.out.1 s0 <;> rfl
          rotate_left
          · simp only [Act.put, List.setIfInBounds_toArray, List.set_cons_zero, List.set_cons_succ, i64_w, i32_w]
            rfl
          refine pure_ (i := 4) (N := (some 21)) (v := ?_) (a' := ?_) #[true, true, true, true, true, false, false, false, false] rfl rfl (any_of HT_.out (by kernel_rfl)) (fun _ _ _ h => h) (Or.inl ⟨by rfl, ?_⟩) ?_ ?_
          rotate_left
          · intro w'
            go_simp
            first | with_reducible rfl | (simp; done) | rfl
          rotate_left
          · simp only [Act.put, List.setIfInBounds_toArray, List.set_cons_zero, List.set_cons_succ, i64_w, i32_w]
            rfl
          refine pure_ (i := 5) (N := (some 22)) (v := ?_) (a' := ?_) #[true, true, true, true, true, true, false, false, false] rfl rfl (any_of HT_.out (by kernel_rfl)) (fun _ _ _ h => h) (Or.inl ⟨by rfl, ?_⟩) ?_ ?_
          rotate_left
          · intro w'
            go_simp
            first | with_reducible rfl | (simp; done) | rfl
          rotate_left
          · simp only [Act.put, List.setIfInBounds_toArray, List.set_cons_zero, List.set_cons_succ, i64_w, i32_w]
            rfl
          refine pure_ (i := 6) (N := (some 23)) (v := ?_) (a' := ?_) #[true, true, true, true, true, true, true, false, false] rfl rfl (any_of HT_.out (by kernel_rfl)) (fun _ _ _ h => h) (Or.inl ⟨by rfl, ?_⟩) ?_ ?_
          rotate_left
          · intro w'
            go_simp
            first | with_reducible rfl | (simp; done) | rfl
          rotate_left
          · simp only [Act.put, List.setIfInBounds_toArray, List.set_cons_zero, List.set_cons_succ, i64_w, i32_w]
            rfl
          refine take_ (i := 7) (N := (some 24)) (v := ?_) (a' := ?_) #[true, true, true, true, true, true, true, true, false] rfl rfl (take_ofW HT_.out HW_.out (by kernel_rfl)) (fun _ _ _ h => h) (Or.inl ⟨by rfl, ?_⟩) hHeld ?_ ?_
          rotate_left
          · rintro w' ⟨s0, s1⟩
            refine dig_load_at (x := .tmp 23) (ds := y) ?_ ?_ DY.out.1 s1 <;> rfl
          rotate_left
          · simp only [Act.put, List.setIfInBounds_toArray, List.set_cons_zero, List.set_cons_succ, i64_w, i32_w]
            rfl
          refine pure_ (i := 8) (N := (some 25)) (v := ?_) (a' := ?_) #[true, true, true, true, true, true, true, true, true] rfl rfl (any_of HT_.out (by kernel_rfl)) (fun _ _ _ h => h) (Or.inl ⟨by rfl, ?_⟩) ?_ ?_
          rotate_left
          · intro w'
            refine dig_neqB (x := .tmp 20) (y := .tmp 24) (b := true) ?_ ?_ ?_ DX.out DY.out EQ.out <;> rfl
          rotate_left
          · simp only [Act.put, List.setIfInBounds_toArray, List.set_cons_zero, List.set_cons_succ, i64_w, i32_w]
            rfl
          refine done_ (done_of HT_.out (by kernel_rfl)) ?_
          go_wp2
          exact ⟨⟨k + 1, by omega, by simp, ⟨take_eq_snoc HX.out HY.out hall.out HXY.out⟩, HB⟩, by simp [intOf]; omega⟩
        · have EQ : Aside0 (decide (x = y) = false) := ⟨decide_eq_false hxy⟩
          have NE : Aside0 (decide (l = o) = false) := ⟨decide_eq_false (fun e => hxy (by
            have h1 := HX.out
            rw [e, HY.out] at h1
            exact (Option.some.inj h1).symm))⟩
          clear hxy
          go_wp2
          have hb : Below wr.heap.size wr wr.drew := below_drew (Below.refl _ _)
          refine start_ (n := 9) (S := fun w' => (∀ i, i < 32 → w'.cell? ((ad1.add (k * 32)).add i) = some (.int .u8 (rd x (i : Int)))) ∧ (∀ i, i < 32 → w'.cell? ((ad2.add (k * 32)).add i) = some (.int .u8 (rd y (i : Int))))) (ds := []) #[false, false, false, false, false, false, false, false, false] (by kernel_rfl) rfl rfl ⟨fun i hi => cell_below (C1.out i hi) hb, fun i hi => cell_below (C2.out i hi) hb⟩ (fun hHeld => ?_)
          refine with_tabW same6_tab same6_bits (fun HT_ HW_ => ?_)
          have n0 := Aside0.mk (below_step HB.out hb)
          clear HB hb C1 C2
          have HB := n0
          clear n0
          generalize wr.drew = wa at HB hHeld ⊢
          refine pure_ (i := 0) (N := (some 17)) (v := ?_) (a' := ?_) #[true, false, false, false, false, false, false, false, false] rfl rfl (any_of HT_.out (by kernel_rfl)) (fun _ _ _ h => h) (Or.inl ⟨by rfl, ?_⟩) ?_ ?_
          rotate_left
          · intro w'
            go_simp
            first | with_reducible rfl | (simp; done) | rfl
          rotate_left
          · simp only [Act.put, List.setIfInBounds_toArray, List.set_cons_zero, List.set_cons_succ, i64_w, i32_w]
            rfl
          refine pure_ (i := 1) (N := (some 18)) (v := ?_) (a' := ?_) #[true, true, false, false, false, false, false, false, false] rfl rfl (any_of HT_.out (by kernel_rfl)) (fun _ _ _ h => h) (Or.inl ⟨by rfl, ?_⟩) ?_ ?_
          rotate_left
          · intro w'
            go_simp
            first | with_reducible rfl | (simp; done) | rfl
          rotate_left
          · simp only [Act.put, List.setIfInBounds_toArray, List.set_cons_zero, List.set_cons_succ, i64_w, i32_w]
            rfl
          refine pure_ (i := 2) (N := (some 19)) (v := ?_) (a' := ?_) #[true, true, true, false, false, false, false, false, false] rfl rfl (any_of HT_.out (by kernel_rfl)) (fun _ _ _ h => h) (Or.inl ⟨by rfl, ?_⟩) ?_ ?_
          rotate_left
          · intro w'
            go_simp
            first | with_reducible rfl | (simp; done) | rfl
          rotate_left
          · simp only [Act.put, List.setIfInBounds_toArray, List.set_cons_zero, List.set_cons_succ, i64_w, i32_w]
            rfl
          refine take_ (i := 3) (N := (some 20)) (v := ?_) (a' := ?_) #[true, true, true, true, false, false, false, false, false] rfl rfl (take_ofW HT_.out HW_.out (by kernel_rfl)) (fun _ _ _ h => h) (Or.inl ⟨by rfl, ?_⟩) hHeld ?_ ?_
          rotate_left
          · rintro w' ⟨s0, s1⟩
            refine dig_load_at (x := .tmp 19) (ds := x) ?_ ?_ DX.out.1 s0 <;> rfl
          rotate_left
          · simp only [Act.put, List.setIfInBounds_toArray, List.set_cons_zero, List.set_cons_succ, i64_w, i32_w]
            rfl
          refine pure_ (i := 4) (N := (some 21)) (v := ?_) (a' := ?_) #[true, true, true, true, true, false, false, false, false] rfl rfl (any_of HT_.out (by kernel_rfl)) (fun _ _ _ h => h) (Or.inl ⟨by rfl, ?_⟩) ?_ ?_
          rotate_left
          · intro w'
            go_simp
            first | with_reducible rfl | (simp; done) | rfl
          rotate_left
          · simp only [Act.put, List.setIfInBounds_toArray, List.set_cons_zero, List.set_cons_succ, i64_w, i32_w]
            rfl
          refine pure_ (i := 5) (N := (some 22)) (v := ?_) (a' := ?_) #[true, true, true, true, true, true, false, false, false] rfl rfl (any_of HT_.out (by kernel_rfl)) (fun _ _ _ h => h) (Or.inl ⟨by rfl, ?_⟩) ?_ ?_
          rotate_left
          · intro w'
            go_simp
            first | with_reducible rfl | (simp; done) | rfl
          rotate_left
          · simp only [Act.put, List.setIfInBounds_toArray, List.set_cons_zero, List.set_cons_succ, i64_w, i32_w]
            rfl
          refine pure_ (i := 6) (N := (some 23)) (v := ?_) (a' := ?_) #[true, true, true, true, true, true, true, false, false] rfl rfl (any_of HT_.out (by kernel_rfl)) (fun _ _ _ h => h) (Or.inl ⟨by rfl, ?_⟩) ?_ ?_
          rotate_left
          · intro w'
            go_simp
            first | with_reducible rfl | (simp; done) | rfl
          rotate_left
          · simp only [Act.put, List.setIfInBounds_toArray, List.set_cons_zero, List.set_cons_succ, i64_w, i32_w]
            rfl
          refine take_ (i := 7) (N := (some 24)) (v := ?_) (a' := ?_) #[true, true, true, true, true, true, true, true, false] rfl rfl (take_ofW HT_.out HW_.out (by kernel_rfl)) (fun _ _ _ h => h) (Or.inl ⟨by rfl, ?_⟩) hHeld ?_ ?_
          rotate_left
          · rintro w' ⟨s0, s1⟩
            refine dig_load_at (x := .tmp 23) (ds := y) ?_ ?_ DY.out.1 s1 <;> rfl
          rotate_left
          · simp only [Act.put, List.setIfInBounds_toArray, List.set_cons_zero, List.set_cons_succ, i64_w, i32_w]
            rfl
          refine pure_ (i := 8) (N := (some 25)) (v := ?_) (a' := ?_) #[true, true, true, true, true, true, true, true, true] rfl rfl (any_of HT_.out (by kernel_rfl)) (fun _ _ _ h => h) (Or.inl ⟨by rfl, ?_⟩) ?_ ?_
          rotate_left
          · intro w'
            refine dig_neqB (x := .tmp 20) (y := .tmp 24) (b := false) ?_ ?_ ?_ DX.out DY.out EQ.out <;> rfl
          rotate_left
          · simp only [Act.put, List.setIfInBounds_toArray, List.set_cons_zero, List.set_cons_succ, i64_w, i32_w]
            rfl
          refine done_ (done_of HT_.out (by kernel_rfl)) ?_
          go_wp2
          go_ret
          exact ⟨by rw [NE.out]; rfl, HB.out⟩
      · have TR : Aside0 (decide (l = o) = true) := ⟨decide_eq_true (by
          have h := hall.out
          rw [List.take_of_length_le (by rw [HL.out]; omega), List.take_of_length_le (by rw [HO.out]; omega)] at h
          exact h)⟩
        go_wp2
        go_ret
        exact ⟨by rw [TR.out]; rfl, HB.out⟩
  · have e1 : ((n1 : Int) != (n2 : Int)) = true := by simp; omega
    have e2 : (n1 != n2) = true := by simp; omega
    have NE : Aside0 (decide (l = o) = false) := ⟨decide_eq_false (fun e => hn (by rw [← hl, ← ho, e]))⟩
    clear hn hl ho b1 b2
    go_enter Tryd.func22, Tryd.ntmps22
    go_wp2
    go_ret
    exact ⟨by rw [NE.out]; rfl, HB.out⟩
set_option maxHeartbeats 8000000 in
set_option maxRecDepth 100000 in
theorem sides13_walk (A : Option Addr) (n c : Nat) (l : List (List Int)) (i : Int) (W : World) (br : Rws W A n c l) :
    Calls Tryd.prog 32 #[.slice A n c, .int .i64 i] W fun e W' => ∃ v, e = .returned (.tuple #[v, .int .i64 (sidesC l i).2]) ∧ W'.ownsRow W.heap.size 25 32 v (sidesC l i).1.length (flatD (sidesC l i).1) ∧ Below W.heap.size W W' := by
  have HL : Aside0 (∀ w, Below W.heap.size W w → Calls Tryd.prog 50 #[.slice A n c] w fun e W' => e = .returned (.bool (listP l)) ∧ Below w.heap.size w W') := ⟨fun w hw => may_walk A n c l w (br.below hw)⟩
  have HB := Aside0.mk (Below.refl W.heap.size W)
  have hln := br.len
  unfold sidesC
  rw [hln]
  cases hl : listP l with
  | false =>
    rw [hl] at HL
    rw [if_neg (by decide)]
    clear hl br hln
    go_enter Tryd.func32, Tryd.ntmps32
    go_wp2_with (go_at_call 50; (with_reducible refine (HL.out _ HB.out).mono ?_); rintro e wq ⟨rfl, hb⟩; have n1 := Aside0.mk (below_step HB.out hb); clear HB; have HB := n1; clear n1 hb)
    go_ret2
    exact ⟨_, rfl, own_nil _ _ _ _, HB.out⟩
  | true =>
    rw [if_pos rfl]
    by_cases h1 : i < 0
    · rw [hl] at HL
      rw [if_pos (.inl h1)]
      have d1 : decide (i < 0) = true := decide_eq_true h1
      clear hl br hln
      go_enter Tryd.func32, Tryd.ntmps32
      go_wp2_with (go_at_call 50; (with_reducible refine (HL.out _ HB.out).mono ?_); rintro e wq ⟨rfl, hb⟩; have n1 := Aside0.mk (below_step HB.out hb); clear HB; have HB := n1; clear n1 hb)
      go_ret2
      exact ⟨_, rfl, own_nil _ _ _ _, HB.out⟩
    · obtain ⟨j, rfl⟩ := Int.eq_ofNat_of_zero_le (show 0 ≤ i by omega)
      by_cases h2 : n ≤ j
      · rw [hl] at HL
        rw [if_pos (.inr (by omega))]
        clear hl br hln h1
        go_enter Tryd.func32, Tryd.ntmps32
        go_wp2_with (go_at_call 50; (with_reducible refine (HL.out _ HB.out).mono ?_); rintro e wq ⟨rfl, hb⟩; have n1 := Aside0.mk (below_step HB.out hb); clear HB; have HB := n1; clear n1 hb)
        go_ret2
        exact ⟨_, rfl, own_nil _ _ _ _, HB.out⟩
      · rw [if_neg (by omega)]
        have h3 : j < n := by omega
        have hlen := listP_len hl
        have hsh := listP_short hl
        rw [hl] at HL
        have HP : Aside0 (∀ w, Below W.heap.size W w → Calls Tryd.prog 52 #[.slice A n c, .int .i64 (j : Int)] w fun e W' => ∃ v, e = .returned v ∧ W'.ownsRow w.heap.size 25 32 v (sidesP l j).length (flatD (sidesP l j)) ∧ Below w.heap.size w W') := ⟨fun w hw => beside_walk 256 A n c l j w (br.below hw) hsh (by omega) (by omega) h3⟩
        rw [Int.toNat_natCast]
        obtain ⟨ss, hss⟩ : ∃ ss, sidesP l j = ss := ⟨_, rfl⟩
        rw [hss] at HP ⊢
        clear hl br hln h1 h2 hlen hsh hss
        go_enter Tryd.func32, Tryd.ntmps32
        go_wp2_with (
          first
          | (go_at_call 50; (with_reducible refine (HL.out _ HB.out).mono ?_); rintro e wq ⟨rfl, hb⟩; have n1 := Aside0.mk (below_step HB.out hb); clear HB; have HB := n1; clear n1 hb)
          | (go_at_call 52; (with_reducible refine (HP.out _ HB.out).mono ?_); rintro e w3 ⟨v3, rfl, ho, hb⟩; have HO := Aside0.mk (own_weaken ho (below_size HB.out)); have HB3 := Aside0.mk (below_step HB.out hb); clear ho hb))
        go_ret2
        exact ⟨_, rfl, HO.out, HB3.out⟩
end Go.Proofs.YtoaimcobcgomjaaDoor.Q
namespace Go.Proofs.YtoaimcobcgomjaaDoor.Q
open Go.RowKit Go.Proofs.YtoaimcobcgomjaaDoorW.PrintWords Go.Proofs.YtoaimcobcgomjaaDoorW.PrintLast Go.Proofs.YtoaimcobcgomjaaDoorW.PrintMore
set_option linter.unusedVariables false
set_option linter.unusedSimpArgs false
/-- Are rows more than is gone through? -/
def greatP (l : List (List Int)) (n : Int) : Bool := decide ((l.length : Int) > n) || l.any fun p => (decide (200 < p.length) && decide (p.length ≤ 4096)) || decide (5000 < p.length)
theorem great_l0 (l : List (List Int)) (hmax : l.length < 1000000000) : ∀ (d k j : Nat), j + d = l.length → d < k → (∀ i, (hi : i < l.length) → i < j → ((decide (200 < l[i].length) && decide (l[i].length ≤ 4096)) || decide (5000 < l[i].length)) = false) →
    beadrollref13_Great.l0 k l (j : Int) = some (l.any fun p => (decide (200 < p.length) && decide (p.length ≤ 4096)) || decide (5000 < p.length)) := by
  intro d
  induction d with
  | zero =>
    intro k j hj hk hall
    obtain ⟨k, rfl⟩ : ∃ q, k = q + 1 := ⟨k - 1, by omega⟩
    simp only [beadrollref13_Great.l0]
    rw [if_neg (by omega)]
    have : (l.any fun p => (decide (200 < p.length) && decide (p.length ≤ 4096)) || decide (5000 < p.length)) = false := List.any_eq_false.2 fun p hp => by
      obtain ⟨i, hi, rfl⟩ := List.mem_iff_getElem.1 hp
      rw [hall i hi (by omega)]
      simp
    rw [this]
  | succ d ih =>
    intro k j hj hk hall
    obtain ⟨k, rfl⟩ : ∃ q, k = q + 1 := ⟨k - 1, by omega⟩
    have hjl : j < l.length := by omega
    have hw : wrap64 ((j : Int) + 1) = ((j + 1 : Nat) : Int) := by unfold wrap64; omega
    have hyes : ((decide (200 < l[j].length) && decide (l[j].length ≤ 4096)) || decide (5000 < l[j].length)) = true → (l.any fun p => (decide (200 < p.length) && decide (p.length ≤ 4096)) || decide (5000 < p.length)) = true := fun h => List.any_eq_true.2 ⟨_, List.getElem_mem hjl, h⟩
    have hno : ((decide (200 < l[j].length) && decide (l[j].length ≤ 4096)) || decide (5000 < l[j].length)) = false → beadrollref13_Great.l0 k l ((j + 1 : Nat) : Int) = some (l.any fun p => (decide (200 < p.length) && decide (p.length ≤ 4096)) || decide (5000 < p.length)) := fun h => ih k (j + 1) (by omega) (by omega) (fun i hi hij => by
      by_cases e : i = j
      · subst e; exact h
      · exact hall i hi (by omega))
    simp only [beadrollref13_Great.l0]
    rw [if_pos (by omega), if_pos (by omega), rd_row l j hjl, hw]
    by_cases h1 : (l[j].length : Int) > 200
    · rw [if_pos h1]
      by_cases h2 : (l[j].length : Int) ≤ 4096
      · rw [if_pos h2, hyes (by rw [decide_eq_true (show 200 < l[j].length by omega), decide_eq_true (show l[j].length ≤ 4096 by omega)]; rfl)]
      · rw [if_neg h2]
        by_cases h3 : (l[j].length : Int) > 5000
        · rw [if_pos h3, hyes (by rw [decide_eq_true (show 5000 < l[j].length by omega)]; simp)]
        · rw [if_neg h3]
          exact hno (by rw [decide_eq_false (show ¬ l[j].length ≤ 4096 by omega), decide_eq_false (show ¬ 5000 < l[j].length by omega)]; simp)
    · rw [if_neg h1]
      by_cases h3 : (l[j].length : Int) > 5000
      · rw [if_pos h3, hyes (by rw [decide_eq_true (show 5000 < l[j].length by omega)]; simp)]
      · rw [if_neg h3]
        exact hno (by rw [decide_eq_false (show ¬ 200 < l[j].length by omega), decide_eq_false (show ¬ 5000 < l[j].length by omega)]; simp)
theorem great_f (l : List (List Int)) (n : Int) (hn : n < 1000) : beadrollref13_Great.f 1001 l n = some (greatP l n) := by
  unfold beadrollref13_Great.f greatP
  by_cases h : (l.length : Int) > n
  · rw [if_pos h, decide_eq_true h]; rfl
  · rw [if_neg h, decide_eq_false h, Bool.false_or]
    exact great_l0 l (by omega) l.length 1001 0 (by omega) (by omega) (fun i hi h => by omega)
theorem great_walk (A : Option Addr) (n c : Nat) (l : List (List Int)) (k : Int) (hk : k < 1000) (W : World) (br : Rws W A n c l) :
    Calls Tryd.prog 25 #[.slice A n c, .int .i64 k] W fun e W' => e = .returned (.bool (greatP l k)) ∧ Below W.heap.size W W' := by
  have e1 := br.len
  subst e1
  refine (beadrollref13_Great.calls 1001 A c l k (greatP l k) W br.rd_ br.le (great_f l k hk)).mono ?_
  rintro e W' ⟨rfl, nd, rfl⟩
  exact ⟨rfl, pw_below_drewN (Below.refl _ _) nd⟩
/-- What is not too great is short. -/
theorem great_not {l : List (List Int)} {n : Int} (h : greatP l n = false) : (l.length : Int) ≤ n ∧ Short l := by
  unfold greatP at h
  simp only [Bool.or_eq_false_iff, decide_eq_false_iff_not, List.any_eq_false] at h
  refine ⟨by omega, fun p hp => ?_⟩
  have := h.2 p hp
  simp at this
  omega
end Go.Proofs.YtoaimcobcgomjaaDoor.Q
namespace Go.Proofs.YtoaimcobcgomjaaDoor.Q
open Go.RowKit Go.Proofs.YtoaimcobcgomjaaDoorW.PrintWords Go.Proofs.YtoaimcobcgomjaaDoorW.PrintLast Go.Proofs.YtoaimcobcgomjaaDoorW.PrintMore
set_option linter.unusedVariables false
set_option linter.unusedSimpArgs false
theorem twin_l0 (l : List (List Int)) (hl : l.length ≤ 1000) (hs : Short l) : ∀ (d k j : Nat), j + d = l.length → d < k → beadrollref13_Twin.l0 k l (l.take j) (j : Int) = some l := by
  intro d
  induction d with
  | zero =>
    intro k j hj hk
    obtain ⟨k, rfl⟩ : ∃ q, k = q + 1 := ⟨k - 1, by omega⟩
    simp only [beadrollref13_Twin.l0]
    rw [if_neg (by omega), List.take_of_length_le (by omega)]
  | succ d ih =>
    intro k j hj hk
    obtain ⟨k, rfl⟩ : ∃ q, k = q + 1 := ⟨k - 1, by omega⟩
    have hjl : j < l.length := by omega
    have hw : wrap64 ((j : Int) + 1) = ((j + 1 : Nat) : Int) := by unfold wrap64; omega
    have hp := hs l[j] (List.getElem_mem hjl)
    have e := ih k (j + 1) (by omega) (by omega)
    rw [List.take_succ_eq_append_getElem hjl] at e
    simp only [beadrollref13_Twin.l0]
    rw [if_pos (by omega), if_pos (by omega), rd_row l j hjl, hw, if_pos (by simp only [List.length_nil]; omega), if_pos (by rw [List.length_take]; omega)]
    exact e
theorem twin_f (l : List (List Int)) (hl : l.length ≤ 1000) (hs : Short l) : beadrollref13_Twin.f 1001 l = some l := by
  unfold beadrollref13_Twin.f
  exact twin_l0 l hl hs l.length 1001 0 (by omega) (by omega)
theorem twin13_walk (A : Option Addr) (n c : Nat) (l : List (List Int)) (W : World) (br : Rws W A n c l) (hl : l.length ≤ 1000) (hs : Short l) :
    Calls Tryd.prog 30 #[.slice A n c] W fun e W' => ∃ A' c', e = .returned (.slice A' n c') ∧ Rws W' A' n c' l ∧ Below W.heap.size W W' := by
  have e1 := br.len
  subst e1
  refine (beadrollref13_Twin.calls 1001 A c l l W br.rd_ br.le (twin_f l hl hs)).mono ?_
  rintro e W' ⟨v, rfl, hS, hb⟩
  obtain ⟨A', c', rfl, hle, hC⟩ := Kd.S_reads hS
  exact ⟨A', c', rfl, ⟨hC, hle, br.by_⟩, hb⟩
theorem same03_l0 (l : List (List Int)) (hl : l.length ≤ 1000) : ∀ (d k j : Nat), j + d = l.length → d < k → beadrollref03_Same.l0 k l l (j : Int) = some true := by
  intro d
  induction d with
  | zero =>
    intro k j hj hk
    obtain ⟨k, rfl⟩ : ∃ q, k = q + 1 := ⟨k - 1, by omega⟩
    simp only [beadrollref03_Same.l0]
    rw [if_neg (by omega)]
  | succ d ih =>
    intro k j hj hk
    obtain ⟨k, rfl⟩ : ∃ q, k = q + 1 := ⟨k - 1, by omega⟩
    have hw : wrap64 ((j : Int) + 1) = ((j + 1 : Nat) : Int) := by unfold wrap64; omega
    simp only [beadrollref03_Same.l0, beadrollref01_Same.f, beq_self_eq_true, Option.bind_some, if_true]
    rw [if_pos (by omega), if_pos (by omega), if_pos (by omega), hw]
    exact ih k (j + 1) (by omega) (by omega)
theorem same03_walk (A1 A2 : Option Addr) (n c1 c2 : Nat) (l : List (List Int)) (W : World) (b1 : Rws W A1 n c1 l) (b2 : Rws W A2 n c2 l) (hl : l.length ≤ 1000) :
    Calls Tryd.prog 33 #[.slice A1 n c1, .slice A2 n c2] W fun e W' => e = .returned (.bool true) ∧ Below W.heap.size W W' := by
  have e1 := b1.len
  subst e1
  refine (beadrollref03_Same.calls 1001 A1 c1 l A2 c2 l true W b1.rd_ b1.le b2.rd_ b2.le (by unfold beadrollref03_Same.f; rw [if_pos rfl]; exact same03_l0 l hl l.length 1001 0 (by omega) (by omega))).mono ?_
  rintro e W' ⟨rfl, nd, rfl⟩
  exact ⟨rfl, pw_below_drewN (Below.refl _ _) nd⟩
set_option maxHeartbeats 8000000 in
set_option maxRecDepth 100000 in
theorem tell_early (A : Option Addr) (n c : Nat) (l : List (List Int)) (i : Int) (W : World) (br : Rws W A n c l) (h1 : greatP l 30 = true) (h2 : n < 256 ∨ greatP l 260 = true) :
    Calls Tryd.prog 11 #[.slice A n c, .int .i64 i] W fun e W' => e = .returned (.bool true) ∧ Below W.heap.size W W' := by
  have HB := Aside0.mk (Below.refl W.heap.size W)
  have HG30 : Aside0 (∀ w, Below W.heap.size W w → Calls Tryd.prog 25 #[.slice A n c, .int .i64 30] w fun e W' => e = .returned (.bool (greatP l 30)) ∧ Below w.heap.size w W') := ⟨fun w hw => great_walk A n c l 30 (by omega) w (br.below hw)⟩
  have HG260 : Aside0 (∀ w, Below W.heap.size W w → Calls Tryd.prog 25 #[.slice A n c, .int .i64 260] w fun e W' => e = .returned (.bool (greatP l 260)) ∧ Below w.heap.size w W') := ⟨fun w hw => great_walk A n c l 260 (by omega) w (br.below hw)⟩
  rw [h1] at HG30
  have hmx := br.max
  clear h1 br
  by_cases h3 : n < 256
  · have h4 : (n : Int) < 256 := by omega
    have h5 : decide (n < 256) = true := decide_eq_true h3
    clear h2 HG260
    go_enter Tryd.func11, Tryd.ntmps11
    go_wp2_with (
      first
      | (go_at_call 25; (with_reducible refine (HG30.out _ HB.out).mono ?_); rintro e wg ⟨rfl, hb⟩; have n0 := Aside0.mk (below_step HB.out hb); clear HB; have HB := n0; clear n0; clear hb)
      | (go_at_call 25; (with_reducible refine (HG260.out _ HB.out).mono ?_); rintro e wh ⟨rfl, hb⟩; have n0 := Aside0.mk (below_step HB.out hb); clear HB; have HB := n0; clear n0; clear hb))
    go_ret
    exact ⟨rfl, HB.out⟩
  · have h4 : ¬ (n : Int) < 256 := by omega
    have h5 : decide (n < 256) = false := decide_eq_false h3
    have h6 : greatP l 260 = true := by rcases h2 with h | h; exact absurd h h3; exact h
    rw [h6] at HG260
    clear h2 h6
    go_enter Tryd.func11, Tryd.ntmps11
    go_wp2_with (
      first
      | (go_at_call 25; (with_reducible refine (HG30.out _ HB.out).mono ?_); rintro e wg ⟨rfl, hb⟩; have n0 := Aside0.mk (below_step HB.out hb); clear HB; have HB := n0; clear n0; clear hb)
      | (go_at_call 25; (with_reducible refine (HG260.out _ HB.out).mono ?_); rintro e wh ⟨rfl, hb⟩; have n0 := Aside0.mk (below_step HB.out hb); clear HB; have HB := n0; clear n0; clear hb))
    go_ret
    exact ⟨rfl, HB.out⟩
set_option maxHeartbeats 16000000 in
set_option maxRecDepth 100000 in
theorem tell_main (A : Option Addr) (n c : Nat) (l : List (List Int)) (i : Int) (W : World) (br : Rws W A n c l) (hk : KT W) (hn : n ≤ 1000) (hs : Short l) (h : greatP l 30 = false ∨ greatP l 30 = true ∧ ¬ n < 256 ∧ greatP l 260 = false) :
    Calls Tryd.prog 11 #[.slice A n c, .int .i64 i] W fun e W' => e = .returned (.bool true) ∧ Below W.heap.size W W' := by
  have HB := Aside0.mk (Below.refl W.heap.size W)
  have HG30 : Aside0 (∀ w, Below W.heap.size W w → Calls Tryd.prog 25 #[.slice A n c, .int .i64 30] w fun e W' => e = .returned (.bool (greatP l 30)) ∧ Below w.heap.size w W') := ⟨fun w hw => great_walk A n c l 30 (by omega) w (br.below hw)⟩
  have HG260 : Aside0 (∀ w, Below W.heap.size W w → Calls Tryd.prog 25 #[.slice A n c, .int .i64 260] w fun e W' => e = .returned (.bool (greatP l 260)) ∧ Below w.heap.size w W') := ⟨fun w hw => great_walk A n c l 260 (by omega) w (br.below hw)⟩
  have hln := br.len
  have hmx := br.max
  have HTW : Aside0 (∀ w, Below W.heap.size W w → Calls Tryd.prog 30 #[.slice A n c] w fun e W' => ∃ A' c', e = .returned (.slice A' n c') ∧ Rws W' A' n c' l ∧ Below w.heap.size w W') := ⟨fun w hw => twin13_walk A n c l w (br.below hw) (by omega) hs⟩
  obtain ⟨d, hd⟩ : ∃ d, (rootC l).1 = d := ⟨_, rfl⟩
  obtain ⟨e1, he⟩ : ∃ e, (rootC l).2 = e := ⟨_, rfl⟩
  obtain ⟨ss, hss⟩ : ∃ ss, (sidesC l i).1 = ss := ⟨_, rfl⟩
  obtain ⟨e2, hf⟩ : ∃ e, (sidesC l i).2 = e := ⟨_, rfl⟩
  obtain ⟨ns, hns⟩ : ∃ n, ss.length = n := ⟨_, rfl⟩
  have hdd : Dig d := by
    rw [← hd]; unfold rootC; split
    · exact rootP_dig _
    · exact zeros32_dig
  have hsd : ∀ x ∈ ss, Dig x := by
    rw [← hss]; unfold sidesC; split
    · split
      · intro x hx; cases hx
      · exact sidesP_dig _ _
    · intro x hx; cases hx
  have DD := Aside0.mk hdd
  have DL : Aside0 (d.length = 32) := ⟨hdd.1⟩
  have HR : Aside0 (∀ w A' c', Rws w A' n c' l → KT w → Calls Tryd.prog 19 #[.slice A' n c'] w fun e W' => e = .returned (.tuple #[.agg (arr d), .int .i64 e1]) ∧ Below w.heap.size w W') := ⟨fun w A' c' hr hw => by
    have := rootR_walk A' n c' l w hr hw
    rwa [hd, he] at this⟩
  have HR13 : Aside0 (∀ w, Rws w A n c l → Calls Tryd.prog 31 #[.slice A n c] w fun e W' => e = .returned (.tuple #[.agg (arr d), .int .i64 e1]) ∧ Below w.heap.size w W') := ⟨fun w hr => by
    have := root13_walk A n c l w hr
    rwa [hd, he] at this⟩
  have HS : Aside0 (∀ w A' c', Rws w A' n c' l → KT w → Calls Tryd.prog 17 #[.slice A' n c', .int .i64 i] w fun e W' => ∃ Ax cx, e = .returned (.tuple #[.slice Ax ns cx, .int .i64 e2]) ∧ Digs W' Ax ns cx ss ∧ Below w.heap.size w W') := ⟨fun w A' c' hr hw => by
    have := sides_walk A' n c' l i w hr hw
    rw [hss, hf, hns] at this
    refine this.mono ?_
    rintro e W' ⟨v, rfl, ho, hb⟩
    obtain ⟨Ax, cx, rfl, hD⟩ := own_digs ho hsd
    exact ⟨Ax, cx, rfl, hD, hb⟩⟩
  have HS13 : Aside0 (∀ w, Rws w A n c l → Calls Tryd.prog 32 #[.slice A n c, .int .i64 i] w fun e W' => ∃ Ax cx, e = .returned (.tuple #[.slice Ax ns cx, .int .i64 e2]) ∧ Digs W' Ax ns cx ss ∧ Below w.heap.size w W') := ⟨fun w hr => by
    have := sides13_walk A n c l i w hr
    rw [hss, hf, hns] at this
    refine this.mono ?_
    rintro e W' ⟨v, rfl, ho, hb⟩
    obtain ⟨Ax, cx, rfl, hD⟩ := own_digs ho hsd
    exact ⟨Ax, cx, rfl, hD, hb⟩⟩
  have HSD : Aside0 (∀ w A1 c1 A2 c2, Digs w A1 ns c1 ss → Digs w A2 ns c2 ss → Calls Tryd.prog 22 #[.slice A1 ns c1, .slice A2 ns c2] w fun e W' => e = .returned (.bool true) ∧ Below w.heap.size w W') := ⟨fun w A1 c1 A2 c2 h1 h2 => by
    have := sameD_walk A1 A2 ns c1 ns c2 ss ss w h1 h2
    rwa [decide_eq_true (show ss = ss from rfl)] at this⟩
  have HS03 : Aside0 (∀ w A1 c1, Rws w A1 n c1 l → Rws w A n c l → Calls Tryd.prog 33 #[.slice A1 n c1, .slice A n c] w fun e W' => e = .returned (.bool true) ∧ Below w.heap.size w W') := ⟨fun w A1 c1 h1 h2 => same03_walk A1 A n c1 c l w h1 h2 (by omega)⟩
  have hse : ∀ W, (binOp .eql 25 (.agg (arr d)) (.agg (arr d))).run Tryd.prog W = .ok (.bool true) W := fun W => by
    have := run_eql_dig d d DD.out DD.out W
    rwa [decide_eq_true (show d = d from rfl)] at this
  have BR := Aside0.mk br
  have HK := Aside0.mk hk
  clear hd he hss hf hns hdd hsd br hk hs hln hn
  rcases h with h30 | ⟨h30, h3, h260⟩
  · rw [h30] at HG30
    clear h30 HG260
    go_enter Tryd.func11, Tryd.ntmps11
    go_wp2_with (
      first
      | (go_at_call 25; (with_reducible refine (HG30.out _ HB.out).mono ?_); rintro e wg ⟨rfl, hb⟩; have n0 := Aside0.mk (below_step HB.out hb); clear HB; have HB := n0; clear n0; clear hb)
      | (go_at_call 25; (with_reducible refine (HG260.out _ HB.out).mono ?_); rintro e wh ⟨rfl, hb⟩; have n0 := Aside0.mk (below_step HB.out hb); clear HB; have HB := n0; clear n0; clear hb)
      | (go_at_call 30; (with_reducible refine (HTW.out _ HB.out).mono ?_); rintro e wt ⟨At, ct, rfl, hr, hb⟩; have HW := Aside0.mk (below_step HB.out hb); have RT := Aside0.mk hr; have KTt := Aside0.mk (HK.out.below HK.out.lt HW.out); have RL := Aside0.mk (BR.out.below HW.out); clear HB hb hr; have HB := Aside0.mk (Below.refl wt.heap.size wt))
      | ((with_reducible refine gate_dst (N := 6) rfl ?_); refine box_event ?hg (N := 6) ?hd (cs := arr zeros32) (t := 25) ?hr ?_; (case hd => rfl); (case hg => rfl); (case hr => first | (go_simp; done) | (go_simp; rfl));
                             intro g6 hg w6 hbox hb; have BK6 := Aside0.mk hbox; have G6 := Aside0.mk (show wt.heap.size ≤ g6 by rw [hg]; exact below_size HB.out); have n0 := Aside0.mk (below_step HB.out hb); clear HB; have HB := n0; clear n0; clear hb hbox hg)
      | ((with_reducible refine gate_store (p := 6) rfl ?_); refine dig_store rfl (.tmp 6) (.tmp 30) rfl g6 (d) (zeros32) rfl rfl BK6.out (DL.out) (rfl) ?_; intro ws6 bk hoth hbel; have nn := Aside0.mk bk; have n0 := Aside0.mk (hbel _ _ HB.out G6.out); clear HB; have HB := n0; clear n0; clear BK6 bk hoth hbel; have BK6 := nn; clear nn)
      | ((with_reducible refine gate_dst (N := 8) rfl ?_); refine box_event ?hg (N := 8) ?hd (cs := arr zeros32) (t := 25) ?hr ?_; (case hd => rfl); (case hg => rfl); (case hr => first | (go_simp; done) | (go_simp; rfl));
                             intro g8 hg w8 hbox hb; have BK8 := Aside0.mk hbox; have G8 := Aside0.mk (show wt.heap.size ≤ g8 by rw [hg]; exact below_size HB.out); have N6_8 := Aside0.mk (show g6 ≠ g8 by rw [hg]; exact Nat.ne_of_lt (blk_lt BK6.out)); have n0 := Aside0.mk (blk_below BK6.out hb); have n1 := Aside0.mk (below_step HB.out hb); clear BK6 HB; have BK6 := n0; have HB := n1; clear n0 n1; clear hb hbox hg)
      | ((with_reducible refine gate_store (p := 8) rfl ?_); refine dig_store rfl (.tmp 8) (.tmp 35) rfl g8 (d) (zeros32) rfl rfl BK8.out (DL.out) (rfl) ?_; intro ws8 bk hoth hbel; have nn := Aside0.mk bk; have n0 := Aside0.mk ((hoth g6 N6_8.out).trans BK6.out); have n1 := Aside0.mk (hbel _ _ HB.out G8.out); clear BK6 HB; have BK6 := n0; have HB := n1; clear n0 n1; clear BK8 bk hoth hbel; have BK8 := nn; clear nn)
      | (go_at_call 19; (with_reducible refine (HR.out _ _ _ (RT.out.below HB.out) (KTt.out.below KTt.out.lt HB.out)).mono ?_); rintro e wr ⟨rfl, hb⟩; have n0 := Aside0.mk (below_step HB.out hb); clear HB; have HB := n0; clear n0; clear hb)
      | (go_at_call 31; (with_reducible refine (HR13.out _ (RL.out.below HB.out)).mono ?_); rintro e wr2 ⟨rfl, hb⟩; have n0 := Aside0.mk (blk_below BK6.out hb); have n1 := Aside0.mk (below_step HB.out hb); clear BK6 HB; have BK6 := n0; have HB := n1; clear n0 n1; clear hb)
      | (go_at_call 17; (with_reducible refine (HS.out _ _ _ (RT.out.below HB.out) (KTt.out.below KTt.out.lt HB.out)).mono ?_); rintro e wx ⟨Ax, cx, rfl, hd, hb⟩; have n0 := Aside0.mk (blk_below BK6.out hb); have n1 := Aside0.mk (blk_below BK8.out hb); have n2 := Aside0.mk (below_step HB.out hb); clear BK6 BK8 HB; have BK6 := n0; have BK8 := n1; have HB := n2; clear n0 n1 n2; have DX := Aside0.mk hd; clear hb hd)
      | (go_at_call 32; (with_reducible refine (HS13.out _ (RL.out.below HB.out)).mono ?_); rintro e wy ⟨Ay, cy, rfl, hd, hb⟩; have n0 := Aside0.mk (blk_below BK6.out hb); have n1 := Aside0.mk (blk_below BK8.out hb); have n2 := Aside0.mk (DX.out.below hb); have n3 := Aside0.mk (below_step HB.out hb); clear BK6 BK8 DX HB; have BK6 := n0; have BK8 := n1; have DX := n2; have HB := n3; clear n0 n1 n2 n3; have DY := Aside0.mk hd; clear hb hd)
      | ((with_reducible refine gate_dst (N := 49) rfl ?_); refine wpList_load_row rfl 25 (.tmp 6) rfl g6 rfl 25 (arr d) (0, 0) _ BK6.out Tryd.underlying25 rfl (by rw [arr_size, DL.out]; exact info_dig) ?_)
      | ((with_reducible refine gate_dst (N := 50) rfl ?_); refine wpList_load_row rfl 25 (.tmp 8) rfl g8 rfl 25 (arr d) (0, 0) _ BK8.out Tryd.underlying25 rfl (by rw [arr_size, DL.out]; exact info_dig) ?_)
      | (go_at_call 22; (with_reducible refine (HSD.out _ _ _ _ _ DX.out DY.out).mono ?_); rintro e wd ⟨rfl, hb⟩; have n0 := Aside0.mk (blk_below BK6.out hb); have n1 := Aside0.mk (blk_below BK8.out hb); have n2 := Aside0.mk (DX.out.below hb); have n3 := Aside0.mk (DY.out.below hb); have n4 := Aside0.mk (below_step HB.out hb); clear BK6 BK8 DX DY HB; have BK6 := n0; have BK8 := n1; have DX := n2; have DY := n3; have HB := n4; clear n0 n1 n2 n3 n4; clear hb)
      | (go_at_call 33; (with_reducible refine (HS03.out _ _ _ (RT.out.below HB.out) (RL.out.below HB.out)).mono ?_); rintro e we ⟨rfl, hb⟩; have n0 := Aside0.mk (blk_below BK6.out hb); have n1 := Aside0.mk (blk_below BK8.out hb); have n2 := Aside0.mk (DX.out.below hb); have n3 := Aside0.mk (DY.out.below hb); have n4 := Aside0.mk (below_step HB.out hb); clear BK6 BK8 DX DY HB; have BK6 := n0; have BK8 := n1; have DX := n2; have DY := n3; have HB := n4; clear n0 n1 n2 n3 n4; clear hb))
    go_ret
    exact ⟨rfl, HW.out.trans (HB.out.mono (below_size HW.out))⟩
  · rw [h30] at HG30
    rw [h260] at HG260
    have h4 : ¬ (n : Int) < 256 := by omega
    have h5 : decide (n < 256) = false := decide_eq_false h3
    clear h30 h260
    go_enter Tryd.func11, Tryd.ntmps11
    go_wp2_with (
      first
      | (go_at_call 25; (with_reducible refine (HG30.out _ HB.out).mono ?_); rintro e wg ⟨rfl, hb⟩; have n0 := Aside0.mk (below_step HB.out hb); clear HB; have HB := n0; clear n0; clear hb)
      | (go_at_call 25; (with_reducible refine (HG260.out _ HB.out).mono ?_); rintro e wh ⟨rfl, hb⟩; have n0 := Aside0.mk (below_step HB.out hb); clear HB; have HB := n0; clear n0; clear hb)
      | (go_at_call 30; (with_reducible refine (HTW.out _ HB.out).mono ?_); rintro e wt ⟨At, ct, rfl, hr, hb⟩; have HW := Aside0.mk (below_step HB.out hb); have RT := Aside0.mk hr; have KTt := Aside0.mk (HK.out.below HK.out.lt HW.out); have RL := Aside0.mk (BR.out.below HW.out); clear HB hb hr; have HB := Aside0.mk (Below.refl wt.heap.size wt))
      | ((with_reducible refine gate_dst (N := 6) rfl ?_); refine box_event ?hg (N := 6) ?hd (cs := arr zeros32) (t := 25) ?hr ?_; (case hd => rfl); (case hg => rfl); (case hr => first | (go_simp; done) | (go_simp; rfl));
                             intro g6 hg w6 hbox hb; have BK6 := Aside0.mk hbox; have G6 := Aside0.mk (show wt.heap.size ≤ g6 by rw [hg]; exact below_size HB.out); have n0 := Aside0.mk (below_step HB.out hb); clear HB; have HB := n0; clear n0; clear hb hbox hg)
      | ((with_reducible refine gate_store (p := 6) rfl ?_); refine dig_store rfl (.tmp 6) (.tmp 30) rfl g6 (d) (zeros32) rfl rfl BK6.out (DL.out) (rfl) ?_; intro ws6 bk hoth hbel; have nn := Aside0.mk bk; have n0 := Aside0.mk (hbel _ _ HB.out G6.out); clear HB; have HB := n0; clear n0; clear BK6 bk hoth hbel; have BK6 := nn; clear nn)
      | ((with_reducible refine gate_dst (N := 8) rfl ?_); refine box_event ?hg (N := 8) ?hd (cs := arr zeros32) (t := 25) ?hr ?_; (case hd => rfl); (case hg => rfl); (case hr => first | (go_simp; done) | (go_simp; rfl));
                             intro g8 hg w8 hbox hb; have BK8 := Aside0.mk hbox; have G8 := Aside0.mk (show wt.heap.size ≤ g8 by rw [hg]; exact below_size HB.out); have N6_8 := Aside0.mk (show g6 ≠ g8 by rw [hg]; exact Nat.ne_of_lt (blk_lt BK6.out)); have n0 := Aside0.mk (blk_below BK6.out hb); have n1 := Aside0.mk (below_step HB.out hb); clear BK6 HB; have BK6 := n0; have HB := n1; clear n0 n1; clear hb hbox hg)
      | ((with_reducible refine gate_store (p := 8) rfl ?_); refine dig_store rfl (.tmp 8) (.tmp 35) rfl g8 (d) (zeros32) rfl rfl BK8.out (DL.out) (rfl) ?_; intro ws8 bk hoth hbel; have nn := Aside0.mk bk; have n0 := Aside0.mk ((hoth g6 N6_8.out).trans BK6.out); have n1 := Aside0.mk (hbel _ _ HB.out G8.out); clear BK6 HB; have BK6 := n0; have HB := n1; clear n0 n1; clear BK8 bk hoth hbel; have BK8 := nn; clear nn)
      | (go_at_call 19; (with_reducible refine (HR.out _ _ _ (RT.out.below HB.out) (KTt.out.below KTt.out.lt HB.out)).mono ?_); rintro e wr ⟨rfl, hb⟩; have n0 := Aside0.mk (below_step HB.out hb); clear HB; have HB := n0; clear n0; clear hb)
      | (go_at_call 31; (with_reducible refine (HR13.out _ (RL.out.below HB.out)).mono ?_); rintro e wr2 ⟨rfl, hb⟩; have n0 := Aside0.mk (blk_below BK6.out hb); have n1 := Aside0.mk (below_step HB.out hb); clear BK6 HB; have BK6 := n0; have HB := n1; clear n0 n1; clear hb)
      | (go_at_call 17; (with_reducible refine (HS.out _ _ _ (RT.out.below HB.out) (KTt.out.below KTt.out.lt HB.out)).mono ?_); rintro e wx ⟨Ax, cx, rfl, hd, hb⟩; have n0 := Aside0.mk (blk_below BK6.out hb); have n1 := Aside0.mk (blk_below BK8.out hb); have n2 := Aside0.mk (below_step HB.out hb); clear BK6 BK8 HB; have BK6 := n0; have BK8 := n1; have HB := n2; clear n0 n1 n2; have DX := Aside0.mk hd; clear hb hd)
      | (go_at_call 32; (with_reducible refine (HS13.out _ (RL.out.below HB.out)).mono ?_); rintro e wy ⟨Ay, cy, rfl, hd, hb⟩; have n0 := Aside0.mk (blk_below BK6.out hb); have n1 := Aside0.mk (blk_below BK8.out hb); have n2 := Aside0.mk (DX.out.below hb); have n3 := Aside0.mk (below_step HB.out hb); clear BK6 BK8 DX HB; have BK6 := n0; have BK8 := n1; have DX := n2; have HB := n3; clear n0 n1 n2 n3; have DY := Aside0.mk hd; clear hb hd)
      | ((with_reducible refine gate_dst (N := 49) rfl ?_); refine wpList_load_row rfl 25 (.tmp 6) rfl g6 rfl 25 (arr d) (0, 0) _ BK6.out Tryd.underlying25 rfl (by rw [arr_size, DL.out]; exact info_dig) ?_)
      | ((with_reducible refine gate_dst (N := 50) rfl ?_); refine wpList_load_row rfl 25 (.tmp 8) rfl g8 rfl 25 (arr d) (0, 0) _ BK8.out Tryd.underlying25 rfl (by rw [arr_size, DL.out]; exact info_dig) ?_)
      | (go_at_call 22; (with_reducible refine (HSD.out _ _ _ _ _ DX.out DY.out).mono ?_); rintro e wd ⟨rfl, hb⟩; have n0 := Aside0.mk (blk_below BK6.out hb); have n1 := Aside0.mk (blk_below BK8.out hb); have n2 := Aside0.mk (DX.out.below hb); have n3 := Aside0.mk (DY.out.below hb); have n4 := Aside0.mk (below_step HB.out hb); clear BK6 BK8 DX DY HB; have BK6 := n0; have BK8 := n1; have DX := n2; have DY := n3; have HB := n4; clear n0 n1 n2 n3 n4; clear hb)
      | (go_at_call 33; (with_reducible refine (HS03.out _ _ _ (RT.out.below HB.out) (RL.out.below HB.out)).mono ?_); rintro e we ⟨rfl, hb⟩; have n0 := Aside0.mk (blk_below BK6.out hb); have n1 := Aside0.mk (blk_below BK8.out hb); have n2 := Aside0.mk (DX.out.below hb); have n3 := Aside0.mk (DY.out.below hb); have n4 := Aside0.mk (below_step HB.out hb); clear BK6 BK8 DX DY HB; have BK6 := n0; have BK8 := n1; have DX := n2; have DY := n3; have HB := n4; clear n0 n1 n2 n3 n4; clear hb))
    go_ret
    exact ⟨rfl, HW.out.trans (HB.out.mono (below_size HW.out))⟩
theorem rowsTell_walk (A : Option Addr) (n c : Nat) (l : List (List Int)) (i : Int) (W : World) (br : Rws W A n c l) (hk : KT W) :
    Calls Tryd.prog 11 #[.slice A n c, .int .i64 i] W fun e W' => e = .returned (.bool true) ∧ Below W.heap.size W W' := by
  have hln := br.len
  by_cases h1 : greatP l 30 = true
  · by_cases h2 : n < 256 ∨ greatP l 260 = true
    · exact tell_early A n c l i W br h1 h2
    · have h3 : ¬ n < 256 := fun h => h2 (.inl h)
      have h4 : greatP l 260 = false := by
        cases h : greatP l 260 with
        | false => rfl
        | true => exact absurd (.inr h) h2
      have h5 := great_not h4
      exact tell_main A n c l i W br hk (by omega) h5.2 (.inr ⟨h1, h3, h4⟩)
  · rw [Bool.not_eq_true] at h1
    have h5 := great_not h1
    exact tell_main A n c l i W br hk (by omega) h5.2 (.inl h1)
end Go.Proofs.YtoaimcobcgomjaaDoor.Q
namespace Go.Proofs.YtoaimcobcgomjaaDoor.Q
open Go.ChangeShapes Go.WideShapes Go.ChangeAt Go.RowKit Go.Joins Go.Proofs.YtoaimcobcgomjaaDoorW.PrintWords
theorem bts_of {W : World} {A : Addr} {len cap : Nat} {zs : List Int} (hl : len ≤ cap) (hm : cap ≤ maxLen) (hz : len ≤ zs.length) (hcell : ∀ i, i < zs.length → W.cell? (A.add i) = some (.int .u8 (zs.getD i 0))) (hw : ∀ n ∈ zs, (Lit.int .u8 n).wf = true) : Bts W (some A) len cap (zs.take len) := by
  refine ⟨⟨by rw [List.length_take]; omega, by unfold maxLen at hm; omega, fun _ => ⟨A, rfl, fun j p hj => ⟨[.int .u8 p], rfl, rfl, fun i u hu => ?_⟩⟩⟩, hl, fun x hx => ?_⟩
  · cases i with
    | succ i => simp at hu
    | zero =>
      simp only [List.getElem?_cons_zero, Option.some.injEq] at hu
      subst hu
      show W.cell? (A.add (j * 1 + 0)) = _
      rw [Nat.mul_one, Nat.add_zero]
      rw [List.getElem?_take] at hj
      split at hj
      · obtain ⟨h1, rfl⟩ := List.getElem?_eq_some_iff.1 hj
        rw [hcell j h1]
        simp [h1]
      · cases hj
  · have := bounds_u8 (hw x (List.mem_of_mem_take hx))
    omega
end Go.Proofs.YtoaimcobcgomjaaDoor.Q
namespace Go.Proofs.YtoaimcobcgomjaaDoor.Q
open Go.RowKit Go.ChangeShapes Go.WideShapes Go.ChangeAt Go.Deep Go.Joins Go.Proofs.YtoaimcobcgomjaaDoorW.PrintWords
set_option maxRecDepth 100000 in
theorem open_row_cells {H : Type} {enc : TypeId × Value → H} {W : World} {base : Nat} {sp : Nat → Bool} {held : Bool} {fuel : Nat} {cs : List Value} {x : DataW H × List MemPlace} (hf : DataW.trod enc Tryd.prog W base sp held fuel 22 cs = some x) :
    ∃ A l c n, cs = [.slice A n c] ∧ Bts W A n c l := by
  rcases open_ints Tryd.underlying22 Tryd.underlying5 (by kernel_rfl) hf with ⟨hcs, _⟩ | ⟨x, l, cap, zs, hcs, _, hl, hm, hz, _, hcell, hwz⟩
  · exact ⟨none, [], 0, 0, hcs, Bts.none W⟩
  · exact ⟨some x, zs.take l, cap, l, hcs, bts_of hl hm (by rw [hz]; split <;> omega) hcell hwz⟩
set_option maxRecDepth 100000 in
theorem open_rows {H : Type} {enc : TypeId × Value → H} {W : World} {r : Reach} {b0 base : Nat} {sp : Nat → Bool} {held : Bool} {v : Value} {d : DataW H} {p : List MemPlace} (ho : Value.okWide Tryd.prog W r b0 29 v) (h : DataW.Trod enc Tryd.prog W base sp held 29 v d p) :
    ∃ A l c n, v = .slice A n c ∧ Rws W A n c l := by
  obtain ⟨fuel, hf⟩ := h
  simp only [Value.okWide, Tryd.underlying29] at ho
  obtain ⟨A, n, c, hv⟩ := slice_form Tryd.underlying29 hf
  have hc : Tryd.prog.cellsOf 22 = 1 := by kernel_rfl
  rcases open_slice Tryd.underlying29 hf with ⟨hcs, _⟩ | ⟨x, len, cap, m, k, D, Pl, hcs, _, hl, hm, hme, _, hel⟩
  · obtain rfl : v = .slice none 0 0 := by
      cases v <;> simp [Value.cells] at hcs hv ⊢
      all_goals first | exact hcs | (simp [Cell.okWide, Cell.ok, Tryd.underlying29] at ho)
    exact ⟨none, [], 0, 0, rfl, ⟨none_C W, Nat.le_refl _, fun d hd => by cases hd⟩⟩
  · obtain rfl : v = .slice (some x) len cap := by
      cases v <;> simp [Value.cells] at hcs hv ⊢
      all_goals first | exact hcs | (simp [Cell.okWide, Cell.ok, Tryd.underlying29] at ho)
    have hlm : len ≤ m := by rw [hme]; split <;> omega
    have each : ∀ i, ∃ l : List Int, i < len → ∃ A' c', W.cell? (x.add i) = some (.slice A' l.length c') ∧ Bts W A' l.length c' l := fun i => by
      by_cases hi : i < len
      · obtain ⟨cs', hcc, ht⟩ := hel i (by omega)
        rw [hc, Nat.mul_one] at hcc
        obtain ⟨A', l, c', n', rfl, hb⟩ := open_row_cells ht
        have e := hb.len
        subst e
        exact ⟨l, fun _ => ⟨A', c', cell_of_cells?_one hcc, hb⟩⟩
      · exact ⟨[], fun h => absurd h hi⟩
    obtain ⟨f, hf2⟩ := Classical.axiomOfChoice each
    refine ⟨some x, (List.range len).map f, cap, len, rfl, ⟨⟨by simp, by unfold maxLen at hm; omega, fun _ => ⟨x, rfl, fun j q hj => ?_⟩⟩, hl, fun q hq => ?_⟩⟩
    · rw [List.getElem?_map] at hj
      obtain ⟨i, hi, rfl⟩ := Option.map_eq_some_iff.1 hj
      obtain ⟨hil, rfl⟩ := List.getElem?_eq_some_iff.1 hi
      have hjl : j < len := by simpa using hil
      simp only [List.getElem_range]
      obtain ⟨A', c', hcell, hb⟩ := hf2 j hjl
      refine ⟨[.slice A' (f j).length c'], rfl, ⟨A', c', rfl, hb.le, hb.rd_⟩, fun i u hu => ?_⟩
      cases i with
      | succ i => simp at hu
      | zero =>
        simp only [List.getElem?_cons_zero, Option.some.injEq] at hu
        subst hu
        show W.cell? (x.add (j * 1 + 0)) = _
        rw [Nat.mul_one, Nat.add_zero, hcell]
    · obtain ⟨j, hj, rfl⟩ := List.mem_map.1 hq
      obtain ⟨A', c', _, hb⟩ := hf2 j (by simpa using hj)
      exact hb.by_
end Go.Proofs.YtoaimcobcgomjaaDoor.Q
namespace Go.Proofs.YtoaimcobcgomjaaDoor.Q
open Go.ChangeShapes Go.WideShapes Go.ChangeAt Go.RowKit
theorem own : ownKnob Tryd.prog.godebug = none := by kernel_rfl
theorem laidOut : laidOutB Tryd.prog = true := by kernel_rfl
theorem gK : Tryd.prog.globalNamed "beadroll/sha.k" = some 0 := by kernel_rfl
theorem tK : (Tryd.prog.globals[0]?).map (·.type) = some 59 := by kernel_rfl
/-- The rows' condition. -/
def laidK : List (String × DataW Unit) := [("beadroll/sha.k", Rows.laid_beadroll_sha_k)]
set_option maxRecDepth 100000 in
theorem laidK_tab : laidK = [("beadroll/sha.k", Lib.tabData .u32 K64)] := rfl
/-- The door's own heap meets the condition. -/
theorem door_met (os : Os) (args : Array Value) : laidMetH Tryd.prog laidK ((World.doorLaid Tryd.prog 14 os).forCall (fun _ _ => 0) ⟨#[], args, []⟩).memory :=
  laidMetH_of_parts3 (fuel := 8) (laidMet_of_run' 8 (by kernel_rfl) (by kernel_rfl)) (by kernel_rfl) (by kernel_rfl)
theorem of_laid {W : World} (h : laidMetH Tryd.prog laidK W) : KT W := by
  rw [MakeChecks.laidMetH_plain _ _ _ (by kernel_rfl), laidK_tab] at h
  have hT := Lib.tabIs_of_head gK tK Tryd.underlying59 Tryd.underlying54 (by kernel_rfl) (by kernel_rfl) h
  intro j hj
  have := hT.cell gK j (by exact hj)
  rw [this]
  simp [at_, Go.Proofs.YtoaimcobcgomjaaDoorW.PrintWords.rd]
end Go.Proofs.YtoaimcobcgomjaaDoor.Q
