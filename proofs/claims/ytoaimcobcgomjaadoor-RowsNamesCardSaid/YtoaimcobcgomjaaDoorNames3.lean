/- What the law reaches of these texts: RowsRoots, RowsPart, RowsSidesW, RowsAlive, RowsAliveW, RowsSame, RowsTrue, RowsNames, ShaLaid (joined by wip/tools/prune.py). -/
import Derived.Test.YtoaimcobcgomjaaDoorNames2
import Derived.Laws.EntriesVeiled
import Derived.Lib.ConvBytes
import Derived.Lib.SmallJoins
import Derived.Laws.MakeOwn
import Derived.Test.YtoaimcobcgomjaaDoorRows
import Derived.ProofKit
import Derived.LaidMore
import Derived.OpenShut
import Derived.Stop.Joined
import Derived.Lib.LaidTab
namespace Go.Proofs.YtoaimcobcgomjaaDoor.Q
open Go.RowKit Go.Proofs.YtoaimcobcgomjaaDoorW.PrintWords Go.Proofs.YtoaimcobcgomjaaDoorW.PrintLast Go.Proofs.YtoaimcobcgomjaaDoorW.PrintMore
set_option linter.unusedVariables false
set_option linter.unusedSimpArgs false
/-- A list's root and code. -/
def rootC (l : List (List Int)) : List Int × Int := if listP l = true then (rootP l, 0) else (zeros32, 8)
theorem listP_len {l : List (List Int)} (h : listP l = true) : l.length ≤ 256 := by
  unfold listP at h
  simp only [Bool.and_eq_true, decide_eq_true_eq] at h
  exact h.1
theorem listP_row {l : List (List Int)} (h : listP l = true) : ∀ p ∈ l, p.length ≤ 4096 := by
  unfold listP at h
  simp only [Bool.and_eq_true, Bool.not_eq_true', List.any_eq_false, decide_eq_true_eq] at h
  intro p hp
  have := h.2 p hp
  omega
theorem listP_short {l : List (List Int)} (h : listP l = true) : Short l := fun p hp => by have := listP_row h p hp; omega
set_option maxHeartbeats 4000000 in
set_option maxRecDepth 100000 in
theorem rootR_walk (A : Option Addr) (n c : Nat) (l : List (List Int)) (W : World) (br : Rws W A n c l) (hk : KT W) :
    Calls Tryd.prog 19 #[.slice A n c] W fun e W' => e = .returned (.tuple #[.agg (arr (rootC l).1), .int .i64 (rootC l).2]) ∧ Below W.heap.size W W' := by
  have HL : Aside0 (∀ w, Below W.heap.size W w → Calls Tryd.prog 39 #[.slice A n c] w fun e W' => e = .returned (.bool (listP l)) ∧ Below w.heap.size w W') := ⟨fun w hw => list_walk A n c l w (br.below hw)⟩
  have HR : Aside0 (listP l = true → ∀ w, Below W.heap.size W w → Calls Tryd.prog 42 #[.slice A n c] w fun e W' => e = .returned (.agg (arr (rootP l))) ∧ Below w.heap.size w W') := ⟨fun hl w hw => root_walk 256 A n c l w (br.below hw) (listP_short hl) (by have := listP_len hl; have := br.len; omega) (by have := listP_len hl; have := br.len; omega) (hk.below hk.lt hw)⟩
  have HB := Aside0.mk (Below.refl W.heap.size W)
  have RL : Aside0 ((rootP l).length = 32) := ⟨(rootP_dig l).1⟩
  unfold rootC
  clear br
  cases hl : listP l with
  | false =>
    rw [hl] at HL
    rw [if_neg (by decide)]
    clear hl HR
    go_enter Tryd.func19, Tryd.ntmps19
    go_wp2_with (
      first
      | ((with_reducible refine gate_dst (N := 2) rfl ?_); refine box_event ?hg (N := 2) ?hd (cs := arr zeros32) (t := 25) ?hr ?_; (case hd => rfl); (case hg => rfl); (case hr => first | (go_simp; done) | (go_simp; rfl));
                         intro g2 hg w1 hbox hb; have BK2 := Aside0.mk hbox; have G2 := Aside0.mk (show W.heap.size ≤ g2 by rw [hg]; exact below_size HB.out); have n0 := Aside0.mk (below_step HB.out hb); clear HB; have HB := n0; clear n0; clear hb hbox hg)
      | (go_at_call 39; (with_reducible refine (HL.out _ HB.out).mono ?_); rintro e wq ⟨rfl, hb⟩; have n0 := Aside0.mk (blk_below BK2.out hb); have n1 := Aside0.mk (below_step HB.out hb); clear BK2 HB; have BK2 := n0; have HB := n1; clear n0 n1; clear hb)
      | ((with_reducible refine gate_store (p := 2) rfl ?_); refine dig_store rfl (.tmp 2) (.tmp 7) rfl g2 (zeros32) (zeros32) rfl rfl BK2.out (rfl) (rfl) ?_; intro ws bk hoth hbel; have nn := Aside0.mk bk; have n0 := Aside0.mk (hbel _ _ HB.out G2.out); clear HB; have HB := n0; clear n0; clear BK2 bk hoth hbel; have BK2 := nn; clear nn))
    refine bodyPost_ret (results_ct rfl _ _ g2 25 (arr zeros32) (0, 0) _ rfl BK2.out Tryd.underlying25 rfl (by rw [arr_size]; exact info_dig)) rfl ?_
    exact ⟨rfl, HB.out⟩
  | true =>
    have HR2 := Aside0.mk (HR.out hl)
    rw [hl] at HL
    rw [if_pos rfl]
    obtain ⟨d, hd⟩ : ∃ d, rootP l = d := ⟨_, rfl⟩
    rw [hd] at HR2 RL ⊢
    clear hl HR hd
    go_enter Tryd.func19, Tryd.ntmps19
    go_wp2_with (
      first
      | ((with_reducible refine gate_dst (N := 2) rfl ?_); refine box_event ?hg (N := 2) ?hd (cs := arr zeros32) (t := 25) ?hr ?_; (case hd => rfl); (case hg => rfl); (case hr => first | (go_simp; done) | (go_simp; rfl));
                         intro g2 hg w1 hbox hb; have BK2 := Aside0.mk hbox; have G2 := Aside0.mk (show W.heap.size ≤ g2 by rw [hg]; exact below_size HB.out); have n0 := Aside0.mk (below_step HB.out hb); clear HB; have HB := n0; clear n0; clear hb hbox hg)
      | (go_at_call 39; (with_reducible refine (HL.out _ HB.out).mono ?_); rintro e wq ⟨rfl, hb⟩; have n0 := Aside0.mk (blk_below BK2.out hb); have n1 := Aside0.mk (below_step HB.out hb); clear BK2 HB; have BK2 := n0; have HB := n1; clear n0 n1; clear hb)
      | (go_at_call 42; (with_reducible refine (HR2.out _ HB.out).mono ?_); rintro e wr ⟨rfl, hb⟩; have n0 := Aside0.mk (blk_below BK2.out hb); have n1 := Aside0.mk (below_step HB.out hb); clear BK2 HB; have BK2 := n0; have HB := n1; clear n0 n1; clear hb)
      | ((with_reducible refine gate_store (p := 2) rfl ?_); refine dig_store rfl (.tmp 2) (.tmp 9) rfl g2 (d) (zeros32) rfl rfl BK2.out (RL.out) (rfl) ?_; intro ws bk hoth hbel; have nn := Aside0.mk bk; have n0 := Aside0.mk (hbel _ _ HB.out G2.out); clear HB; have HB := n0; clear n0; clear BK2 bk hoth hbel; have BK2 := nn; clear nn))
    refine bodyPost_ret (results_ct rfl _ _ g2 25 (arr d) (0, 0) _ rfl BK2.out Tryd.underlying25 rfl (by rw [arr_size, RL.out]; exact info_dig)) rfl ?_
    exact ⟨rfl, HB.out⟩
end Go.Proofs.YtoaimcobcgomjaaDoor.Q
namespace Go.Proofs.YtoaimcobcgomjaaDoor.Q
open Go.RowKit Go.Proofs.YtoaimcobcgomjaaDoorW.PrintWords Go.Proofs.YtoaimcobcgomjaaDoorW.PrintLast Go.Proofs.YtoaimcobcgomjaaDoorW.PrintMore
set_option linter.unusedVariables false
set_option linter.unusedSimpArgs false
/-- The inner function's value. -/
def partF (Bp Bo : Nat) : Value := .func (.func 40) #[] #[.pointer (some ⟨Bp, 0, none⟩), .pointer (some ⟨Bo, 0, none⟩)]
/-- What lies in memory between two of its calls. -/
structure PartM (B Bp Bo : Nat) (W : World) (v : Value) (ss : List (List Int)) : Prop where
  part : W.heap[Bp]? = some (.cells #[partF Bp Bo] 65 (0, 0))
  out : W.heap[Bo]? = some (.cells #[v] 31 (0, 0))
  own : W.ownsRow B 25 32 v ss.length (flatD ss)
theorem PartM.below {B Bp Bo : Nat} {W w : World} {v : Value} {ss : List (List Int)} (h : PartM B Bp Bo W v ss) (hb : Below W.heap.size W w) : PartM B Bp Bo w v ss := ⟨blk_below h.part hb, blk_below h.out hb, pw_own_below h.own hb⟩
theorem PartM.grow {B Bp Bo : Nat} {W w : World} {v : Value} {ss : List (List Int)} (h : PartM B Bp Bo W v ss) (hg : W.grownBy w v.ownBlock) {k : Nat} {x t : Value} {ty : TypeId} (ht : ty ≠ 25) (hk : W.heap[k]? = some (.cells #[x] ty (0, 0))) : w.heap[k]? = some (.cells #[x] ty (0, 0)) := by
  refine (hg.block k (blk_lt hk) (fun e => ?_)).trans hk
  obtain ⟨cells, hc⟩ := own_typed h.own k e.symm
  rw [hk] at hc
  cases hc
  exact ht rfl
/-- One more digest, put back into out. -/
theorem PartM.step {B Bp Bo : Nat} {W w : World} {v v' : Value} {ss : List (List Int)} {d : List Int} (hne : Bp ≠ Bo) (h : PartM B Bp Bo W v ss) (hg : W.grownBy w v.ownBlock) (ho : w.ownsRow B 25 32 v' (ss.length + 1) (flatD ss ++ (arr d).toList)) :
    PartM B Bp Bo (w.setCell ⟨Bo, 0, none⟩ v') v' (ss ++ [d]) := by
  have ho2 := h.grow (t := undef) hg (by decide) h.out
  refine ⟨blk_far (h.grow (t := undef) hg (by decide) h.part) (p := ⟨Bo, 0, none⟩) (by simp only; exact hne) v', blk_put ho2 0 v' rfl, ?_⟩
  rw [List.length_append, flatD_append, flatD_one]
  refine own_move ho fun k hk => ?_
  obtain ⟨cells, hc⟩ := own_typed ho k hk
  rw [hc]
  exact blk_far hc (p := ⟨Bo, 0, none⟩) (by
    simp only
    intro e
    subst e
    rw [ho2] at hc
    cases hc) v'
def part3_T : Bool × List (List Nat × List Nat) := (true, [([], []), ([], []), ([], []), ([1, 2], [1, 2]), ([], []), ([0, 3, 4], [0, 3, 4])])
def part3_B : List Nat := [0, 0, 0, 6, 0, 31]
theorem part3_tab : rtab .any (opsOf Tryd.f40 3) = part3_T := by kernel_rfl
theorem part3_bits : waitsOk part3_T.2 part3_B = true := by kernel_rfl
def part4_T : Bool × List (List Nat × List Nat) := (true, [([], []), ([], []), ([], []), ([1, 2], [1, 2]), ([3], [3]), ([4], [4]), ([0, 5, 4], [0, 5]), ([6, 6, 0, 1, 2, 3, 4, 5, 6], [6])])
def part4_B : List Nat := [0, 0, 0, 6, 14, 30, 63, 127]
theorem part4_tab : rtab .any (opsOf Tryd.f40 4) = part4_T := by kernel_rfl
theorem part4_bits : waitsOk part4_T.2 part4_B = true := by kernel_rfl
def part5_T : Bool × List (List Nat × List Nat) := (true, [([], []), ([], []), ([], []), ([1, 2], [1, 2]), ([], []), ([], []), ([4, 5], [4, 5]), ([0, 3, 6], [0, 3, 6])])
def part5_B : List Nat := [0, 0, 0, 6, 0, 0, 48, 127]
theorem part5_tab : rtab .any (opsOf Tryd.f40 5) = part5_T := by kernel_rfl
theorem part5_bits : waitsOk part5_T.2 part5_B = true := by kernel_rfl
def part6_T : Bool × List (List Nat × List Nat) := (true, [([], []), ([], []), ([], []), ([1, 2], [1, 2]), ([3], [3]), ([4], [4]), ([0, 5, 4], [0, 5]), ([6, 6, 0, 1, 2, 3, 4, 5, 6], [6])])
def part6_B : List Nat := [0, 0, 0, 6, 14, 30, 63, 127]
theorem part6_tab : rtab .any (opsOf Tryd.f40 6) = part6_T := by kernel_rfl
theorem part6_bits : waitsOk part6_T.2 part6_B = true := by kernel_rfl
set_option maxHeartbeats 16000000 in
set_option maxRecDepth 100000 in
theorem part_walk (W0 : World) (hk0 : KT W0) (Bp Bo : Nat) (hne : Bp ≠ Bo) (hgo : W0.heap.size ≤ Bo) (k : Nat) : ∀ (A : Option Addr) (n c : Nat) (l : List (List Int)) (i : Nat) (v : Value) (ss : List (List Int)) (W : World), Rws W0 A n c l → Short l → n ≤ k → n ≤ 256 → i < n → ss.length ≤ 1000 → Below W0.heap.size W0 W → PartM W0.heap.size Bp Bo W v ss →
    Calls Tryd.prog 40 #[.slice A n c, .int .i64 (i : Int), .pointer (some ⟨Bp, 0, none⟩), .pointer (some ⟨Bo, 0, none⟩)] W fun e W' => (∃ u, e = .returned u) ∧ ∃ v', PartM W0.heap.size Bp Bo W' v' (ss ++ sidesP l i) ∧ Below W0.heap.size W0 W' := by
  induction k with
  | zero => intro A n c l i v ss W br hs h1 h2 h3; omega
  | succ k ih =>
    intro A n c l i v ss W br hs h1 h2 h3 h5 hB hM
    have hln := br.len
    have HB := Aside0.mk hB
    have HM := Aside0.mk hM
    by_cases h4 : n ≤ 1
    · obtain rfl : n = 1 := by omega
      rw [sidesP_one l i (by omega), List.append_nil]
      clear br hs ih hln h1 h2 h3 h4 h5 hB hM hk0
      go_enter Tryd.func40, Tryd.ntmps40
      go_wp2
      refine bodyPost_ret (v := .tuple #[]) (by simp [results, Tryd.results40, go_sem]) rfl ?_
      exact ⟨⟨_, rfl⟩, _, HM.out, HB.out⟩
    · have e := sidesP_two l i (by omega) (by omega)
      rw [hln] at e
      obtain ⟨m, hm⟩ : ∃ m, frontN n = m := ⟨_, rfl⟩
      have hmr := frontN_range n (by omega) h2
      rw [hm] at hmr e
      obtain ⟨hm1, hm2, hm3⟩ := hmr
      have b1 : ((n : Int) == 1) = false := by simp; omega
      have hct := rows_to A n c m (by omega) br.le
      have hcf := rows_from A n c m (by omega)
      have HD2 := br.drop m (by omega)
      obtain ⟨A2, hA2⟩ : ∃ A2, (if c = m then A else A.map (·.add (m * 1))) = A2 := ⟨_, rfl⟩
      rw [hA2] at HD2
      simp only [hA2] at hcf
      have FF : Aside0 (rows_front.f (n : Int) = some (m : Int)) := ⟨by rw [front_f (n : Int) (by omega) (by omega), hm3]⟩
      have NE := Aside0.mk hne
      have GO := Aside0.mk hgo
      have hlt : (l.take m).length = m := by rw [List.length_take]; omega
      have hld : (l.drop m).length = n - m := by rw [List.length_drop]; omega
      by_cases hi : i < m
      · rw [if_pos hi] at e
        obtain ⟨d, hd⟩ : ∃ d, rootP (l.drop m) = d := ⟨_, rfl⟩
        obtain ⟨qs, hss⟩ : ∃ ss, sidesP (l.take m) i = ss := ⟨_, rfl⟩
        rw [hd, hss] at e
        have DD : Aside0 (Dig d) := ⟨by rw [← hd]; exact rootP_dig _⟩
        have SL : Aside0 ((ss ++ qs).length ≤ 1008) := ⟨by rw [← hss, List.length_append]; have := sides_eight (l.take m) i (by omega) (by omega); omega⟩
        have HS : Aside0 (∀ w, Below W0.heap.size W0 w → ∀ v, PartM W0.heap.size Bp Bo w v ss → Calls Tryd.prog 40 #[.slice A m c, .int .i64 (i : Int), .pointer (some ⟨Bp, 0, none⟩), .pointer (some ⟨Bo, 0, none⟩)] w fun e W' => (∃ u, e = .returned u) ∧ ∃ v', PartM W0.heap.size Bp Bo W' v' (ss ++ qs) ∧ Below W0.heap.size W0 W') := ⟨fun w hw v hv => by
          have := ih A m c (l.take m) i v ss w (br.take m (by omega)) (hs.take m) (by omega) (by omega) hi h5 hw hv
          rwa [hss] at this⟩
        have HO : Aside0 (∀ w, Below W0.heap.size W0 w → Calls Tryd.prog 42 #[.slice A2 (n - m) (c - m)] w fun e W' => e = .returned (.agg (arr d)) ∧ Below w.heap.size w W') := ⟨fun w hw => by
          have := root_walk 256 A2 (n - m) (c - m) (l.drop m) w (HD2.below hw) (hs.drop m) (by omega) (by omega) (hk0.below hk0.lt hw)
          rwa [hd] at this⟩
        have hdi : decide (i < m) = true := decide_eq_true hi
        rw [e]
        clear e hd hss HD2 hA2 hm hm3 br hs ih hln hlt hld h1 h2 h3 h4 h5 hm1 hm2 hB hM hne hgo hk0
        go_enter Tryd.func40, Tryd.ntmps40
        go_wp2_with (go_at_call 41; (with_reducible refine (rows_front.calls (n : Int) (m : Int) _ FF.out).mono ?_); rintro e wq ⟨rfl, ⟨nd, rfl⟩⟩; have n0 := Aside0.mk (pw_below_drewN HB.out nd); have n1 := Aside0.mk (HM.out.below (pw_below_drewN (Below.refl _ _) nd)); clear HB HM; have HB := n0; have HM := n1; clear n0 n1)
        obtain ⟨w2, hw1⟩ : ∃ w', World.drewN W nd = w' := ⟨_, rfl⟩
        rw [hw1] at HB HM ⊢
        clear hw1
        have hb : Below w2.heap.size w2 w2.drew := below_drew (Below.refl _ _)
        refine start_ (n := 6) (S := fun w' => w'.cell? ⟨Bp, 0, none⟩ = some (partF Bp Bo)) (ds := []) #[false, false, false, false, false, false] (by kernel_rfl) rfl rfl ((blk_cell (HM.out.below hb).part 0).trans rfl) (fun hHeld => ?_)
        refine with_tabW part3_tab part3_bits (fun HT_ HW_ => ?_)
        have n0 := Aside0.mk (below_step HB.out hb)
        have n1 := Aside0.mk (HM.out.below hb)
        clear HB HM
        have HB := n0
        have HM := n1
        clear n0 n1
        clear hb
        generalize w2.drew = wa at HB HM hHeld ⊢
        refine take_ (i := 0) (N := (some 16)) (v := ?_) (a' := ?_) #[true, false, false, false, false, false] rfl rfl (take_ofW HT_.out HW_.out (by kernel_rfl)) (fun _ _ _ h => h) (Or.inl ⟨by rfl, ?_⟩) hHeld ?_ ?_
        rotate_left
        · rintro w' s0
          go_simp
          with_reducible rfl
        rotate_left
        · simp only [Act.put, List.setIfInBounds_toArray, List.set_cons_zero, List.set_cons_succ, i64_w, i32_w]
          rfl
        refine pure_ (i := 1) (N := (some 17)) (v := ?_) (a' := ?_) #[true, true, false, false, false, false] rfl rfl (any_of HT_.out (by kernel_rfl)) (fun _ _ _ h => h) (Or.inl ⟨by rfl, ?_⟩) ?_ ?_
        rotate_left
        · intro w'
          go_simp
          first | with_reducible rfl | (simp; done) | rfl
        rotate_left
        · simp only [Act.put, List.setIfInBounds_toArray, List.set_cons_zero, List.set_cons_succ, i64_w, i32_w]
          rfl
        refine pure_ (i := 2) (N := (some 18)) (v := ?_) (a' := ?_) #[true, true, true, false, false, false] rfl rfl (any_of HT_.out (by kernel_rfl)) (fun _ _ _ h => h) (Or.inl ⟨by rfl, ?_⟩) ?_ ?_
        rotate_left
        · intro w'
          go_simp
          first | with_reducible rfl | (simp; done) | rfl
        rotate_left
        · simp only [Act.put, List.setIfInBounds_toArray, List.set_cons_zero, List.set_cons_succ, i64_w, i32_w]
          rfl
        refine pure_ (i := 3) (N := (some 19)) (v := ?_) (a' := ?_) #[true, true, true, true, false, false] rfl rfl (any_of HT_.out (by kernel_rfl)) (fun _ _ _ h => h) (Or.inl ⟨by rfl, ?_⟩) ?_ ?_
        rotate_left
        · intro w'
          go_simp
          first | with_reducible rfl | (simp; done) | rfl
        rotate_left
        · simp only [Act.put, List.setIfInBounds_toArray, List.set_cons_zero, List.set_cons_succ, i64_w, i32_w]
          rfl
        refine pure_ (i := 4) (N := (some 20)) (v := ?_) (a' := ?_) #[true, true, true, true, true, false] rfl rfl (any_of HT_.out (by kernel_rfl)) (fun _ _ _ h => h) (Or.inl ⟨by rfl, ?_⟩) ?_ ?_
        rotate_left
        · intro w'
          go_simp
          first | with_reducible rfl | (simp; done) | rfl
        rotate_left
        · simp only [Act.put, List.setIfInBounds_toArray, List.set_cons_zero, List.set_cons_succ, i64_w, i32_w]
          rfl
        refine one_ (i := 5) (N := (some 21)) #[true, true, true, true, true, true] rfl rfl (one_of HT_.out (by kernel_rfl)) (by decide) (fun K hK => ?_)
        refine goes_dyn (cap := #[.pointer (some ⟨Bp, 0, none⟩), .pointer (some ⟨Bo, 0, none⟩)]) Tryd.func40 (by kernel_rfl) rfl #[.slice A m c, .int .i64 (i : Int)] (by rfl) rfl rfl (by rfl) (by (try simp only [List.map_toArray, List.map_cons, List.map_nil]); first | done | rfl) (all := #[.slice A m c, .int .i64 (i : Int), .pointer (some ⟨Bp, 0, none⟩), .pointer (some ⟨Bo, 0, none⟩)]) rfl ?_
        with_reducible refine (HS.out _ HB.out _ HM.out).mono ?_
        rintro e0 w3 ⟨⟨u, rfl⟩, v3, hM, hb⟩
        refine ⟨_, rfl, ?_⟩
        clear HB HM
        have HB := Aside0.mk hb
        have HM := Aside0.mk hM
        clear hb hM
        refine hK.out _ _ ((blk_cell HM.out.part 0).trans rfl) (fun hHeld => ?_)
        clear hK K
        refine norm_ (a' := ?_) ?_ ?_
        rotate_left
        · show Act.put _ (some 21) _ = _
          simp only [Act.put, List.setIfInBounds_toArray, List.set_cons_zero, List.set_cons_succ, i64_w, i32_w]
          rfl
        refine done_ (done_of HT_.out (by kernel_rfl)) ?_
        go_wp2
        have hb : Below w3.heap.size w3 w3.drew := below_drew (Below.refl _ _)
        refine start_ (n := 8) (S := fun w' => w'.cell? ⟨Bo, 0, none⟩ = some v3) (ds := [7]) #[false, false, false, false, false, false, false, false] (by kernel_rfl) rfl rfl ((blk_cell (HM.out.below hb).out 0).trans rfl) (fun hHeld => ?_)
        refine with_tabW part4_tab part4_bits (fun HT_ HW_ => ?_)
        have n0 := Aside0.mk (below_step HB.out hb)
        have n1 := Aside0.mk (HM.out.below hb)
        clear HB HM
        have HB := n0
        have HM := n1
        clear n0 n1
        clear hb
        generalize w3.drew = wb at HB HM hHeld ⊢
        refine take_ (i := 0) (N := (some 22)) (v := ?_) (a' := ?_) #[true, false, false, false, false, false, false, false] rfl rfl (take_ofW HT_.out HW_.out (by kernel_rfl)) (fun _ _ _ h => h) (Or.inl ⟨by rfl, ?_⟩) hHeld ?_ ?_
        rotate_left
        · rintro w' s0
          go_simp
          with_reducible rfl
        rotate_left
        · simp only [Act.put, List.setIfInBounds_toArray, List.set_cons_zero, List.set_cons_succ, i64_w, i32_w]
          rfl
        refine pure_ (i := 1) (N := (some 23)) (v := ?_) (a' := ?_) #[true, true, false, false, false, false, false, false] rfl rfl (any_of HT_.out (by kernel_rfl)) (fun _ _ _ h => h) (Or.inl ⟨by rfl, ?_⟩) ?_ ?_
        rotate_left
        · intro w'
          go_simp
          first | with_reducible rfl | (simp; done) | rfl
        rotate_left
        · simp only [Act.put, List.setIfInBounds_toArray, List.set_cons_zero, List.set_cons_succ, i64_w, i32_w]
          rfl
        refine pure_ (i := 2) (N := (some 24)) (v := ?_) (a' := ?_) #[true, true, true, false, false, false, false, false] rfl rfl (any_of HT_.out (by kernel_rfl)) (fun _ _ _ h => h) (Or.inl ⟨by rfl, ?_⟩) ?_ ?_
        rotate_left
        · intro w'
          go_simp
          first | with_reducible rfl | (simp; done) | rfl
        rotate_left
        · simp only [Act.put, List.setIfInBounds_toArray, List.set_cons_zero, List.set_cons_succ, i64_w, i32_w]
          rfl
        refine pure_ (i := 3) (N := (some 25)) (v := ?_) (a' := ?_) #[true, true, true, true, false, false, false, false] rfl rfl (any_of HT_.out (by kernel_rfl)) (fun _ _ _ h => h) (Or.inl ⟨by rfl, ?_⟩) ?_ ?_
        rotate_left
        · intro w'
          go_simp
          first | with_reducible rfl | (simp; done) | rfl
        rotate_left
        · simp only [Act.put, List.setIfInBounds_toArray, List.set_cons_zero, List.set_cons_succ, i64_w, i32_w]
          rfl
        refine one_ (i := 4) (N := (some 26)) #[true, true, true, true, true, false, false, false] rfl rfl (one_of HT_.out (by kernel_rfl)) (by decide) (fun K hK => ?_)
        refine goes_ Tryd.func42 (by kernel_rfl) rfl #[.slice A2 (n - m) (c - m)] (by rfl) rfl rfl (by (try simp only [List.map_toArray, List.map_cons, List.map_nil]); first | done | rfl) ?_
        with_reducible refine (HO.out _ HB.out).mono ?_
        rintro e0 w4 ⟨rfl, hb⟩
        refine ⟨_, rfl, ?_⟩
        have n0 := Aside0.mk (below_step HB.out hb)
        have n1 := Aside0.mk (HM.out.below hb)
        clear HB HM
        have HB := n0
        have HM := n1
        clear n0 n1
        clear hb
        refine hK.out _ _ ((blk_cell HM.out.out 0).trans rfl) (fun hHeld => ?_)
        clear hK K
        refine norm_ (a' := ?_) ?_ ?_
        rotate_left
        · show Act.put _ (some 26) _ = _
          simp only [Act.put, List.setIfInBounds_toArray, List.set_cons_zero, List.set_cons_succ, i64_w, i32_w]
          rfl
        refine one_ (i := 5) (N := (some 27)) #[true, true, true, true, true, true, false, false] rfl rfl (one_of HT_.out (by kernel_rfl)) (by decide) (fun K hK => ?_)
        refine value_ (v := .slice (some ⟨w4.heap.size, 0, none⟩) 1 1) (w1 := w4.alloc (.cells (arr d) 25)) (by rfl) rfl (build_one (d := d) rfl rfl DD.out) ?_
        have hb := below_new w4 (.cells (arr d) 25)
        have BK := Aside0.mk (blk_new w4 (.cells (arr d) 25))
        obtain ⟨ga, hga⟩ : ∃ g, w4.heap.size = g := ⟨_, rfl⟩
        rw [hga] at BK ⊢
        generalize w4.alloc (.cells (arr d) 25) = w5 at hb BK ⊢
        have n0 := Aside0.mk (below_step HB.out hb)
        have n1 := Aside0.mk (HM.out.below hb)
        clear HB HM
        have HB := n0
        have HM := n1
        clear n0 n1
        clear hb hga
        refine hK.out _ _ ((blk_cell HM.out.out 0).trans rfl) (fun hHeld => ?_)
        clear hK K
        refine norm_ (a' := ?_) ?_ ?_
        rotate_left
        · show Act.put _ (some 27) _ = _
          simp only [Act.put, List.setIfInBounds_toArray, List.set_cons_zero, List.set_cons_succ, i64_w, i32_w]
          rfl
        refine one_ (i := 6) (N := (some 28)) #[true, true, true, true, true, true, true, false] rfl rfl (one_of HT_.out (by kernel_rfl)) (by decide) (fun K hK => ?_)
        rw [if_pos (by rfl)]
        obtain ⟨i0, hi0, hz0, hz1, hz2⟩ := info_parts info_digs
        refine wp_append_own w5 (.tmp 22) (.tmp 27) 31 rfl W0.heap.size 25 i0 (.agg (arr zeros32)) 32 32 Tryd.underlying31 hi0 hz0 hz1 hz2 rfl (by decide) v3 (ss ++ qs).length (flatD (ss ++ qs)) rfl HM.out.own ⟨ga, 0, none⟩ 1 1 (arr d).toList rfl (by rw [Array.length_toList, arr_size, DD.out.1]) (row_news BK.out) (arr_ones d) (by have := SL.out; simp only [maxLen]; omega) (by have := SL.out; omega) (below_size HB.out) ?_
        intro v6 w6 ho hg _
        clear hi0 hz0 hz1 hz2
        obtain ⟨g6, c6, rfl⟩ := own_form ho
        have hcb : w6.cell? ⟨Bo, 0, none⟩ = some v3 := (blk_cell (HM.out.grow (t := undef) hg (by decide) HM.out.out) 0).trans rfl
        have hfb : w6.frozen? ⟨Bo, 0, none⟩ = false := blk_frozen (HM.out.grow (t := undef) hg (by decide) HM.out.out) 0
        have HS6 := Aside0.mk (HM.out.step NE.out hg ho)
        have HB6 := Aside0.mk ((below_grown HB.out (below_size HB.out) HM.out.own hg).setCell (p := ⟨Bo, 0, none⟩) GO.out (.slice (some ⟨g6, 0, none⟩) ((ss ++ qs).length + 1) c6))
        clear ho hg HB HM
        refine hK.out _ _ hcb (fun hHeld => ?_)
        clear hK K
        refine norm_ (a' := ?_) ?_ ?_
        rotate_left
        · show Act.put _ (some 28) _ = _
          simp only [Act.put, List.setIfInBounds_toArray, List.set_cons_zero, List.set_cons_succ, i64_w, i32_w]
          rfl
        refine last_ (i := 7) (N := none) #[true, true, true, true, true, true, true, true] rfl rfl (one_of HT_.out (by kernel_rfl)) (by decide) (fun K hK => ?_)
        refine skip_ (w1 := ?_) (by rfl) rfl ?_ ?_
        rotate_left
        · go_simp
          rfl
        refine hK.out _ _ ?_
        clear hK K
        refine done_ (done_of HT_.out (by kernel_rfl)) ?_
        go_wp2
        first | refine bodyPost_end (v := .tuple #[]) (by simp [results, Tryd.results40, go_sem]) rfl ?_ | refine bodyPost_ret (v := .tuple #[]) (by simp [results, Tryd.results40, go_sem]) rfl ?_
        have h6 := HS6.out
        have b6 := HB6.out
        simp only [List.length_append] at h6 b6
        exact ⟨⟨_, rfl⟩, _, by rw [← List.append_assoc]; exact h6, b6⟩
      · rw [if_neg hi] at e
        obtain ⟨d, hd⟩ : ∃ d, rootP (l.take m) = d := ⟨_, rfl⟩
        obtain ⟨j, hj⟩ : ∃ j, i - m = j := ⟨_, rfl⟩
        obtain ⟨qs, hss⟩ : ∃ ss, sidesP (l.drop m) (i - m) = ss := ⟨_, rfl⟩
        rw [hd, hss] at e
        have DD : Aside0 (Dig d) := ⟨by rw [← hd]; exact rootP_dig _⟩
        have SL : Aside0 ((ss ++ qs).length ≤ 1008) := ⟨by rw [← hss, List.length_append]; have := sides_eight (l.drop m) (i - m) (by omega) (by omega); omega⟩
        have HS : Aside0 (∀ w, Below W0.heap.size W0 w → ∀ v, PartM W0.heap.size Bp Bo w v ss → Calls Tryd.prog 40 #[.slice A2 (n - m) (c - m), .int .i64 (j : Int), .pointer (some ⟨Bp, 0, none⟩), .pointer (some ⟨Bo, 0, none⟩)] w fun e W' => (∃ u, e = .returned u) ∧ ∃ v', PartM W0.heap.size Bp Bo W' v' (ss ++ qs) ∧ Below W0.heap.size W0 W') := ⟨fun w hw v hv => by
          have := ih A2 (n - m) (c - m) (l.drop m) (i - m) v ss w HD2 (hs.drop m) (by omega) (by omega) (by omega) h5 hw hv
          rwa [hss, hj] at this⟩
        have HO : Aside0 (∀ w, Below W0.heap.size W0 w → Calls Tryd.prog 42 #[.slice A m c] w fun e W' => e = .returned (.agg (arr d)) ∧ Below w.heap.size w W') := ⟨fun w hw => by
          have := root_walk 256 A m c (l.take m) w ((br.below hw).take m (by omega)) (hs.take m) (by omega) (by omega) (hk0.below hk0.lt hw)
          rwa [hd] at this⟩
        have hdi : decide (i < m) = false := decide_eq_false hi
        have hsb : wrap64 ((i : Int) - (m : Int)) = (j : Int) := by unfold wrap64; omega
        rw [e]
        clear e hd hss hj HD2 hA2 hm hm3 br hs ih hln hlt hld h1 h2 h3 h4 h5 hm1 hm2 hB hM hne hgo hk0
        go_enter Tryd.func40, Tryd.ntmps40
        go_wp2_with (go_at_call 41; (with_reducible refine (rows_front.calls (n : Int) (m : Int) _ FF.out).mono ?_); rintro e wq ⟨rfl, ⟨nd, rfl⟩⟩; have n0 := Aside0.mk (pw_below_drewN HB.out nd); have n1 := Aside0.mk (HM.out.below (pw_below_drewN (Below.refl _ _) nd)); clear HB HM; have HB := n0; have HM := n1; clear n0 n1)
        obtain ⟨w2, hw1⟩ : ∃ w', World.drewN W nd = w' := ⟨_, rfl⟩
        rw [hw1] at HB HM ⊢
        clear hw1
        have hb : Below w2.heap.size w2 w2.drew := below_drew (Below.refl _ _)
        refine start_ (n := 8) (S := fun w' => w'.cell? ⟨Bp, 0, none⟩ = some (partF Bp Bo)) (ds := []) #[false, false, false, false, false, false, false, false] (by kernel_rfl) rfl rfl ((blk_cell (HM.out.below hb).part 0).trans rfl) (fun hHeld => ?_)
        refine with_tabW part5_tab part5_bits (fun HT_ HW_ => ?_)
        have n0 := Aside0.mk (below_step HB.out hb)
        have n1 := Aside0.mk (HM.out.below hb)
        clear HB HM
        have HB := n0
        have HM := n1
        clear n0 n1
        clear hb
        generalize w2.drew = wa at HB HM hHeld ⊢
        refine take_ (i := 0) (N := (some 29)) (v := ?_) (a' := ?_) #[true, false, false, false, false, false, false, false] rfl rfl (take_ofW HT_.out HW_.out (by kernel_rfl)) (fun _ _ _ h => h) (Or.inl ⟨by rfl, ?_⟩) hHeld ?_ ?_
        rotate_left
        · rintro w' s0
          go_simp
          with_reducible rfl
        rotate_left
        · simp only [Act.put, List.setIfInBounds_toArray, List.set_cons_zero, List.set_cons_succ, i64_w, i32_w]
          rfl
        refine pure_ (i := 1) (N := (some 30)) (v := ?_) (a' := ?_) #[true, true, false, false, false, false, false, false] rfl rfl (any_of HT_.out (by kernel_rfl)) (fun _ _ _ h => h) (Or.inl ⟨by rfl, ?_⟩) ?_ ?_
        rotate_left
        · intro w'
          go_simp
          first | with_reducible rfl | (simp; done) | rfl
        rotate_left
        · simp only [Act.put, List.setIfInBounds_toArray, List.set_cons_zero, List.set_cons_succ, i64_w, i32_w]
          rfl
        refine pure_ (i := 2) (N := (some 31)) (v := ?_) (a' := ?_) #[true, true, true, false, false, false, false, false] rfl rfl (any_of HT_.out (by kernel_rfl)) (fun _ _ _ h => h) (Or.inl ⟨by rfl, ?_⟩) ?_ ?_
        rotate_left
        · intro w'
          go_simp
          first | with_reducible rfl | (simp; done) | rfl
        rotate_left
        · simp only [Act.put, List.setIfInBounds_toArray, List.set_cons_zero, List.set_cons_succ, i64_w, i32_w]
          rfl
        refine pure_ (i := 3) (N := (some 32)) (v := ?_) (a' := ?_) #[true, true, true, true, false, false, false, false] rfl rfl (any_of HT_.out (by kernel_rfl)) (fun _ _ _ h => h) (Or.inl ⟨by rfl, ?_⟩) ?_ ?_
        rotate_left
        · intro w'
          go_simp
          first | with_reducible rfl | (simp; done) | rfl
        rotate_left
        · simp only [Act.put, List.setIfInBounds_toArray, List.set_cons_zero, List.set_cons_succ, i64_w, i32_w]
          rfl
        refine pure_ (i := 4) (N := (some 33)) (v := ?_) (a' := ?_) #[true, true, true, true, true, false, false, false] rfl rfl (any_of HT_.out (by kernel_rfl)) (fun _ _ _ h => h) (Or.inl ⟨by rfl, ?_⟩) ?_ ?_
        rotate_left
        · intro w'
          go_simp
          first | with_reducible rfl | (simp; done) | rfl
        rotate_left
        · simp only [Act.put, List.setIfInBounds_toArray, List.set_cons_zero, List.set_cons_succ, i64_w, i32_w]
          rfl
        refine pure_ (i := 5) (N := (some 34)) (v := ?_) (a' := ?_) #[true, true, true, true, true, true, false, false] rfl rfl (any_of HT_.out (by kernel_rfl)) (fun _ _ _ h => h) (Or.inl ⟨by rfl, ?_⟩) ?_ ?_
        rotate_left
        · intro w'
          go_simp
          first | with_reducible rfl | (simp; done) | rfl
        rotate_left
        · simp only [Act.put, List.setIfInBounds_toArray, List.set_cons_zero, List.set_cons_succ, i64_w, i32_w]
          rfl
        refine pure_ (i := 6) (N := (some 35)) (v := ?_) (a' := ?_) #[true, true, true, true, true, true, true, false] rfl rfl (any_of HT_.out (by kernel_rfl)) (fun _ _ _ h => h) (Or.inl ⟨by rfl, ?_⟩) ?_ ?_
        rotate_left
        · intro w'
          go_simp
          first | with_reducible rfl | (simp; done) | rfl
        rotate_left
        · simp only [Act.put, List.setIfInBounds_toArray, List.set_cons_zero, List.set_cons_succ, i64_w, i32_w]
          rfl
        rw [hsb]
        refine one_ (i := 7) (N := (some 36)) #[true, true, true, true, true, true, true, true] rfl rfl (one_of HT_.out (by kernel_rfl)) (by decide) (fun K hK => ?_)
        refine goes_dyn (cap := #[.pointer (some ⟨Bp, 0, none⟩), .pointer (some ⟨Bo, 0, none⟩)]) Tryd.func40 (by kernel_rfl) rfl #[.slice A2 (n - m) (c - m), .int .i64 ((j : Nat) : Int)] (by rfl) rfl rfl (by rfl) (by (try simp only [List.map_toArray, List.map_cons, List.map_nil]); first | done | rfl) (all := #[.slice A2 (n - m) (c - m), .int .i64 ((j : Nat) : Int), .pointer (some ⟨Bp, 0, none⟩), .pointer (some ⟨Bo, 0, none⟩)]) rfl ?_
        with_reducible refine (HS.out _ HB.out _ HM.out).mono ?_
        rintro e0 w3 ⟨⟨u, rfl⟩, v3, hM, hb⟩
        refine ⟨_, rfl, ?_⟩
        clear HB HM
        have HB := Aside0.mk hb
        have HM := Aside0.mk hM
        clear hb hM
        refine hK.out _ _ ((blk_cell HM.out.part 0).trans rfl) (fun hHeld => ?_)
        clear hK K
        refine norm_ (a' := ?_) ?_ ?_
        rotate_left
        · show Act.put _ (some 36) _ = _
          simp only [Act.put, List.setIfInBounds_toArray, List.set_cons_zero, List.set_cons_succ, i64_w, i32_w]
          rfl
        refine done_ (done_of HT_.out (by kernel_rfl)) ?_
        go_wp2
        have hb : Below w3.heap.size w3 w3.drew := below_drew (Below.refl _ _)
        refine start_ (n := 8) (S := fun w' => w'.cell? ⟨Bo, 0, none⟩ = some v3) (ds := [7]) #[false, false, false, false, false, false, false, false] (by kernel_rfl) rfl rfl ((blk_cell (HM.out.below hb).out 0).trans rfl) (fun hHeld => ?_)
        refine with_tabW part6_tab part6_bits (fun HT_ HW_ => ?_)
        have n0 := Aside0.mk (below_step HB.out hb)
        have n1 := Aside0.mk (HM.out.below hb)
        clear HB HM
        have HB := n0
        have HM := n1
        clear n0 n1
        clear hb
        generalize w3.drew = wb at HB HM hHeld ⊢
        refine take_ (i := 0) (N := (some 37)) (v := ?_) (a' := ?_) #[true, false, false, false, false, false, false, false] rfl rfl (take_ofW HT_.out HW_.out (by kernel_rfl)) (fun _ _ _ h => h) (Or.inl ⟨by rfl, ?_⟩) hHeld ?_ ?_
        rotate_left
        · rintro w' s0
          go_simp
          with_reducible rfl
        rotate_left
        · simp only [Act.put, List.setIfInBounds_toArray, List.set_cons_zero, List.set_cons_succ, i64_w, i32_w]
          rfl
        refine pure_ (i := 1) (N := (some 38)) (v := ?_) (a' := ?_) #[true, true, false, false, false, false, false, false] rfl rfl (any_of HT_.out (by kernel_rfl)) (fun _ _ _ h => h) (Or.inl ⟨by rfl, ?_⟩) ?_ ?_
        rotate_left
        · intro w'
          go_simp
          first | with_reducible rfl | (simp; done) | rfl
        rotate_left
        · simp only [Act.put, List.setIfInBounds_toArray, List.set_cons_zero, List.set_cons_succ, i64_w, i32_w]
          rfl
        refine pure_ (i := 2) (N := (some 39)) (v := ?_) (a' := ?_) #[true, true, true, false, false, false, false, false] rfl rfl (any_of HT_.out (by kernel_rfl)) (fun _ _ _ h => h) (Or.inl ⟨by rfl, ?_⟩) ?_ ?_
        rotate_left
        · intro w'
          go_simp
          first | with_reducible rfl | (simp; done) | rfl
        rotate_left
        · simp only [Act.put, List.setIfInBounds_toArray, List.set_cons_zero, List.set_cons_succ, i64_w, i32_w]
          rfl
        refine pure_ (i := 3) (N := (some 40)) (v := ?_) (a' := ?_) #[true, true, true, true, false, false, false, false] rfl rfl (any_of HT_.out (by kernel_rfl)) (fun _ _ _ h => h) (Or.inl ⟨by rfl, ?_⟩) ?_ ?_
        rotate_left
        · intro w'
          go_simp
          first | with_reducible rfl | (simp; done) | rfl
        rotate_left
        · simp only [Act.put, List.setIfInBounds_toArray, List.set_cons_zero, List.set_cons_succ, i64_w, i32_w]
          rfl
        refine one_ (i := 4) (N := (some 41)) #[true, true, true, true, true, false, false, false] rfl rfl (one_of HT_.out (by kernel_rfl)) (by decide) (fun K hK => ?_)
        refine goes_ Tryd.func42 (by kernel_rfl) rfl #[.slice A m c] (by rfl) rfl rfl (by (try simp only [List.map_toArray, List.map_cons, List.map_nil]); first | done | rfl) ?_
        with_reducible refine (HO.out _ HB.out).mono ?_
        rintro e0 w4 ⟨rfl, hb⟩
        refine ⟨_, rfl, ?_⟩
        have n0 := Aside0.mk (below_step HB.out hb)
        have n1 := Aside0.mk (HM.out.below hb)
        clear HB HM
        have HB := n0
        have HM := n1
        clear n0 n1
        clear hb
        refine hK.out _ _ ((blk_cell HM.out.out 0).trans rfl) (fun hHeld => ?_)
        clear hK K
        refine norm_ (a' := ?_) ?_ ?_
        rotate_left
        · show Act.put _ (some 41) _ = _
          simp only [Act.put, List.setIfInBounds_toArray, List.set_cons_zero, List.set_cons_succ, i64_w, i32_w]
          rfl
        refine one_ (i := 5) (N := (some 42)) #[true, true, true, true, true, true, false, false] rfl rfl (one_of HT_.out (by kernel_rfl)) (by decide) (fun K hK => ?_)
        refine value_ (v := .slice (some ⟨w4.heap.size, 0, none⟩) 1 1) (w1 := w4.alloc (.cells (arr d) 25)) (by rfl) rfl (build_one (d := d) rfl rfl DD.out) ?_
        have hb := below_new w4 (.cells (arr d) 25)
        have BK := Aside0.mk (blk_new w4 (.cells (arr d) 25))
        obtain ⟨ga, hga⟩ : ∃ g, w4.heap.size = g := ⟨_, rfl⟩
        rw [hga] at BK ⊢
        generalize w4.alloc (.cells (arr d) 25) = w5 at hb BK ⊢
        have n0 := Aside0.mk (below_step HB.out hb)
        have n1 := Aside0.mk (HM.out.below hb)
        clear HB HM
        have HB := n0
        have HM := n1
        clear n0 n1
        clear hb hga
        refine hK.out _ _ ((blk_cell HM.out.out 0).trans rfl) (fun hHeld => ?_)
        clear hK K
        refine norm_ (a' := ?_) ?_ ?_
        rotate_left
        · show Act.put _ (some 42) _ = _
          simp only [Act.put, List.setIfInBounds_toArray, List.set_cons_zero, List.set_cons_succ, i64_w, i32_w]
          rfl
        refine one_ (i := 6) (N := (some 43)) #[true, true, true, true, true, true, true, false] rfl rfl (one_of HT_.out (by kernel_rfl)) (by decide) (fun K hK => ?_)
        rw [if_pos (by rfl)]
        obtain ⟨i0, hi0, hz0, hz1, hz2⟩ := info_parts info_digs
        refine wp_append_own w5 (.tmp 37) (.tmp 42) 31 rfl W0.heap.size 25 i0 (.agg (arr zeros32)) 32 32 Tryd.underlying31 hi0 hz0 hz1 hz2 rfl (by decide) v3 (ss ++ qs).length (flatD (ss ++ qs)) rfl HM.out.own ⟨ga, 0, none⟩ 1 1 (arr d).toList rfl (by rw [Array.length_toList, arr_size, DD.out.1]) (row_news BK.out) (arr_ones d) (by have := SL.out; simp only [maxLen]; omega) (by have := SL.out; omega) (below_size HB.out) ?_
        intro v6 w6 ho hg _
        clear hi0 hz0 hz1 hz2
        obtain ⟨g6, c6, rfl⟩ := own_form ho
        have hcb : w6.cell? ⟨Bo, 0, none⟩ = some v3 := (blk_cell (HM.out.grow (t := undef) hg (by decide) HM.out.out) 0).trans rfl
        have hfb : w6.frozen? ⟨Bo, 0, none⟩ = false := blk_frozen (HM.out.grow (t := undef) hg (by decide) HM.out.out) 0
        have HS6 := Aside0.mk (HM.out.step NE.out hg ho)
        have HB6 := Aside0.mk ((below_grown HB.out (below_size HB.out) HM.out.own hg).setCell (p := ⟨Bo, 0, none⟩) GO.out (.slice (some ⟨g6, 0, none⟩) ((ss ++ qs).length + 1) c6))
        clear ho hg HB HM
        refine hK.out _ _ hcb (fun hHeld => ?_)
        clear hK K
        refine norm_ (a' := ?_) ?_ ?_
        rotate_left
        · show Act.put _ (some 43) _ = _
          simp only [Act.put, List.setIfInBounds_toArray, List.set_cons_zero, List.set_cons_succ, i64_w, i32_w]
          rfl
        refine last_ (i := 7) (N := none) #[true, true, true, true, true, true, true, true] rfl rfl (one_of HT_.out (by kernel_rfl)) (by decide) (fun K hK => ?_)
        refine skip_ (w1 := ?_) (by rfl) rfl ?_ ?_
        rotate_left
        · go_simp
          rfl
        refine hK.out _ _ ?_
        clear hK K
        refine done_ (done_of HT_.out (by kernel_rfl)) ?_
        go_wp2
        first | refine bodyPost_end (v := .tuple #[]) (by simp [results, Tryd.results40, go_sem]) rfl ?_ | refine bodyPost_ret (v := .tuple #[]) (by simp [results, Tryd.results40, go_sem]) rfl ?_
        have h6 := HS6.out
        have b6 := HB6.out
        simp only [List.length_append] at h6 b6
        exact ⟨⟨_, rfl⟩, _, by rw [← List.append_assoc]; exact h6, b6⟩
end Go.Proofs.YtoaimcobcgomjaaDoor.Q
namespace Go.Proofs.YtoaimcobcgomjaaDoor.Q
open Go.RowKit Go.Proofs.YtoaimcobcgomjaaDoorW.PrintWords Go.Proofs.YtoaimcobcgomjaaDoorW.PrintLast Go.Proofs.YtoaimcobcgomjaaDoorW.PrintMore
set_option linter.unusedVariables false
set_option linter.unusedSimpArgs false
/-- A row's sides and code. -/
def sidesC (l : List (List Int)) (i : Int) : List (List Int) × Int := if listP l = true then (if i < 0 ∨ (l.length : Int) ≤ i then ([], 2) else (sidesP l i.toNat, 0)) else ([], 8)
set_option maxHeartbeats 8000000 in
set_option maxRecDepth 100000 in
theorem sides_walk (A : Option Addr) (n c : Nat) (l : List (List Int)) (i : Int) (W : World) (br : Rws W A n c l) (hk : KT W) :
    Calls Tryd.prog 17 #[.slice A n c, .int .i64 i] W fun e W' => ∃ v, e = .returned (.tuple #[v, .int .i64 (sidesC l i).2]) ∧ W'.ownsRow W.heap.size 25 32 v (sidesC l i).1.length (flatD (sidesC l i).1) ∧ Below W.heap.size W W' := by
  have HL : Aside0 (∀ w, Below W.heap.size W w → Calls Tryd.prog 39 #[.slice A n c] w fun e W' => e = .returned (.bool (listP l)) ∧ Below w.heap.size w W') := ⟨fun w hw => list_walk A n c l w (br.below hw)⟩
  have HB := Aside0.mk (Below.refl W.heap.size W)
  have hln := br.len
  unfold sidesC
  rw [hln]
  cases hl : listP l with
  | false =>
    rw [hl] at HL
    rw [if_neg (by decide)]
    clear hl br hk hln
    go_enter Tryd.func17, Tryd.ntmps17
    go_wp2_with (go_at_call 39; (with_reducible refine (HL.out _ HB.out).mono ?_); rintro e wq ⟨rfl, hb⟩; have n1 := Aside0.mk (below_step HB.out hb); clear HB; have HB := n1; clear n1 hb)
    go_ret2
    exact ⟨_, rfl, own_nil _ _ _ _, HB.out⟩
  | true =>
    rw [if_pos rfl]
    by_cases h1 : i < 0
    · rw [hl] at HL
      rw [if_pos (.inl h1)]
      have d1 : decide (i < 0) = true := decide_eq_true h1
      clear hl br hk hln
      go_enter Tryd.func17, Tryd.ntmps17
      go_wp2_with (go_at_call 39; (with_reducible refine (HL.out _ HB.out).mono ?_); rintro e wq ⟨rfl, hb⟩; have n1 := Aside0.mk (below_step HB.out hb); clear HB; have HB := n1; clear n1 hb)
      go_ret2
      exact ⟨_, rfl, own_nil _ _ _ _, HB.out⟩
    · obtain ⟨j, rfl⟩ := Int.eq_ofNat_of_zero_le (show 0 ≤ i by omega)
      by_cases h2 : n ≤ j
      · rw [hl] at HL
        rw [if_pos (.inr (by omega))]
        clear hl br hk hln h1
        go_enter Tryd.func17, Tryd.ntmps17
        go_wp2_with (go_at_call 39; (with_reducible refine (HL.out _ HB.out).mono ?_); rintro e wq ⟨rfl, hb⟩; have n1 := Aside0.mk (below_step HB.out hb); clear HB; have HB := n1; clear n1 hb)
        go_ret2
        exact ⟨_, rfl, own_nil _ _ _ _, HB.out⟩
      · rw [if_neg (by omega)]
        have h3 : j < n := by omega
        have hlen := listP_len hl
        have hsh := listP_short hl
        rw [hl] at HL
        have HP : Aside0 (∀ w Bp Bo, Below W.heap.size W w → Bp ≠ Bo → W.heap.size ≤ Bo → PartM W.heap.size Bp Bo w (.slice none 0 0) [] → Calls Tryd.prog 40 #[.slice A n c, .int .i64 (j : Int), .pointer (some ⟨Bp, 0, none⟩), .pointer (some ⟨Bo, 0, none⟩)] w fun e W' => (∃ u, e = .returned u) ∧ ∃ v', PartM W.heap.size Bp Bo W' v' (sidesP l j) ∧ Below W.heap.size W W') := ⟨fun w Bp Bo hw hne hgo hM => part_walk W hk Bp Bo hne hgo 256 A n c l j _ [] w br hsh (by omega) (by omega) h3 (by simp) hw hM⟩
        rw [Int.toNat_natCast]
        obtain ⟨ss, hss⟩ : ∃ ss, sidesP l j = ss := ⟨_, rfl⟩
        rw [hss] at HP ⊢
        clear hl br hk hln h1 h2 hlen hsh hss
        go_enter Tryd.func17, Tryd.ntmps17
        go_wp2_with (
          first
          | (go_at_call 39; (with_reducible refine (HL.out _ HB.out).mono ?_); rintro e wq ⟨rfl, hb⟩; have n1 := Aside0.mk (below_step HB.out hb); clear HB; have HB := n1; clear n1 hb)
          | (go_at_call 40; refine (HP.out _ (wq.heap.size + 1) wq.heap.size (below_alloc (below_alloc HB.out _) _) (by omega) (below_size HB.out) ⟨blk_new1 _ _ _, blk_alloc (blk_new _ _) _, own_nil _ _ _ _⟩).mono ?_; rintro e w3 ⟨⟨u, rfl⟩, v3, hM, hb⟩; have hc3 : w3.cell? ⟨wq.heap.size, 0, none⟩ = some v3 := (blk_cell hM.out 0).trans rfl; have HO := Aside0.mk hM.own; have HB3 := Aside0.mk hb; clear hM hb))
        go_ret2
        exact ⟨_, rfl, HO.out, HB3.out⟩
end Go.Proofs.YtoaimcobcgomjaaDoor.Q
namespace Go.Proofs.YtoaimcobcgomjaaDoor.Q
open Go.RowKit Go.Proofs.YtoaimcobcgomjaaDoorW.PrintWords Go.Proofs.YtoaimcobcgomjaaDoorW.PrintLast Go.Proofs.YtoaimcobcgomjaaDoorW.PrintMore
set_option linter.unusedVariables false
set_option linter.unusedSimpArgs false
def fork1_T : Bool × List (List Nat × List Nat) := (true, [([], []), ([], []), ([0, 1], [0, 1]), ([2], [2]), ([3, 3, 0, 1, 2, 3], [3])])
def fork1_B : List Nat := [0, 0, 3, 7, 15]
theorem fork1_tab : rtab .any (opsOf Tryd.f24 1) = fork1_T := by kernel_rfl
theorem fork1_bits : waitsOk fork1_T.2 fork1_B = true := by kernel_rfl
set_option maxHeartbeats 4000000 in
set_option maxRecDepth 100000 in
theorem fork_walk (d1 d2 : List Int) (hd1 : Dig d1) (hd2 : Dig d2) (W : World) (hk : KT W) :
    Calls Tryd.prog 24 #[.agg (arr d1), .agg (arr d2)] W fun e W' => e = .returned (.agg (arr (tagOf 8 [d1, d2]))) ∧ Below W.heap.size W W' := by
  have D1 := Aside0.mk hd1
  have D2 := Aside0.mk hd2
  have D1L : Aside0 (d1.length = 32) := ⟨hd1.1⟩
  have D2L : Aside0 (d2.length = 32) := ⟨hd2.1⟩
  have HK := Aside0.mk hk
  have HB := Aside0.mk (Below.refl W.heap.size W)
  clear hd1 hd2 hk
  go_enter Tryd.func24, Tryd.ntmps24
  go_wp2_with (
    first
    | ((with_reducible refine gate_dst (N := 2) rfl ?_); refine box_event ?hg (N := 2) ?hd (cs := arr d1) (t := 25) ?hr ?_; (case hd => rfl); (case hg => rfl); (case hr => first | (go_simp; done) | (go_simp; rfl));
                         intro g2 hg w2 hbox hb; have BK2 := Aside0.mk hbox; have G2 := Aside0.mk (show W.heap.size ≤ g2 by rw [hg]; exact below_size HB.out); have n0 := Aside0.mk (below_step HB.out hb); clear HB; have HB := n0; clear n0; clear hb hbox hg)
    | ((with_reducible refine gate_dst (N := 3) rfl ?_); refine box_event ?hg (N := 3) ?hd (cs := arr d2) (t := 25) ?hr ?_; (case hd => rfl); (case hg => rfl); (case hr => first | (go_simp; done) | (go_simp; rfl));
                         intro g3 hg w3 hbox hb; have BK3 := Aside0.mk hbox; have G3 := Aside0.mk (show W.heap.size ≤ g3 by rw [hg]; exact below_size HB.out); have n0 := Aside0.mk (blk_below BK2.out hb); have n1 := Aside0.mk (below_step HB.out hb); clear BK2 HB; have BK2 := n0; have HB := n1; clear n0 n1; clear hb hbox hg)
    | ((with_reducible refine gate_dst (N := 4) rfl ?_); refine box_event ?hg (N := 4) ?hd (cs := arr zeros32) (t := 25) ?hr ?_; (case hd => rfl); (case hg => rfl); (case hr => first | (go_simp; done) | (go_simp; rfl));
                         intro g4 hg w4 hbox hb; have BK4 := Aside0.mk hbox; have G4 := Aside0.mk (show W.heap.size ≤ g4 by rw [hg]; exact below_size HB.out); have n0 := Aside0.mk (blk_below BK2.out hb); have n1 := Aside0.mk (blk_below BK3.out hb); have n2 := Aside0.mk (below_step HB.out hb); clear BK2 BK3 HB; have BK2 := n0; have BK3 := n1; have HB := n2; clear n0 n1 n2; clear hb hbox hg))
  have hs2 := fun W => sl_dig ⟨g2, 0, none⟩ W
  have hs3 := fun W => sl_dig ⟨g3, 0, none⟩ W
  have hb : Below w4.heap.size w4 w4.drew := below_drew (Below.refl _ _)
  refine start_ (n := 5) (S := fun w' => True) (ds := []) #[false, false, false, false, false] (by kernel_rfl) rfl rfl trivial (fun hHeld => ?_)
  refine with_tabW fork1_tab fork1_bits (fun HT_ HW_ => ?_)
  have n0 := Aside0.mk (blk_below BK2.out hb)
  have n1 := Aside0.mk (blk_below BK3.out hb)
  have n2 := Aside0.mk (blk_below BK4.out hb)
  have n3 := Aside0.mk (below_step HB.out hb)
  clear BK2 BK3 BK4 HB
  have BK2 := n0
  have BK3 := n1
  have BK4 := n2
  have HB := n3
  clear n0 n1 n2 n3
  clear hb
  generalize w4.drew = wa at BK2 BK3 BK4 HB ⊢
  refine pure_ (i := 0) (N := (some 5)) (v := ?_) (a' := ?_) #[true, false, false, false, false] rfl rfl (any_of HT_.out (by kernel_rfl)) (fun _ _ _ h => h) (Or.inl ⟨by rfl, ?_⟩) ?_ ?_
  rotate_left
  · intro w'
    go_simp
    first | with_reducible rfl | (simp; done) | rfl
  rotate_left
  · simp only [Act.put, List.setIfInBounds_toArray, List.set_cons_zero, List.set_cons_succ, i64_w, i32_w]
    rfl
  refine pure_ (i := 1) (N := (some 6)) (v := ?_) (a' := ?_) #[true, true, false, false, false] rfl rfl (any_of HT_.out (by kernel_rfl)) (fun _ _ _ h => h) (Or.inl ⟨by rfl, ?_⟩) ?_ ?_
  rotate_left
  · intro w'
    go_simp
    first | with_reducible rfl | (simp; done) | rfl
  rotate_left
  · simp only [Act.put, List.setIfInBounds_toArray, List.set_cons_zero, List.set_cons_succ, i64_w, i32_w]
    rfl
  refine one_ (i := 2) (N := (some 7)) #[true, true, true, false, false] rfl rfl (one_of HT_.out (by kernel_rfl)) (by decide) (fun K hK => ?_)
  refine value_ (v := .slice (some ⟨wa.heap.size, 0, none⟩) 2 2) (w1 := wa.alloc (.cells #[.slice (some ⟨g2, 0, none⟩) 32 32, .slice (some ⟨g3, 0, none⟩) 32 32] 22)) (by rfl) rfl ?_ ?_
  · go_simp
    first | done | rfl
  have hn1 := Aside0.mk (blk_new wa (.cells #[.slice (some ⟨g2, 0, none⟩) 32 32, .slice (some ⟨g3, 0, none⟩) 32 32] 22))
  have hb := below_new wa (.cells #[.slice (some ⟨g2, 0, none⟩) 32 32, .slice (some ⟨g3, 0, none⟩) 32 32] 22)
  obtain ⟨ga, hga⟩ : ∃ ga, wa.heap.size = ga := ⟨_, rfl⟩
  rw [hga] at hn1 ⊢
  generalize wa.alloc (.cells #[.slice (some ⟨g2, 0, none⟩) 32 32, .slice (some ⟨g3, 0, none⟩) 32 32] 22) = wb at hn1 hb ⊢
  have n0 := Aside0.mk (blk_below BK2.out hb)
  have n1 := Aside0.mk (blk_below BK3.out hb)
  have n2 := Aside0.mk (blk_below BK4.out hb)
  have n3 := Aside0.mk (below_step HB.out hb)
  clear BK2 BK3 BK4 HB
  have BK2 := n0
  have BK3 := n1
  have BK4 := n2
  have HB := n3
  clear n0 n1 n2 n3
  clear hb hga
  refine hK.out _ _ trivial (fun hHeld => ?_)
  clear hK K
  refine norm_ (a' := ?_) ?_ ?_
  rotate_left
  · show Act.put _ (some 7) _ = _
    simp only [Act.put, List.setIfInBounds_toArray, List.set_cons_zero, List.set_cons_succ, i64_w, i32_w]
    rfl
  refine one_ (i := 3) (N := (some 8)) #[true, true, true, true, false] rfl rfl (one_of HT_.out (by kernel_rfl)) (by decide) (fun K hK => ?_)
  refine goes_ Tryd.func44 (by kernel_rfl) rfl #[.int .u8 8, .slice (some ⟨ga, 0, none⟩) 2 2] (by rfl) rfl rfl (by (try simp only [List.map_toArray, List.map_cons, List.map_nil]); first | done | rfl) ?_
  with_reducible refine (tag2 8 (by decide) ga 2 22 32 32 32 32 _ _ d1 d2 _ hn1.out (dig_bts BK2.out D1.out) (dig_bts BK3.out D2.out) (Nat.le_refl _) (by rw [D1L.out]; omega) (by rw [D2L.out]; omega) (HK.out.below HK.out.lt HB.out)).mono ?_
  rintro e0 wc ⟨rfl, hb⟩
  refine ⟨_, rfl, ?_⟩
  clear hn1
  have n0 := Aside0.mk (blk_below BK2.out hb)
  have n1 := Aside0.mk (blk_below BK3.out hb)
  have n2 := Aside0.mk (blk_below BK4.out hb)
  have n3 := Aside0.mk (below_step HB.out hb)
  clear BK2 BK3 BK4 HB
  have BK2 := n0
  have BK3 := n1
  have BK4 := n2
  have HB := n3
  clear n0 n1 n2 n3
  clear hb
  refine hK.out _ _ trivial (fun hHeld => ?_)
  clear hK K
  refine norm_ (a' := ?_) ?_ ?_
  rotate_left
  · show Act.put _ (some 8) _ = _
    simp only [Act.put, List.setIfInBounds_toArray, List.set_cons_zero, List.set_cons_succ, i64_w, i32_w]
    rfl
  refine one_ (i := 4) (N := none) #[true, true, true, true, true] rfl rfl (one_of HT_.out (by kernel_rfl)) (by decide) (fun K hK => ?_)
  rw [if_pos (by rfl)]
  refine wp_store_row 25 (.tmp 4) (.tmp 8) rfl g4 (arr (tagOf 8 [d1, d2])) rfl rfl 25 (arr zeros32) BK4.out (by rw [arr_size, tagOf_len]; exact info_dig) (by rw [arr_size, arr_size, tagOf_len]; rfl) (arr_one _) ?_
  have m0 : Aside0 ((World.setRow wc g4 (arr (tagOf 8 [d1, d2]))).heap[g4]? = some (.cells (arr (tagOf 8 [d1, d2])) 25 (0, 0))) := ⟨setRow_heap _ g4 _ _ _ _ BK4.out⟩
  have m1 := Aside0.mk (below_setRow HB.out G4.out (arr (tagOf 8 [d1, d2])))
  obtain ⟨wd, hwe⟩ : ∃ w', World.setRow wc g4 (arr (tagOf 8 [d1, d2])) = w' := ⟨_, rfl⟩
  rw [hwe] at m0 m1 ⊢
  clear hwe BK4 HB
  have BK4 := m0
  have HB := m1
  clear m0 m1
  refine hK.out _ _ trivial (fun _ => ?_)
  clear hK K
  refine done_ (done_of HT_.out (by kernel_rfl)) ?_
  go_wp2
  refine bodyPost_ret (results_c rfl _ _ g4 25 (arr (tagOf 8 [d1, d2])) (0, 0) _ rfl BK4.out Tryd.underlying25 rfl (by rw [arr_size, tagOf_len]; exact info_dig)) rfl ?_
  exact ⟨rfl, HB.out⟩
theorem bts_one {w : World} {g c : Nat} {b : Int} (h : w.cell? ⟨g, 0, none⟩ = some (.int .u8 b)) (hb : 0 ≤ b ∧ b < 256) (hc : 1 ≤ c) : Bts w (some ⟨g, 0, none⟩) 1 c [b] := by
  refine ⟨⟨rfl, by omega, fun _ => ⟨_, rfl, fun j p hj => ⟨[.int .u8 p], rfl, rfl, fun i u hu => ?_⟩⟩⟩, hc, fun x hx => ?_⟩
  · match j, hj with
    | 0, hj =>
      cases i with
      | succ i => simp at hu
      | zero =>
        simp only [List.getElem?_cons_zero, Option.some.injEq] at hj hu
        subst hj
        subst hu
        exact h
    | j + 1, hj => simp at hj
  · simp only [List.mem_singleton] at hx
    subst hx
    exact hb
theorem bts_row {w : World} {g t : Nat} {b : Int} {fr : Nat × Nat} (h : w.heap[g]? = some (.cells #[.int .u8 b] t fr)) (hb : 0 ≤ b ∧ b < 256) : Bts w (some ⟨g, 0, none⟩) 1 1 [b] := bts_one ((cell_of_row w g 0 _ t fr h).trans rfl) hb (Nat.le_refl _)
theorem leaf_bts (b : UInt8) (w : World) : Bts (Lib.bytesWorld w 5 ⟨#[b]⟩) (some ⟨w.heap.size, 0, none⟩) 1 (grownCap w 1 0 5) [(b.toNat : Int)] :=
  bts_one (Lib.bytesWorld_cell w 5 ⟨#[b]⟩ 0 (by show 0 < 1; omega)) (by have := b.toNat_lt; omega) (grownCap_ge w 1 0 5)
set_option maxHeartbeats 4000000 in
set_option maxRecDepth 100000 in
theorem leaf_walk (b : UInt8) (W : World) (hk : KT W) :
    Calls Tryd.prog 23 #[.string ⟨#[b]⟩] W fun e W' => e = .returned (.agg (arr (tagOf 7 [[(b.toNat : Int)]]))) ∧ Below W.heap.size W W' := by
  have HK := Aside0.mk hk
  have HB := Aside0.mk (Below.refl W.heap.size W)
  have hbb : Aside0 (0 ≤ (b.toNat : Int) ∧ (b.toNat : Int) < 256) := ⟨by have := b.toNat_lt; omega⟩
  have hcv : ∀ X : World, (convert 9 22 (.string ⟨#[b]⟩)).run Tryd.prog X = .ok (.slice (some ⟨X.heap.size, 0, none⟩) 1 (grownCap X 1 0 5)) (Lib.bytesWorld X 5 ⟨#[b]⟩) := fun X => Lib.run_convert_string_bytes (P := Tryd.prog) X 9 22 5 ⟨#[b]⟩ Tryd.underlying9 Tryd.underlying22 Tryd.underlying5
  clear hk
  go_enter Tryd.func23, Tryd.ntmps23
  go_wp2_with (
    first
    | ((with_reducible refine gate_dst (N := 2) rfl ?_); refine box_event ?hg (N := 2) ?hd (cs := arr zeros32) (t := 25) ?hr ?_; (case hd => rfl); (case hg => rfl); (case hr => first | (go_simp; done) | (go_simp; rfl));
                         intro g2 hg w2 hbox hb; have BK2 := Aside0.mk hbox; have G2 := Aside0.mk (show W.heap.size ≤ g2 by rw [hg]; exact below_size HB.out); have n0 := Aside0.mk (below_step HB.out hb); clear HB; have HB := n0; clear n0; clear hb hbox hg)
    | (go_at_call 44; (with_reducible refine (tag1 7 (by decide) _ 1 22 _ 1 _ [(b.toNat : Int)] _ (blk_new _ _) ((leaf_bts b w2).alloc _) (Nat.le_refl _) (by simp) (HK.out.below HK.out.lt (below_alloc (bytes_below HB.out (below_size HB.out) _ _) _))).mono ?_); rintro e wq ⟨rfl, hb⟩; have n0 := Aside0.mk (blk_below (blk_alloc (blk_below BK2.out (bytes_below (Below.refl w2.heap.size w2) (Nat.le_refl _) _ _)) _) hb); have n1 := Aside0.mk (below_step (below_alloc (bytes_below HB.out (below_size HB.out) _ _) _) hb); clear BK2 HB hb; have BK2 := n0; have HB := n1; clear n0 n1)
    | ((with_reducible refine gate_store (p := 2) rfl ?_); refine dig_store rfl (.tmp 2) (.tmp 6) rfl g2 (tagOf 7 [[(b.toNat : Int)]]) (zeros32) rfl rfl BK2.out (tagOf_len _ _) (rfl) ?_; intro ws bk hoth hbel; have nn := Aside0.mk bk; have n0 := Aside0.mk (hbel _ _ HB.out G2.out); clear HB; have HB := n0; clear n0; clear BK2 bk hoth hbel; have BK2 := nn; clear nn))
  refine bodyPost_ret (results_c rfl _ _ g2 25 (arr (tagOf 7 [[(b.toNat : Int)]])) (0, 0) _ rfl BK2.out Tryd.underlying25 rfl (by rw [arr_size, tagOf_len]; exact info_dig)) rfl ?_
  exact ⟨rfl, HB.out⟩
theorem convert_const2 (w : World) (o o' : Obj) (C : Array Value) (n c : Nat) : (convert 22 22 (.slice (some ⟨w.heap.size + 1 + 1, 0, none⟩) n c)).run Tryd.prog (((w.alloc o).alloc o').alloc (.cells C 5)) = .ok (.slice (some ⟨w.heap.size + 1 + 1, 0, none⟩) n c) (((w.alloc o).alloc o').alloc (.cells C 5 (C.size, C.size + 1))) := by
  have h := Lib.run_convert_bytes_const (P := Tryd.prog) ((w.alloc o).alloc o') 22 5 C n c Tryd.underlying22 Tryd.underlying5
  rwa [World.size_alloc, World.size_alloc] at h
set_option maxHeartbeats 4000000 in
set_option maxRecDepth 100000 in
theorem abc_walk (W : World) :
    Calls Tryd.prog 18 #[] W fun e W' => ∃ A, e = .returned (.slice A 3 3) ∧ Rws W' A 3 3 [[97], [98], [99]] ∧ Below W.heap.size W W' := by
  have kc := fun (w : World) (C : Array Value) (n c : Nat) => Lib.run_convert_bytes_const (P := Tryd.prog) w 22 5 C n c Tryd.underlying22 Tryd.underlying5
  have kc1 := fun (w : World) (o : Obj) (C : Array Value) (n c : Nat) => convert_const1 w o C n c
  have kc2 := fun (w : World) (o o' : Obj) (C : Array Value) (n c : Nat) => convert_const2 w o o' C n c
  go_enter Tryd.func18, Tryd.ntmps18
  go_wp2
  go_ret
  refine ⟨_, rfl, ⟨?_, Nat.le_refl _, by decide⟩, ?_⟩
  · have h4 := blk_new (((W.alloc (.cells #[.int .u8 97] 5 (1, 2))).alloc (.cells #[.int .u8 98] 5 (1, 2))).alloc (.cells #[.int .u8 99] 5 (1, 2))) (.cells #[.slice (some ⟨W.heap.size, 0, none⟩) 1 1, .slice (some ⟨W.heap.size + 1, 0, none⟩) 1 1, .slice (some ⟨W.heap.size + 1 + 1, 0, none⟩) 1 1] 22)
    simp only [World.size_alloc] at h4
    refine parts_C (ps := [[97], [98], [99]]) h4 (by simp) (fun j q hj => ?_)
    match j, hj with
    | 0, hj => exact ⟨some ⟨W.heap.size, 0, none⟩, 1, by cases hj; rfl, by cases hj; exact Nat.le_refl _, by cases hj; exact (bts_row (blk_alloc (blk_alloc (blk_alloc (blk_new W _) _) _) _) (by decide)).rd_⟩
    | 1, hj => exact ⟨some ⟨W.heap.size + 1, 0, none⟩, 1, by cases hj; rfl, by cases hj; exact Nat.le_refl _, by cases hj; exact (bts_row (blk_alloc (blk_alloc (blk_new1 W _ _) _) _) (by decide)).rd_⟩
    | 2, hj => exact ⟨some ⟨W.heap.size + 1 + 1, 0, none⟩, 1, by cases hj; rfl, by cases hj; exact Nat.le_refl _, by cases hj; exact (bts_row (blk_alloc (blk_new2 W _ _ _) _) (by decide)).rd_⟩
    | j + 3, hj => simp at hj
  · exact below_alloc (below_alloc (below_alloc (below_new W _) _) _) _
end Go.Proofs.YtoaimcobcgomjaaDoor.Q
namespace Go.Proofs.YtoaimcobcgomjaaDoor.Q
open Go.RowKit Go.Proofs.YtoaimcobcgomjaaDoorW.PrintWords Go.Proofs.YtoaimcobcgomjaaDoorW.PrintLast Go.Proofs.YtoaimcobcgomjaaDoorW.PrintMore
set_option linter.unusedVariables false
set_option linter.unusedSimpArgs false
theorem run_neq_dig (x y : List Int) (hx : Dig x) (hy : Dig y) (W : World) : (binOp .neq 25 (.agg (arr x)) (.agg (arr y))).run Tryd.prog W = .ok (.bool (!decide (x = y))) W := by
  have h := run_eql_dig x y hx hy W
  simp only [binOp, Sem.run_bind] at h ⊢
  generalize (Op.equal 25 (.agg (arr x)) (.agg (arr y))).run Tryd.prog W = r at h ⊢
  cases r with
  | ok b w =>
    simp [Result.andThen, Sem.run_pure] at h ⊢
    obtain ⟨h1, h2⟩ := h
    exact ⟨by rw [h1], h2⟩
  | halt hh w => simp [Result.andThen] at h
theorem dig_neq {o : Oper} {a : Act} {W : World} {x y : Operand} {ds es : List Int} (ho : o.op = .binOp .neq 25 x y 25) (hx : a.eval x = .agg (arr ds)) (hy : a.eval y = .agg (arr es)) (hd : Dig ds) (he : Dig es) (hne : ds ≠ es) :
    (execOp a.eval o).run Tryd.prog W = .ok (.value (.bool true)) W := by
  have := run_neq_dig ds es hd he W
  rw [decide_eq_false hne] at this
  unfold execOp
  simp only [ho, hx, hy]
  have hg := run_eqGuard_agg W .neq 25 x y (arr ds) (arr es) eqg_dig
  simp [this, hg, Sem.run_bind, Result.andThen]
theorem Rws.none (W : World) : Rws W none 0 0 [] := ⟨none_C W, Nat.le_refl _, by simp⟩
def abcL : List (List Int) := [[97], [98], [99]]
theorem root_abc : rootP abcL = tagOf 8 [tagOf 8 [tagOf 7 [[97]], tagOf 7 [[98]]], tagOf 7 [[99]]] := by
  have e3 : frontN 3 = 2 := by decide +kernel
  have e2 : frontN 2 = 1 := by decide +kernel
  rw [rootP_two abcL (by decide) (by decide)]
  have h1 : abcL.length = 3 := rfl
  rw [h1, e3]
  have h2 : abcL.take 2 = [[97], [98]] := rfl
  have h3 : abcL.drop 2 = [[99]] := rfl
  rw [h2, h3, rootP_two [[97], [98]] (by decide) (by decide)]
  have h4 : ([[97], [98]] : List (List Int)).length = 2 := rfl
  rw [h4, e2]
  have h5 : ([[97], [98]] : List (List Int)).take 1 = [[97]] := rfl
  have h6 : ([[97], [98]] : List (List Int)).drop 1 = [[98]] := rfl
  rw [h5, h6, rootP_one [[97]] rfl, rootP_one [[98]] rfl, rootP_one [[99]] rfl]
  rfl
theorem ne_one : tagOf 7 [[97]] ≠ tagOf 0 [] := by decide +kernel
theorem ne_all : tagOf 8 [tagOf 8 [tagOf 7 [[97]], tagOf 7 [[98]]], tagOf 7 [[99]]] ≠ tagOf 7 [[97]] := by decide +kernel
def alive4_T : Bool × List (List Nat × List Nat) := (true, [([], []), ([0], [0]), ([1], [1]), ([2], [2]), ([2, 2], [2]), ([3, 4, 2], [2, 3, 4]), ([2, 5], [2, 5]), ([6, 4], [6]), ([7], [7]), ([8, 7], [7, 8]), ([7, 9], [7, 9]), ([10, 7], [10]), ([11], [11]), ([11, 11], [11]), ([12, 13, 11], [11, 12, 13]), ([11, 14], [11, 14]), ([15, 13], [15]), ([16], [16]), ([17, 16], [16, 17]), ([16, 18], [16, 18]), ([19, 16], [19]), ([20], [20]), ([20, 20], [20]), ([22, 20], [20]), ([22, 23, 23, 20], [20, 22, 23]), ([24, 20], [20]), ([24, 25, 25, 20], [20, 24, 25]), ([21, 26, 20], [20, 21, 26]), ([20, 27], [20, 27]), ([28, 26], [28]), ([29], [29]), ([29], [29]), ([30, 31, 29], [29, 30, 31]), ([29, 32], [29, 32]), ([33, 29], [33]), ([34], [34]), ([34], [34]), ([35, 36, 34], [34, 35, 36]), ([34, 37], [34, 37]), ([38, 34, 0, 1, 2, 3, 4, 5, 6, 7, 8, 9, 10, 11, 12, 13, 14, 15, 16, 17, 18, 19, 20, 21, 22, 23, 24, 25, 26, 27, 28, 29, 30, 31, 32, 33, 34, 35, 36, 37, 38], [38])])
def alive4_B : List Nat := [0, 1, 3, 7, 7, 31, 63, 127, 255, 511, 1023, 2047, 4095, 4095, 16383, 32767, 65535, 131071, 262143, 524287, 1048575, 2097151, 2097151, 6291455, 14680063, 31457279, 65011711, 134217727, 268435455, 536870911, 1073741823, 1073741823, 4294967295, 8589934591, 17179869183, 34359738367, 34359738367, 137438953471, 274877906943, 549755813887]
theorem alive4_tab : rtab .any (opsOf Tryd.f21 4) = alive4_T := by kernel_rfl
theorem alive4_bits : waitsOk alive4_T.2 alive4_B = true := by kernel_rfl
set_option maxHeartbeats 16000000 in
set_option maxRecDepth 100000 in
theorem alive13_walk (W : World) (hk : KT W) :
    Calls Tryd.prog 21 #[] W fun e W' => e = .returned (.bool true) ∧ Below W.heap.size W W' := by
  have HK := Aside0.mk hk
  have HB := Aside0.mk (Below.refl W.heap.size W)
  have c0 : rootC [] = (tagOf 0 [], 0) := by unfold rootC; rw [if_pos (by rfl), rootP_none [] rfl]
  have c1 : rootC [[97]] = (tagOf 7 [[97]], 0) := by unfold rootC; rw [if_pos (by rfl), rootP_one [[97]] rfl]; rfl
  have c3 : rootC abcL = (tagOf 8 [tagOf 8 [tagOf 7 [[97]], tagOf 7 [[98]]], tagOf 7 [[99]]], 0) := by unfold rootC; rw [if_pos (by rfl), root_abc]
  have n1 := ne_one
  have nA := ne_all
  obtain ⟨dN, hN⟩ : ∃ d, tagOf 0 [] = d := ⟨_, rfl⟩
  obtain ⟨d1, h1⟩ : ∃ d, tagOf 7 [[97]] = d := ⟨_, rfl⟩
  obtain ⟨dB, hB⟩ : ∃ d, tagOf 7 [[98]] = d := ⟨_, rfl⟩
  obtain ⟨dC, hC⟩ : ∃ d, tagOf 7 [[99]] = d := ⟨_, rfl⟩
  have HTN : Aside0 (∀ w, KT w → Calls Tryd.prog 45 #[] w fun e W' => e = .returned (.agg (arr dN)) ∧ Below w.heap.size w W') := ⟨fun w hw => hN ▸ tagNone_walk w hw⟩
  have HLA : Aside0 (∀ w, KT w → Calls Tryd.prog 23 #[.string ⟨#[97]⟩] w fun e W' => e = .returned (.agg (arr d1)) ∧ Below w.heap.size w W') := ⟨fun w hw => h1 ▸ leaf_walk 97 w hw⟩
  have HLB : Aside0 (∀ w, KT w → Calls Tryd.prog 23 #[.string ⟨#[98]⟩] w fun e W' => e = .returned (.agg (arr dB)) ∧ Below w.heap.size w W') := ⟨fun w hw => hB ▸ leaf_walk 98 w hw⟩
  have HLC : Aside0 (∀ w, KT w → Calls Tryd.prog 23 #[.string ⟨#[99]⟩] w fun e W' => e = .returned (.agg (arr dC)) ∧ Below w.heap.size w W') := ⟨fun w hw => hC ▸ leaf_walk 99 w hw⟩
  have DN : Aside0 (Dig dN) := ⟨hN ▸ tagOf_dig _ _⟩
  have D1 : Aside0 (Dig d1) := ⟨h1 ▸ tagOf_dig _ _⟩
  have DB : Aside0 (Dig dB) := ⟨hB ▸ tagOf_dig _ _⟩
  have DC : Aside0 (Dig dC) := ⟨hC ▸ tagOf_dig _ _⟩
  rw [h1, hN] at n1
  rw [h1, hB, hC] at nA c3
  rw [h1] at c1
  rw [hN] at c0
  clear hN h1 hB hC
  obtain ⟨dF, hF⟩ : ∃ d, tagOf 8 [d1, dB] = d := ⟨_, rfl⟩
  have DF : Aside0 (Dig dF) := ⟨hF ▸ tagOf_dig _ _⟩
  have HF1 : Aside0 (∀ w, KT w → Calls Tryd.prog 24 #[.agg (arr d1), .agg (arr dB)] w fun e W' => e = .returned (.agg (arr dF)) ∧ Below w.heap.size w W') := ⟨fun w hw => hF ▸ fork_walk d1 dB D1.out DB.out w hw⟩
  rw [hF] at nA c3
  clear hF
  obtain ⟨dA, hA⟩ : ∃ d, tagOf 8 [dF, dC] = d := ⟨_, rfl⟩
  have DA : Aside0 (Dig dA) := ⟨hA ▸ tagOf_dig _ _⟩
  have HF2 : Aside0 (∀ w, KT w → Calls Tryd.prog 24 #[.agg (arr dF), .agg (arr dC)] w fun e W' => e = .returned (.agg (arr dA)) ∧ Below w.heap.size w W') := ⟨fun w hw => hA ▸ fork_walk dF dC DF.out DC.out w hw⟩
  rw [hA] at nA c3
  clear hA
  have NE1 := Aside0.mk n1
  have NEA := Aside0.mk nA
  have LN : Aside0 (dN.length = 32) := ⟨DN.out.1⟩
  have L1 : Aside0 (d1.length = 32) := ⟨D1.out.1⟩
  have LA : Aside0 (dA.length = 32) := ⟨DA.out.1⟩
  have HR0 : Aside0 (∀ w, KT w → Calls Tryd.prog 19 #[.slice none 0 0] w fun e W' => e = .returned (.tuple #[.agg (arr dN), .int .i64 0]) ∧ Below w.heap.size w W') := ⟨fun w hw => by
    have := rootR_walk none 0 0 [] w (Rws.none w) hw
    rwa [c0] at this⟩
  have HR1 : Aside0 (∀ A w, Rws w A 3 3 [[97], [98], [99]] → KT w → Calls Tryd.prog 19 #[.slice A 1 3] w fun e W' => e = .returned (.tuple #[.agg (arr d1), .int .i64 0]) ∧ Below w.heap.size w W') := ⟨fun A w hr hw => by
    have := rootR_walk A 1 3 [[97]] w (hr.take 1 (by omega)) hw
    rwa [c1] at this⟩
  have HR3 : Aside0 (∀ A w, Rws w A 3 3 [[97], [98], [99]] → KT w → Calls Tryd.prog 19 #[.slice A 3 3] w fun e W' => e = .returned (.tuple #[.agg (arr dA), .int .i64 0]) ∧ Below w.heap.size w W') := ⟨fun A w hr hw => by
    have := rootR_walk A 3 3 abcL w hr hw
    rwa [c3] at this⟩
  have hct : ∀ (A : Option Addr) (X : World), (Instr.slice 29 (.slice A 3 3) none (some (.int .i64 1)) none).run Tryd.prog X = .ok (.slice A 1 3) X := fun A X => rows_to A 3 3 1 (by omega) (by omega) X
  clear hk n1 nA c0 c1 c3
  go_enter Tryd.func21, Tryd.ntmps21
  go_wp2_with (
    first
    | (go_at_call 19; (with_reducible refine (HR0.out _ (HK.out.below HK.out.lt HB.out)).mono ?_); rintro e wr0 ⟨rfl, hb⟩; have n0 := Aside0.mk (below_step HB.out hb); clear HB; have HB := n0; clear n0; clear hb)
    | ((with_reducible refine gate_dst (N := 1) rfl ?_); refine box_event ?hg (N := 1) ?hd (cs := arr zeros32) (t := 25) ?hr ?_; (case hd => rfl); (case hg => rfl); (case hr => first | (go_simp; done) | (go_simp; rfl));
                         intro g1 hg w1 hbox hb; have BK1 := Aside0.mk hbox; have G1 := Aside0.mk (show W.heap.size ≤ g1 by rw [hg]; exact below_size HB.out); have n0 := Aside0.mk (below_step HB.out hb); clear HB; have HB := n0; clear n0; clear hb hbox hg)
    | ((with_reducible refine gate_store (p := 1) rfl ?_); refine dig_store rfl (.tmp 1) (.tmp 9) rfl g1 (dN) (zeros32) rfl rfl BK1.out (LN.out) (rfl) ?_; intro ws1 bk hoth hbel; have nn := Aside0.mk bk; have n0 := Aside0.mk (hbel _ _ HB.out G1.out); clear HB; have HB := n0; clear n0; clear BK1 bk hoth hbel; have BK1 := nn; clear nn)
    | (go_at_call 19; (with_reducible refine (HR1.out _ _ RAwb1.out (HK.out.below HK.out.lt HB.out)).mono ?_); rintro e wr1 ⟨rfl, hb⟩; have n0 := Aside0.mk (blk_below BK1.out hb); have n1 := Aside0.mk (below_step HB.out hb); clear BK1 HB; have BK1 := n0; have HB := n1; clear n0 n1; clear hb RAwb1)
    | ((with_reducible refine gate_dst (N := 3) rfl ?_); refine box_event ?hg (N := 3) ?hd (cs := arr zeros32) (t := 25) ?hr ?_; (case hd => rfl); (case hg => rfl); (case hr => first | (go_simp; done) | (go_simp; rfl));
                         intro g3 hg w3 hbox hb; have BK3 := Aside0.mk hbox; have G3 := Aside0.mk (show W.heap.size ≤ g3 by rw [hg]; exact below_size HB.out); have N1_3 := Aside0.mk (show g1 ≠ g3 by rw [hg]; exact Nat.ne_of_lt (blk_lt BK1.out)); have n0 := Aside0.mk (blk_below BK1.out hb); have n1 := Aside0.mk (below_step HB.out hb); clear BK1 HB; have BK1 := n0; have HB := n1; clear n0 n1; clear hb hbox hg)
    | ((with_reducible refine gate_store (p := 3) rfl ?_); refine dig_store rfl (.tmp 3) (.tmp 15) rfl g3 (d1) (zeros32) rfl rfl BK3.out (L1.out) (rfl) ?_; intro ws3 bk hoth hbel; have nn := Aside0.mk bk; have n0 := Aside0.mk ((hoth g1 N1_3.out).trans BK1.out); have n1 := Aside0.mk (hbel _ _ HB.out G3.out); clear BK1 HB; have BK1 := n0; have HB := n1; clear n0 n1; clear BK3 bk hoth hbel; have BK3 := nn; clear nn)
    | (go_at_call 19; (with_reducible refine (HR3.out _ _ RAwb3.out (HK.out.below HK.out.lt HB.out)).mono ?_); rintro e wr3 ⟨rfl, hb⟩; have n0 := Aside0.mk (blk_below BK1.out hb); have n1 := Aside0.mk (blk_below BK3.out hb); have n2 := Aside0.mk (below_step HB.out hb); clear BK1 BK3 HB; have BK1 := n0; have BK3 := n1; have HB := n2; clear n0 n1 n2; clear hb RAwb3)
    | ((with_reducible refine gate_dst (N := 5) rfl ?_); refine box_event ?hg (N := 5) ?hd (cs := arr zeros32) (t := 25) ?hr ?_; (case hd => rfl); (case hg => rfl); (case hr => first | (go_simp; done) | (go_simp; rfl));
                         intro g5 hg w5 hbox hb; have BK5 := Aside0.mk hbox; have G5 := Aside0.mk (show W.heap.size ≤ g5 by rw [hg]; exact below_size HB.out); have N1_5 := Aside0.mk (show g1 ≠ g5 by rw [hg]; exact Nat.ne_of_lt (blk_lt BK1.out)); have N3_5 := Aside0.mk (show g3 ≠ g5 by rw [hg]; exact Nat.ne_of_lt (blk_lt BK3.out)); have n0 := Aside0.mk (blk_below BK1.out hb); have n1 := Aside0.mk (blk_below BK3.out hb); have n2 := Aside0.mk (below_step HB.out hb); clear BK1 BK3 HB; have BK1 := n0; have BK3 := n1; have HB := n2; clear n0 n1 n2; clear hb hbox hg)
    | ((with_reducible refine gate_store (p := 5) rfl ?_); refine dig_store rfl (.tmp 5) (.tmp 20) rfl g5 (dA) (zeros32) rfl rfl BK5.out (LA.out) (rfl) ?_; intro ws5 bk hoth hbel; have nn := Aside0.mk bk; have n0 := Aside0.mk ((hoth g1 N1_5.out).trans BK1.out); have n1 := Aside0.mk ((hoth g3 N3_5.out).trans BK3.out); have n2 := Aside0.mk (hbel _ _ HB.out G5.out); clear BK1 BK3 HB; have BK1 := n0; have BK3 := n1; have HB := n2; clear n0 n1 n2; clear BK5 bk hoth hbel; have BK5 := nn; clear nn)
    | (go_at_call 18; (with_reducible refine (abc_walk _).mono ?_); rintro e wb3 ⟨Awb3, rfl, hr, hb⟩; have RAwb3 := Aside0.mk hr; have n0 := Aside0.mk (blk_below BK1.out hb); have n1 := Aside0.mk (blk_below BK3.out hb); have n2 := Aside0.mk (below_step HB.out hb); clear BK1 BK3 HB; have BK1 := n0; have BK3 := n1; have HB := n2; clear n0 n1 n2; clear hb hr)
    | (go_at_call 18; (with_reducible refine (abc_walk _).mono ?_); rintro e wb1 ⟨Awb1, rfl, hr, hb⟩; have RAwb1 := Aside0.mk hr; have n0 := Aside0.mk (blk_below BK1.out hb); have n1 := Aside0.mk (below_step HB.out hb); clear BK1 HB; have BK1 := n0; have HB := n1; clear n0 n1; clear hb hr))
  have hb : Below ws5.heap.size ws5 ws5.drew := below_drew (Below.refl _ _)
  refine start_ (n := 40) (S := fun w' => w'.heap[g1]? = some (.cells (arr dN) 25 (0, 0)) ∧ w'.heap[g3]? = some (.cells (arr d1) 25 (0, 0)) ∧ w'.heap[g5]? = some (.cells (arr dA) 25 (0, 0))) (ds := []) #[false, false, false, false, false, false, false, false, false, false, false, false, false, false, false, false, false, false, false, false, false, false, false, false, false, false, false, false, false, false, false, false, false, false, false, false, false, false, false, false] (by kernel_rfl) rfl rfl ⟨blk_below BK1.out hb, blk_below BK3.out hb, blk_below BK5.out hb⟩ (fun hHeld => ?_)
  refine with_tabW alive4_tab alive4_bits (fun HT_ HW_ => ?_)
  have n0 := Aside0.mk (blk_below BK1.out hb)
  have n1 := Aside0.mk (blk_below BK3.out hb)
  have n2 := Aside0.mk (blk_below BK5.out hb)
  have n3 := Aside0.mk (below_step HB.out hb)
  clear BK1 BK3 BK5 HB
  have BK1 := n0
  have BK3 := n1
  have BK5 := n2
  have HB := n3
  clear n0 n1 n2 n3
  clear hb
  generalize ws5.drew = wa at BK1 BK3 BK5 HB hHeld ⊢
  refine pure_ (i := 0) (N := (some 22)) (v := ?_) (a' := ?_) #[true, false, false, false, false, false, false, false, false, false, false, false, false, false, false, false, false, false, false, false, false, false, false, false, false, false, false, false, false, false, false, false, false, false, false, false, false, false, false, false] rfl rfl (any_of HT_.out (by kernel_rfl)) (fun _ _ _ h => h) (Or.inl ⟨by rfl, ?_⟩) ?_ ?_
  rotate_left
  · intro w'
    go_simp
    first | with_reducible rfl | (simp; done) | rfl
  rotate_left
  · simp only [Act.put, List.setIfInBounds_toArray, List.set_cons_zero, List.set_cons_succ, i64_w, i32_w]
    rfl
  refine pure_ (i := 1) (N := (some 23)) (v := ?_) (a' := ?_) #[true, true, false, false, false, false, false, false, false, false, false, false, false, false, false, false, false, false, false, false, false, false, false, false, false, false, false, false, false, false, false, false, false, false, false, false, false, false, false, false] rfl rfl (any_of HT_.out (by kernel_rfl)) (fun _ _ _ h => h) (Or.inl ⟨by rfl, ?_⟩) ?_ ?_
  rotate_left
  · intro w'
    go_simp
    first | with_reducible rfl | (simp; done) | rfl
  rotate_left
  · simp only [Act.put, List.setIfInBounds_toArray, List.set_cons_zero, List.set_cons_succ, i64_w, i32_w]
    rfl
  refine pure_ (i := 2) (N := (some 24)) (v := ?_) (a' := ?_) #[true, true, true, false, false, false, false, false, false, false, false, false, false, false, false, false, false, false, false, false, false, false, false, false, false, false, false, false, false, false, false, false, false, false, false, false, false, false, false, false] rfl rfl (any_of HT_.out (by kernel_rfl)) (fun _ _ _ h => h) (Or.inl ⟨by rfl, ?_⟩) ?_ ?_
  rotate_left
  · intro w'
    go_simp
    first | with_reducible rfl | (simp; done) | rfl
  rotate_left
  · simp only [Act.put, List.setIfInBounds_toArray, List.set_cons_zero, List.set_cons_succ, i64_w, i32_w]
    rfl
  refine take_ (i := 3) (N := (some 25)) (v := ?_) (a' := ?_) #[true, true, true, true, false, false, false, false, false, false, false, false, false, false, false, false, false, false, false, false, false, false, false, false, false, false, false, false, false, false, false, false, false, false, false, false, false, false, false, false] rfl rfl (take_ofW HT_.out HW_.out (by kernel_rfl)) (fun _ _ _ h => h) (Or.inl ⟨by rfl, ?_⟩) hHeld ?_ ?_
  rotate_left
  · rintro w' ⟨s1, s3, s5⟩
    refine dig_load (x := .tmp 1) ?_ ?_ s1 LN.out <;> rfl
  rotate_left
  · simp only [Act.put, List.setIfInBounds_toArray, List.set_cons_zero, List.set_cons_succ, i64_w, i32_w]
    rfl
  refine one_ (i := 4) (N := (some 26)) #[true, true, true, true, true, false, false, false, false, false, false, false, false, false, false, false, false, false, false, false, false, false, false, false, false, false, false, false, false, false, false, false, false, false, false, false, false, false, false, false] rfl rfl (one_of HT_.out (by kernel_rfl)) (by decide) (fun K hK => ?_)
  refine goes_ Tryd.func45 (by kernel_rfl) rfl #[] (by rfl) rfl rfl (by (try simp only [List.map_toArray, List.map_cons, List.map_nil]); first | done | rfl) ?_
  with_reducible refine (HTN.out _ (HK.out.below HK.out.lt HB.out)).mono ?_
  rintro e0 wc1 ⟨rfl, hb⟩
  refine ⟨_, rfl, ?_⟩
  have n0 := Aside0.mk (blk_below BK1.out hb)
  have n1 := Aside0.mk (blk_below BK3.out hb)
  have n2 := Aside0.mk (blk_below BK5.out hb)
  have n3 := Aside0.mk (below_step HB.out hb)
  clear BK1 BK3 BK5 HB
  have BK1 := n0
  have BK3 := n1
  have BK5 := n2
  have HB := n3
  clear n0 n1 n2 n3
  clear hb
  refine hK.out _ _ ⟨BK1.out, BK3.out, BK5.out⟩ (fun hHeld => ?_)
  clear hK K
  refine norm_ (a' := ?_) ?_ ?_
  rotate_left
  · show Act.put _ (some 26) _ = _
    simp only [Act.put, List.setIfInBounds_toArray, List.set_cons_zero, List.set_cons_succ, i64_w, i32_w]
    rfl
  refine pure_ (i := 5) (N := (some 27)) (v := ?_) (a' := ?_) #[true, true, true, true, true, true, false, false, false, false, false, false, false, false, false, false, false, false, false, false, false, false, false, false, false, false, false, false, false, false, false, false, false, false, false, false, false, false, false, false] rfl rfl (any_of HT_.out (by kernel_rfl)) (fun _ _ _ h => h) (Or.inl ⟨by rfl, ?_⟩) ?_ ?_
  rotate_left
  · intro w'
    refine dig_eql (x := .tmp 25) (y := .tmp 26) ?_ ?_ ?_ DN.out <;> rfl
  rotate_left
  · simp only [Act.put, List.setIfInBounds_toArray, List.set_cons_zero, List.set_cons_succ, i64_w, i32_w]
    rfl
  refine pure_ (i := 6) (N := (some 28)) (v := ?_) (a' := ?_) #[true, true, true, true, true, true, true, false, false, false, false, false, false, false, false, false, false, false, false, false, false, false, false, false, false, false, false, false, false, false, false, false, false, false, false, false, false, false, false, false] rfl rfl (any_of HT_.out (by kernel_rfl)) (fun _ _ _ h => h) (Or.inl ⟨by rfl, ?_⟩) ?_ ?_
  rotate_left
  · intro w'
    go_simp
    first | with_reducible rfl | (simp; done) | rfl
  rotate_left
  · simp only [Act.put, List.setIfInBounds_toArray, List.set_cons_zero, List.set_cons_succ, i64_w, i32_w]
    rfl
  refine pure_ (i := 7) (N := (some 29)) (v := ?_) (a' := ?_) #[true, true, true, true, true, true, true, true, false, false, false, false, false, false, false, false, false, false, false, false, false, false, false, false, false, false, false, false, false, false, false, false, false, false, false, false, false, false, false, false] rfl rfl (any_of HT_.out (by kernel_rfl)) (fun _ _ _ h => h) (Or.inl ⟨by rfl, ?_⟩) ?_ ?_
  rotate_left
  · intro w'
    go_simp
    first | with_reducible rfl | (simp; done) | rfl
  rotate_left
  · simp only [Act.put, List.setIfInBounds_toArray, List.set_cons_zero, List.set_cons_succ, i64_w, i32_w]
    rfl
  refine pure_ (i := 8) (N := (some 30)) (v := ?_) (a' := ?_) #[true, true, true, true, true, true, true, true, true, false, false, false, false, false, false, false, false, false, false, false, false, false, false, false, false, false, false, false, false, false, false, false, false, false, false, false, false, false, false, false] rfl rfl (any_of HT_.out (by kernel_rfl)) (fun _ _ _ h => h) (Or.inl ⟨by rfl, ?_⟩) ?_ ?_
  rotate_left
  · intro w'
    go_simp
    first | with_reducible rfl | (simp; done) | rfl
  rotate_left
  · simp only [Act.put, List.setIfInBounds_toArray, List.set_cons_zero, List.set_cons_succ, i64_w, i32_w]
    rfl
  refine pure_ (i := 9) (N := (some 31)) (v := ?_) (a' := ?_) #[true, true, true, true, true, true, true, true, true, true, false, false, false, false, false, false, false, false, false, false, false, false, false, false, false, false, false, false, false, false, false, false, false, false, false, false, false, false, false, false] rfl rfl (any_of HT_.out (by kernel_rfl)) (fun _ _ _ h => h) (Or.inl ⟨by rfl, ?_⟩) ?_ ?_
  rotate_left
  · intro w'
    go_simp
    first | with_reducible rfl | (simp; done) | rfl
  rotate_left
  · simp only [Act.put, List.setIfInBounds_toArray, List.set_cons_zero, List.set_cons_succ, i64_w, i32_w]
    rfl
  refine pure_ (i := 10) (N := (some 32)) (v := ?_) (a' := ?_) #[true, true, true, true, true, true, true, true, true, true, true, false, false, false, false, false, false, false, false, false, false, false, false, false, false, false, false, false, false, false, false, false, false, false, false, false, false, false, false, false] rfl rfl (any_of HT_.out (by kernel_rfl)) (fun _ _ _ h => h) (Or.inl ⟨by rfl, ?_⟩) ?_ ?_
  rotate_left
  · intro w'
    go_simp
    first | with_reducible rfl | (simp; done) | rfl
  rotate_left
  · simp only [Act.put, List.setIfInBounds_toArray, List.set_cons_zero, List.set_cons_succ, i64_w, i32_w]
    rfl
  refine pure_ (i := 11) (N := (some 33)) (v := ?_) (a' := ?_) #[true, true, true, true, true, true, true, true, true, true, true, true, false, false, false, false, false, false, false, false, false, false, false, false, false, false, false, false, false, false, false, false, false, false, false, false, false, false, false, false] rfl rfl (any_of HT_.out (by kernel_rfl)) (fun _ _ _ h => h) (Or.inl ⟨by rfl, ?_⟩) ?_ ?_
  rotate_left
  · intro w'
    go_simp
    first | with_reducible rfl | (simp; done) | rfl
  rotate_left
  · simp only [Act.put, List.setIfInBounds_toArray, List.set_cons_zero, List.set_cons_succ, i64_w, i32_w]
    rfl
  refine take_ (i := 12) (N := (some 34)) (v := ?_) (a' := ?_) #[true, true, true, true, true, true, true, true, true, true, true, true, true, false, false, false, false, false, false, false, false, false, false, false, false, false, false, false, false, false, false, false, false, false, false, false, false, false, false, false] rfl rfl (take_ofW HT_.out HW_.out (by kernel_rfl)) (fun _ _ _ h => h) (Or.inl ⟨by rfl, ?_⟩) hHeld ?_ ?_
  rotate_left
  · rintro w' ⟨s1, s3, s5⟩
    refine dig_load (x := .tmp 3) ?_ ?_ s3 L1.out <;> rfl
  rotate_left
  · simp only [Act.put, List.setIfInBounds_toArray, List.set_cons_zero, List.set_cons_succ, i64_w, i32_w]
    rfl
  refine one_ (i := 13) (N := (some 35)) #[true, true, true, true, true, true, true, true, true, true, true, true, true, true, false, false, false, false, false, false, false, false, false, false, false, false, false, false, false, false, false, false, false, false, false, false, false, false, false, false] rfl rfl (one_of HT_.out (by kernel_rfl)) (by decide) (fun K hK => ?_)
  refine goes_ Tryd.func23 (by kernel_rfl) rfl #[.string ⟨#[97]⟩] (by rfl) rfl rfl (by (try simp only [List.map_toArray, List.map_cons, List.map_nil]); first | done | rfl) ?_
  with_reducible refine (HLA.out _ (HK.out.below HK.out.lt HB.out)).mono ?_
  rintro e0 wc2 ⟨rfl, hb⟩
  refine ⟨_, rfl, ?_⟩
  have n0 := Aside0.mk (blk_below BK1.out hb)
  have n1 := Aside0.mk (blk_below BK3.out hb)
  have n2 := Aside0.mk (blk_below BK5.out hb)
  have n3 := Aside0.mk (below_step HB.out hb)
  clear BK1 BK3 BK5 HB
  have BK1 := n0
  have BK3 := n1
  have BK5 := n2
  have HB := n3
  clear n0 n1 n2 n3
  clear hb
  refine hK.out _ _ ⟨BK1.out, BK3.out, BK5.out⟩ (fun hHeld => ?_)
  clear hK K
  refine norm_ (a' := ?_) ?_ ?_
  rotate_left
  · show Act.put _ (some 35) _ = _
    simp only [Act.put, List.setIfInBounds_toArray, List.set_cons_zero, List.set_cons_succ, i64_w, i32_w]
    rfl
  refine pure_ (i := 14) (N := (some 36)) (v := ?_) (a' := ?_) #[true, true, true, true, true, true, true, true, true, true, true, true, true, true, true, false, false, false, false, false, false, false, false, false, false, false, false, false, false, false, false, false, false, false, false, false, false, false, false, false] rfl rfl (any_of HT_.out (by kernel_rfl)) (fun _ _ _ h => h) (Or.inl ⟨by rfl, ?_⟩) ?_ ?_
  rotate_left
  · intro w'
    refine dig_eql (x := .tmp 34) (y := .tmp 35) ?_ ?_ ?_ D1.out <;> rfl
  rotate_left
  · simp only [Act.put, List.setIfInBounds_toArray, List.set_cons_zero, List.set_cons_succ, i64_w, i32_w]
    rfl
  refine pure_ (i := 15) (N := (some 37)) (v := ?_) (a' := ?_) #[true, true, true, true, true, true, true, true, true, true, true, true, true, true, true, true, false, false, false, false, false, false, false, false, false, false, false, false, false, false, false, false, false, false, false, false, false, false, false, false] rfl rfl (any_of HT_.out (by kernel_rfl)) (fun _ _ _ h => h) (Or.inl ⟨by rfl, ?_⟩) ?_ ?_
  rotate_left
  · intro w'
    go_simp
    first | with_reducible rfl | (simp; done) | rfl
  rotate_left
  · simp only [Act.put, List.setIfInBounds_toArray, List.set_cons_zero, List.set_cons_succ, i64_w, i32_w]
    rfl
  refine pure_ (i := 16) (N := (some 38)) (v := ?_) (a' := ?_) #[true, true, true, true, true, true, true, true, true, true, true, true, true, true, true, true, true, false, false, false, false, false, false, false, false, false, false, false, false, false, false, false, false, false, false, false, false, false, false, false] rfl rfl (any_of HT_.out (by kernel_rfl)) (fun _ _ _ h => h) (Or.inl ⟨by rfl, ?_⟩) ?_ ?_
  rotate_left
  · intro w'
    go_simp
    first | with_reducible rfl | (simp; done) | rfl
  rotate_left
  · simp only [Act.put, List.setIfInBounds_toArray, List.set_cons_zero, List.set_cons_succ, i64_w, i32_w]
    rfl
  refine pure_ (i := 17) (N := (some 39)) (v := ?_) (a' := ?_) #[true, true, true, true, true, true, true, true, true, true, true, true, true, true, true, true, true, true, false, false, false, false, false, false, false, false, false, false, false, false, false, false, false, false, false, false, false, false, false, false] rfl rfl (any_of HT_.out (by kernel_rfl)) (fun _ _ _ h => h) (Or.inl ⟨by rfl, ?_⟩) ?_ ?_
  rotate_left
  · intro w'
    go_simp
    first | with_reducible rfl | (simp; done) | rfl
  rotate_left
  · simp only [Act.put, List.setIfInBounds_toArray, List.set_cons_zero, List.set_cons_succ, i64_w, i32_w]
    rfl
  refine pure_ (i := 18) (N := (some 40)) (v := ?_) (a' := ?_) #[true, true, true, true, true, true, true, true, true, true, true, true, true, true, true, true, true, true, true, false, false, false, false, false, false, false, false, false, false, false, false, false, false, false, false, false, false, false, false, false] rfl rfl (any_of HT_.out (by kernel_rfl)) (fun _ _ _ h => h) (Or.inl ⟨by rfl, ?_⟩) ?_ ?_
  rotate_left
  · intro w'
    go_simp
    first | with_reducible rfl | (simp; done) | rfl
  rotate_left
  · simp only [Act.put, List.setIfInBounds_toArray, List.set_cons_zero, List.set_cons_succ, i64_w, i32_w]
    rfl
  refine pure_ (i := 19) (N := (some 41)) (v := ?_) (a' := ?_) #[true, true, true, true, true, true, true, true, true, true, true, true, true, true, true, true, true, true, true, true, false, false, false, false, false, false, false, false, false, false, false, false, false, false, false, false, false, false, false, false] rfl rfl (any_of HT_.out (by kernel_rfl)) (fun _ _ _ h => h) (Or.inl ⟨by rfl, ?_⟩) ?_ ?_
  rotate_left
  · intro w'
    go_simp
    first | with_reducible rfl | (simp; done) | rfl
  rotate_left
  · simp only [Act.put, List.setIfInBounds_toArray, List.set_cons_zero, List.set_cons_succ, i64_w, i32_w]
    rfl
  refine pure_ (i := 20) (N := (some 42)) (v := ?_) (a' := ?_) #[true, true, true, true, true, true, true, true, true, true, true, true, true, true, true, true, true, true, true, true, true, false, false, false, false, false, false, false, false, false, false, false, false, false, false, false, false, false, false, false] rfl rfl (any_of HT_.out (by kernel_rfl)) (fun _ _ _ h => h) (Or.inl ⟨by rfl, ?_⟩) ?_ ?_
  rotate_left
  · intro w'
    go_simp
    first | with_reducible rfl | (simp; done) | rfl
  rotate_left
  · simp only [Act.put, List.setIfInBounds_toArray, List.set_cons_zero, List.set_cons_succ, i64_w, i32_w]
    rfl
  refine take_ (i := 21) (N := (some 43)) (v := ?_) (a' := ?_) #[true, true, true, true, true, true, true, true, true, true, true, true, true, true, true, true, true, true, true, true, true, true, false, false, false, false, false, false, false, false, false, false, false, false, false, false, false, false, false, false] rfl rfl (take_ofW HT_.out HW_.out (by kernel_rfl)) (fun _ _ _ h => h) (Or.inl ⟨by rfl, ?_⟩) hHeld ?_ ?_
  rotate_left
  · rintro w' ⟨s1, s3, s5⟩
    refine dig_load (x := .tmp 5) ?_ ?_ s5 LA.out <;> rfl
  rotate_left
  · simp only [Act.put, List.setIfInBounds_toArray, List.set_cons_zero, List.set_cons_succ, i64_w, i32_w]
    rfl
  refine one_ (i := 22) (N := (some 44)) #[true, true, true, true, true, true, true, true, true, true, true, true, true, true, true, true, true, true, true, true, true, true, true, false, false, false, false, false, false, false, false, false, false, false, false, false, false, false, false, false] rfl rfl (one_of HT_.out (by kernel_rfl)) (by decide) (fun K hK => ?_)
  refine goes_ Tryd.func23 (by kernel_rfl) rfl #[.string ⟨#[97]⟩] (by rfl) rfl rfl (by (try simp only [List.map_toArray, List.map_cons, List.map_nil]); first | done | rfl) ?_
  with_reducible refine (HLA.out _ (HK.out.below HK.out.lt HB.out)).mono ?_
  rintro e0 wc3 ⟨rfl, hb⟩
  refine ⟨_, rfl, ?_⟩
  have n0 := Aside0.mk (blk_below BK1.out hb)
  have n1 := Aside0.mk (blk_below BK3.out hb)
  have n2 := Aside0.mk (blk_below BK5.out hb)
  have n3 := Aside0.mk (below_step HB.out hb)
  clear BK1 BK3 BK5 HB
  have BK1 := n0
  have BK3 := n1
  have BK5 := n2
  have HB := n3
  clear n0 n1 n2 n3
  clear hb
  refine hK.out _ _ ⟨BK1.out, BK3.out, BK5.out⟩ (fun hHeld => ?_)
  clear hK K
  refine norm_ (a' := ?_) ?_ ?_
  rotate_left
  · show Act.put _ (some 44) _ = _
    simp only [Act.put, List.setIfInBounds_toArray, List.set_cons_zero, List.set_cons_succ, i64_w, i32_w]
    rfl
  refine one_ (i := 23) (N := (some 45)) #[true, true, true, true, true, true, true, true, true, true, true, true, true, true, true, true, true, true, true, true, true, true, true, true, false, false, false, false, false, false, false, false, false, false, false, false, false, false, false, false] rfl rfl (one_of HT_.out (by kernel_rfl)) (by decide) (fun K hK => ?_)
  refine goes_ Tryd.func23 (by kernel_rfl) rfl #[.string ⟨#[98]⟩] (by rfl) rfl rfl (by (try simp only [List.map_toArray, List.map_cons, List.map_nil]); first | done | rfl) ?_
  with_reducible refine (HLB.out _ (HK.out.below HK.out.lt HB.out)).mono ?_
  rintro e0 wc4 ⟨rfl, hb⟩
  refine ⟨_, rfl, ?_⟩
  have n0 := Aside0.mk (blk_below BK1.out hb)
  have n1 := Aside0.mk (blk_below BK3.out hb)
  have n2 := Aside0.mk (blk_below BK5.out hb)
  have n3 := Aside0.mk (below_step HB.out hb)
  clear BK1 BK3 BK5 HB
  have BK1 := n0
  have BK3 := n1
  have BK5 := n2
  have HB := n3
  clear n0 n1 n2 n3
  clear hb
  refine hK.out _ _ ⟨BK1.out, BK3.out, BK5.out⟩ (fun hHeld => ?_)
  clear hK K
  refine norm_ (a' := ?_) ?_ ?_
  rotate_left
  · show Act.put _ (some 45) _ = _
    simp only [Act.put, List.setIfInBounds_toArray, List.set_cons_zero, List.set_cons_succ, i64_w, i32_w]
    rfl
  refine one_ (i := 24) (N := (some 46)) #[true, true, true, true, true, true, true, true, true, true, true, true, true, true, true, true, true, true, true, true, true, true, true, true, true, false, false, false, false, false, false, false, false, false, false, false, false, false, false, false] rfl rfl (one_of HT_.out (by kernel_rfl)) (by decide) (fun K hK => ?_)
  refine goes_ Tryd.func24 (by kernel_rfl) rfl #[.agg (arr d1), .agg (arr dB)] (by rfl) rfl rfl (by (try simp only [List.map_toArray, List.map_cons, List.map_nil]); first | done | rfl) ?_
  with_reducible refine (HF1.out _ (HK.out.below HK.out.lt HB.out)).mono ?_
  rintro e0 wc5 ⟨rfl, hb⟩
  refine ⟨_, rfl, ?_⟩
  have n0 := Aside0.mk (blk_below BK1.out hb)
  have n1 := Aside0.mk (blk_below BK3.out hb)
  have n2 := Aside0.mk (blk_below BK5.out hb)
  have n3 := Aside0.mk (below_step HB.out hb)
  clear BK1 BK3 BK5 HB
  have BK1 := n0
  have BK3 := n1
  have BK5 := n2
  have HB := n3
  clear n0 n1 n2 n3
  clear hb
  refine hK.out _ _ ⟨BK1.out, BK3.out, BK5.out⟩ (fun hHeld => ?_)
  clear hK K
  refine norm_ (a' := ?_) ?_ ?_
  rotate_left
  · show Act.put _ (some 46) _ = _
    simp only [Act.put, List.setIfInBounds_toArray, List.set_cons_zero, List.set_cons_succ, i64_w, i32_w]
    rfl
  refine one_ (i := 25) (N := (some 47)) #[true, true, true, true, true, true, true, true, true, true, true, true, true, true, true, true, true, true, true, true, true, true, true, true, true, true, false, false, false, false, false, false, false, false, false, false, false, false, false, false] rfl rfl (one_of HT_.out (by kernel_rfl)) (by decide) (fun K hK => ?_)
  refine goes_ Tryd.func23 (by kernel_rfl) rfl #[.string ⟨#[99]⟩] (by rfl) rfl rfl (by (try simp only [List.map_toArray, List.map_cons, List.map_nil]); first | done | rfl) ?_
  with_reducible refine (HLC.out _ (HK.out.below HK.out.lt HB.out)).mono ?_
  rintro e0 wc6 ⟨rfl, hb⟩
  refine ⟨_, rfl, ?_⟩
  have n0 := Aside0.mk (blk_below BK1.out hb)
  have n1 := Aside0.mk (blk_below BK3.out hb)
  have n2 := Aside0.mk (blk_below BK5.out hb)
  have n3 := Aside0.mk (below_step HB.out hb)
  clear BK1 BK3 BK5 HB
  have BK1 := n0
  have BK3 := n1
  have BK5 := n2
  have HB := n3
  clear n0 n1 n2 n3
  clear hb
  refine hK.out _ _ ⟨BK1.out, BK3.out, BK5.out⟩ (fun hHeld => ?_)
  clear hK K
  refine norm_ (a' := ?_) ?_ ?_
  rotate_left
  · show Act.put _ (some 47) _ = _
    simp only [Act.put, List.setIfInBounds_toArray, List.set_cons_zero, List.set_cons_succ, i64_w, i32_w]
    rfl
  refine one_ (i := 26) (N := (some 48)) #[true, true, true, true, true, true, true, true, true, true, true, true, true, true, true, true, true, true, true, true, true, true, true, true, true, true, true, false, false, false, false, false, false, false, false, false, false, false, false, false] rfl rfl (one_of HT_.out (by kernel_rfl)) (by decide) (fun K hK => ?_)
  refine goes_ Tryd.func24 (by kernel_rfl) rfl #[.agg (arr dF), .agg (arr dC)] (by rfl) rfl rfl (by (try simp only [List.map_toArray, List.map_cons, List.map_nil]); first | done | rfl) ?_
  with_reducible refine (HF2.out _ (HK.out.below HK.out.lt HB.out)).mono ?_
  rintro e0 wc7 ⟨rfl, hb⟩
  refine ⟨_, rfl, ?_⟩
  have n0 := Aside0.mk (blk_below BK1.out hb)
  have n1 := Aside0.mk (blk_below BK3.out hb)
  have n2 := Aside0.mk (blk_below BK5.out hb)
  have n3 := Aside0.mk (below_step HB.out hb)
  clear BK1 BK3 BK5 HB
  have BK1 := n0
  have BK3 := n1
  have BK5 := n2
  have HB := n3
  clear n0 n1 n2 n3
  clear hb
  refine hK.out _ _ ⟨BK1.out, BK3.out, BK5.out⟩ (fun hHeld => ?_)
  clear hK K
  refine norm_ (a' := ?_) ?_ ?_
  rotate_left
  · show Act.put _ (some 48) _ = _
    simp only [Act.put, List.setIfInBounds_toArray, List.set_cons_zero, List.set_cons_succ, i64_w, i32_w]
    rfl
  refine pure_ (i := 27) (N := (some 49)) (v := ?_) (a' := ?_) #[true, true, true, true, true, true, true, true, true, true, true, true, true, true, true, true, true, true, true, true, true, true, true, true, true, true, true, true, false, false, false, false, false, false, false, false, false, false, false, false] rfl rfl (any_of HT_.out (by kernel_rfl)) (fun _ _ _ h => h) (Or.inl ⟨by rfl, ?_⟩) ?_ ?_
  rotate_left
  · intro w'
    refine dig_eql (x := .tmp 43) (y := .tmp 48) ?_ ?_ ?_ DA.out <;> rfl
  rotate_left
  · simp only [Act.put, List.setIfInBounds_toArray, List.set_cons_zero, List.set_cons_succ, i64_w, i32_w]
    rfl
  refine pure_ (i := 28) (N := (some 50)) (v := ?_) (a' := ?_) #[true, true, true, true, true, true, true, true, true, true, true, true, true, true, true, true, true, true, true, true, true, true, true, true, true, true, true, true, true, false, false, false, false, false, false, false, false, false, false, false] rfl rfl (any_of HT_.out (by kernel_rfl)) (fun _ _ _ h => h) (Or.inl ⟨by rfl, ?_⟩) ?_ ?_
  rotate_left
  · intro w'
    go_simp
    first | with_reducible rfl | (simp; done) | rfl
  rotate_left
  · simp only [Act.put, List.setIfInBounds_toArray, List.set_cons_zero, List.set_cons_succ, i64_w, i32_w]
    rfl
  refine pure_ (i := 29) (N := (some 51)) (v := ?_) (a' := ?_) #[true, true, true, true, true, true, true, true, true, true, true, true, true, true, true, true, true, true, true, true, true, true, true, true, true, true, true, true, true, true, false, false, false, false, false, false, false, false, false, false] rfl rfl (any_of HT_.out (by kernel_rfl)) (fun _ _ _ h => h) (Or.inl ⟨by rfl, ?_⟩) ?_ ?_
  rotate_left
  · intro w'
    go_simp
    first | with_reducible rfl | (simp; done) | rfl
  rotate_left
  · simp only [Act.put, List.setIfInBounds_toArray, List.set_cons_zero, List.set_cons_succ, i64_w, i32_w]
    rfl
  refine take_ (i := 30) (N := (some 52)) (v := ?_) (a' := ?_) #[true, true, true, true, true, true, true, true, true, true, true, true, true, true, true, true, true, true, true, true, true, true, true, true, true, true, true, true, true, true, true, false, false, false, false, false, false, false, false, false] rfl rfl (take_ofW HT_.out HW_.out (by kernel_rfl)) (fun _ _ _ h => h) (Or.inl ⟨by rfl, ?_⟩) hHeld ?_ ?_
  rotate_left
  · rintro w' ⟨s1, s3, s5⟩
    refine dig_load (x := .tmp 3) ?_ ?_ s3 L1.out <;> rfl
  rotate_left
  · simp only [Act.put, List.setIfInBounds_toArray, List.set_cons_zero, List.set_cons_succ, i64_w, i32_w]
    rfl
  refine take_ (i := 31) (N := (some 53)) (v := ?_) (a' := ?_) #[true, true, true, true, true, true, true, true, true, true, true, true, true, true, true, true, true, true, true, true, true, true, true, true, true, true, true, true, true, true, true, true, false, false, false, false, false, false, false, false] rfl rfl (take_ofW HT_.out HW_.out (by kernel_rfl)) (fun _ _ _ h => h) (Or.inl ⟨by rfl, ?_⟩) hHeld ?_ ?_
  rotate_left
  · rintro w' ⟨s1, s3, s5⟩
    refine dig_load (x := .tmp 1) ?_ ?_ s1 LN.out <;> rfl
  rotate_left
  · simp only [Act.put, List.setIfInBounds_toArray, List.set_cons_zero, List.set_cons_succ, i64_w, i32_w]
    rfl
  refine pure_ (i := 32) (N := (some 54)) (v := ?_) (a' := ?_) #[true, true, true, true, true, true, true, true, true, true, true, true, true, true, true, true, true, true, true, true, true, true, true, true, true, true, true, true, true, true, true, true, true, false, false, false, false, false, false, false] rfl rfl (any_of HT_.out (by kernel_rfl)) (fun _ _ _ h => h) (Or.inl ⟨by rfl, ?_⟩) ?_ ?_
  rotate_left
  · intro w'
    refine dig_neq (x := .tmp 52) (y := .tmp 53) ?_ ?_ ?_ D1.out DN.out NE1.out <;> rfl
  rotate_left
  · simp only [Act.put, List.setIfInBounds_toArray, List.set_cons_zero, List.set_cons_succ, i64_w, i32_w]
    rfl
  refine pure_ (i := 33) (N := (some 55)) (v := ?_) (a' := ?_) #[true, true, true, true, true, true, true, true, true, true, true, true, true, true, true, true, true, true, true, true, true, true, true, true, true, true, true, true, true, true, true, true, true, true, false, false, false, false, false, false] rfl rfl (any_of HT_.out (by kernel_rfl)) (fun _ _ _ h => h) (Or.inl ⟨by rfl, ?_⟩) ?_ ?_
  rotate_left
  · intro w'
    go_simp
    first | with_reducible rfl | (simp; done) | rfl
  rotate_left
  · simp only [Act.put, List.setIfInBounds_toArray, List.set_cons_zero, List.set_cons_succ, i64_w, i32_w]
    rfl
  refine pure_ (i := 34) (N := (some 56)) (v := ?_) (a' := ?_) #[true, true, true, true, true, true, true, true, true, true, true, true, true, true, true, true, true, true, true, true, true, true, true, true, true, true, true, true, true, true, true, true, true, true, true, false, false, false, false, false] rfl rfl (any_of HT_.out (by kernel_rfl)) (fun _ _ _ h => h) (Or.inl ⟨by rfl, ?_⟩) ?_ ?_
  rotate_left
  · intro w'
    go_simp
    first | with_reducible rfl | (simp; done) | rfl
  rotate_left
  · simp only [Act.put, List.setIfInBounds_toArray, List.set_cons_zero, List.set_cons_succ, i64_w, i32_w]
    rfl
  refine take_ (i := 35) (N := (some 57)) (v := ?_) (a' := ?_) #[true, true, true, true, true, true, true, true, true, true, true, true, true, true, true, true, true, true, true, true, true, true, true, true, true, true, true, true, true, true, true, true, true, true, true, true, false, false, false, false] rfl rfl (take_ofW HT_.out HW_.out (by kernel_rfl)) (fun _ _ _ h => h) (Or.inl ⟨by rfl, ?_⟩) hHeld ?_ ?_
  rotate_left
  · rintro w' ⟨s1, s3, s5⟩
    refine dig_load (x := .tmp 5) ?_ ?_ s5 LA.out <;> rfl
  rotate_left
  · simp only [Act.put, List.setIfInBounds_toArray, List.set_cons_zero, List.set_cons_succ, i64_w, i32_w]
    rfl
  refine take_ (i := 36) (N := (some 58)) (v := ?_) (a' := ?_) #[true, true, true, true, true, true, true, true, true, true, true, true, true, true, true, true, true, true, true, true, true, true, true, true, true, true, true, true, true, true, true, true, true, true, true, true, true, false, false, false] rfl rfl (take_ofW HT_.out HW_.out (by kernel_rfl)) (fun _ _ _ h => h) (Or.inl ⟨by rfl, ?_⟩) hHeld ?_ ?_
  rotate_left
  · rintro w' ⟨s1, s3, s5⟩
    refine dig_load (x := .tmp 3) ?_ ?_ s3 L1.out <;> rfl
  rotate_left
  · simp only [Act.put, List.setIfInBounds_toArray, List.set_cons_zero, List.set_cons_succ, i64_w, i32_w]
    rfl
  refine pure_ (i := 37) (N := (some 59)) (v := ?_) (a' := ?_) #[true, true, true, true, true, true, true, true, true, true, true, true, true, true, true, true, true, true, true, true, true, true, true, true, true, true, true, true, true, true, true, true, true, true, true, true, true, true, false, false] rfl rfl (any_of HT_.out (by kernel_rfl)) (fun _ _ _ h => h) (Or.inl ⟨by rfl, ?_⟩) ?_ ?_
  rotate_left
  · intro w'
    refine dig_neq (x := .tmp 57) (y := .tmp 58) ?_ ?_ ?_ DA.out D1.out NEA.out <;> rfl
  rotate_left
  · simp only [Act.put, List.setIfInBounds_toArray, List.set_cons_zero, List.set_cons_succ, i64_w, i32_w]
    rfl
  refine pure_ (i := 38) (N := (some 60)) (v := ?_) (a' := ?_) #[true, true, true, true, true, true, true, true, true, true, true, true, true, true, true, true, true, true, true, true, true, true, true, true, true, true, true, true, true, true, true, true, true, true, true, true, true, true, true, false] rfl rfl (any_of HT_.out (by kernel_rfl)) (fun _ _ _ h => h) (Or.inl ⟨by rfl, ?_⟩) ?_ ?_
  rotate_left
  · intro w'
    go_simp
    first | with_reducible rfl | (simp; done) | rfl
  rotate_left
  · simp only [Act.put, List.setIfInBounds_toArray, List.set_cons_zero, List.set_cons_succ, i64_w, i32_w]
    rfl
  refine pure_ (i := 39) (N := (some 0)) (v := ?_) (a' := ?_) #[true, true, true, true, true, true, true, true, true, true, true, true, true, true, true, true, true, true, true, true, true, true, true, true, true, true, true, true, true, true, true, true, true, true, true, true, true, true, true, true] rfl rfl (any_of HT_.out (by kernel_rfl)) (fun _ _ _ h => h) (Or.inl ⟨by rfl, ?_⟩) ?_ ?_
  rotate_left
  · intro w'
    go_simp
    first | with_reducible rfl | (simp; done) | rfl
  rotate_left
  · simp only [Act.put, List.setIfInBounds_toArray, List.set_cons_zero, List.set_cons_succ, i64_w, i32_w]
    rfl
  refine done_ (done_of HT_.out (by kernel_rfl)) ?_
  go_wp2
  go_ret
  exact ⟨rfl, HB.out⟩
end Go.Proofs.YtoaimcobcgomjaaDoor.Q
namespace Go.Proofs.YtoaimcobcgomjaaDoor.Q
open Go.RowKit Go.Proofs.YtoaimcobcgomjaaDoorW.PrintWords Go.Proofs.YtoaimcobcgomjaaDoorW.PrintLast Go.Proofs.YtoaimcobcgomjaaDoorW.PrintMore
set_option linter.unusedVariables false
set_option linter.unusedSimpArgs false
theorem dig_load_at {o : Oper} {a : Act} {W : World} {x : Operand} {e : Addr} {ds : List Int} (ho : o.op = .load 25 x) (hx : a.eval x = .pointer (some e)) (hl : ds.length = 32) (hc : ∀ i, i < 32 → W.cell? (e.add i) = some (.int .u8 (rd ds (i : Int)))) :
    (execOp a.eval o).run Tryd.prog W = .ok (.value (.agg (arr ds))) W := by
  unfold execOp
  simp only [ho, hx, Instr.loadAt, Instr.sureAddr, Sem.run_bind, Sem.run_pure, Result.andThen_ok, run_loadVar_dig W e ds hl hc]
theorem dig_neqB {o : Oper} {a : Act} {W : World} {x y : Operand} {ds es : List Int} {b : Bool} (ho : o.op = .binOp .neq 25 x y 25) (hx : a.eval x = .agg (arr ds)) (hy : a.eval y = .agg (arr es)) (hd : Dig ds) (he : Dig es) (hb : decide (ds = es) = b) :
    (execOp a.eval o).run Tryd.prog W = .ok (.value (.bool (!b))) W := by
  have := run_neq_dig ds es hd he W
  rw [hb] at this
  unfold execOp
  simp only [ho, hx, hy]
  have hg := run_eqGuard_agg W .neq 25 x y (arr ds) (arr es) eqg_dig
  simp [this, hg, Sem.run_bind, Result.andThen]
theorem take_eq_snoc {α : Type} {l o : List α} {k : Nat} {x y : α} (hl : l[k]? = some x) (ho : o[k]? = some y) (h : l.take k = o.take k) (e : x = y) : l.take (k + 1) = o.take (k + 1) := by
  subst e
  rw [List.take_add_one, List.take_add_one, h, hl, ho]
def same6_T : Bool × List (List Nat × List Nat) := (true, [([], []), ([], []), ([0, 1], [0, 1]), ([2], [2]), ([], []), ([], []), ([4, 5], [4, 5]), ([6], [6]), ([3, 7], [3, 7])])
def same6_B : List Nat := [0, 0, 3, 7, 0, 0, 48, 112, 255]
theorem same6_tab : rtab .any (opsOf Tryd.f22 6) = same6_T := by kernel_rfl
theorem same6_bits : waitsOk same6_T.2 same6_B = true := by kernel_rfl
set_option maxHeartbeats 8000000 in
set_option maxRecDepth 100000 in
theorem sameD_walk (A1 A2 : Option Addr) (n1 c1 n2 c2 : Nat) (l o : List (List Int)) (W : World) (b1 : Digs W A1 n1 c1 l) (b2 : Digs W A2 n2 c2 o) :
    Calls Tryd.prog 22 #[.slice A1 n1 c1, .slice A2 n2 c2] W fun e W' => e = .returned (.bool (decide (l = o))) ∧ Below W.heap.size W W' := by
  have hl := b1.len
  have ho := b2.len
  have m1 : n1 ≤ 9223372036854775807 := by have := b1.le; have := b1.max; omega
  have m2 : n2 ≤ 9223372036854775807 := by have := b2.le; have := b2.max; omega
  have HB := Aside0.mk (Below.refl W.heap.size W)
  by_cases hn : n1 = n2
  · subst hn
    have HL := Aside0.mk hl
    have HO := Aside0.mk ho
    have B1 := Aside0.mk b1
    have B2 := Aside0.mk b2
    clear hl ho b1 b2 m2
    go_enter Tryd.func22, Tryd.ntmps22
    go_wp2
    go_loopw [5] (fun x wr => ∃ k : Nat, k ≤ n1 ∧ x = .int .i64 (k : Int) ∧ Aside0 (l.take k = o.take k) ∧ Aside0 (Below W.heap.size W wr)) (fun x _ => n1 - (intOf x).toNat)
    case atStart => exact ⟨0, by omega, rfl, ⟨rfl⟩, HB⟩
    case round =>
      obtain ⟨k, hk, rfl, hall, hB⟩ := hrel
      clear HB
      have HB := hB
      clear hB
      by_cases hlt : k < n1
      · obtain ⟨x, hx⟩ : ∃ x, l[k]? = some x := ⟨_, List.getElem?_eq_getElem (by rw [HL.out]; exact hlt)⟩
        obtain ⟨y, hy⟩ : ∃ y, o[k]? = some y := ⟨_, List.getElem?_eq_getElem (by rw [HO.out]; exact hlt)⟩
        obtain ⟨hkl, ex⟩ := List.getElem?_eq_some_iff.1 hx
        obtain ⟨hko, ey⟩ := List.getElem?_eq_some_iff.1 hy
        obtain ⟨ad1, hA1, c1'⟩ := (B1.out.below HB.out).at_ k hkl
        obtain ⟨ad2, hA2, c2'⟩ := (B2.out.below HB.out).at_ k hko
        rw [ex] at c1'
        rw [ey] at c2'
        have DX : Aside0 (Dig x) := ⟨B1.out.dg x (List.mem_of_getElem? hx)⟩
        have DY : Aside0 (Dig y) := ⟨B2.out.dg y (List.mem_of_getElem? hy)⟩
        have C1 : Aside0 (∀ i, i < 32 → wr.cell? ((ad1.add (k * 32)).add i) = some (.int .u8 (rd x (i : Int)))) := ⟨fun i hi => by rw [addr_add]; exact c1' i hi⟩
        have C2 : Aside0 (∀ i, i < 32 → wr.cell? ((ad2.add (k * 32)).add i) = some (.int .u8 (rd y (i : Int)))) := ⟨fun i hi => by rw [addr_add]; exact c2' i hi⟩
        have HX := Aside0.mk hx
        have HY := Aside0.mk hy
        subst hA1
        subst hA2
        have i1 := fun W => idx_dgs ad1 n1 c1 k hlt W
        have i2 := fun W => idx_dgs ad2 n1 c2 k hlt W
        clear hx hy ex ey c1' c2' hkl hko
        by_cases hxy : x = y
        · have EQ : Aside0 (decide (x = y) = true) := ⟨decide_eq_true hxy⟩
          have HXY := Aside0.mk hxy
          clear hxy
          go_wp2
          have hb : Below wr.heap.size wr wr.drew := below_drew (Below.refl _ _)
          refine start_ (n := 9) (S := fun w' => (∀ i, i < 32 → w'.cell? ((ad1.add (k * 32)).add i) = some (.int .u8 (rd x (i : Int)))) ∧ (∀ i, i < 32 → w'.cell? ((ad2.add (k * 32)).add i) = some (.int .u8 (rd y (i : Int))))) (ds := []) #[false, false, false, false, false, false, false, false, false] (by kernel_rfl) rfl rfl ⟨fun i hi => cell_below (C1.out i hi) hb, fun i hi => cell_below (C2.out i hi) hb⟩ (fun hHeld => ?_)
          refine with_tabW same6_tab same6_bits (fun HT_ HW_ => ?_)
          have n0 := Aside0.mk (below_step HB.out hb)
          clear HB hb C1 C2
          have HB := n0
          clear n0
          generalize wr.drew = wa at HB hHeld ⊢
          refine pure_ (i := 0) (N := (some 17)) (v := ?_) (a' := ?_) #[true, false, false, false, false, false, false, false, false] rfl rfl (any_of HT_.out (by kernel_rfl)) (fun _ _ _ h => h) (Or.inl ⟨by rfl, ?_⟩) ?_ ?_
          rotate_left
          · intro w'
            go_simp
            first | with_reducible rfl | (simp; done) | rfl
          rotate_left
          · simp only [Act.put, List.setIfInBounds_toArray, List.set_cons_zero, List.set_cons_succ, i64_w, i32_w]
            rfl
          refine pure_ (i := 1) (N := (some 18)) (v := ?_) (a' := ?_) #[true, true, false, false, false, false, false, false, false] rfl rfl (any_of HT_.out (by kernel_rfl)) (fun _ _ _ h => h) (Or.inl ⟨by rfl, ?_⟩) ?_ ?_
          rotate_left
          · intro w'
            go_simp
            first | with_reducible rfl | (simp; done) | rfl
          rotate_left
          · simp only [Act.put, List.setIfInBounds_toArray, List.set_cons_zero, List.set_cons_succ, i64_w, i32_w]
            rfl
          refine pure_ (i := 2) (N := (some 19)) (v := ?_) (a' := ?_) #[true, true, true, false, false, false, false, false, false] rfl rfl (any_of HT_.out (by kernel_rfl)) (fun _ _ _ h => h) (Or.inl ⟨by rfl, ?_⟩) ?_ ?_
          rotate_left
          · intro w'
            go_simp
            first | with_reducible rfl | (simp; done) | rfl
          rotate_left
          · simp only [Act.put, List.setIfInBounds_toArray, List.set_cons_zero, List.set_cons_succ, i64_w, i32_w]
            rfl
          refine take_ (i := 3) (N := (some 20)) (v := ?_) (a' := ?_) #[true, true, true, true, false, false, false, false, false] rfl rfl (take_ofW HT_.out HW_.out (by kernel_rfl)) (fun _ _ _ h => h) (Or.inl ⟨by rfl, ?_⟩) hHeld ?_ ?_
          rotate_left
          · rintro w' ⟨s0, s1⟩
            refine dig_load_at (x := .tmp 19) (ds := x) ?_ ?_ DX.out.1 s0 <;> rfl
          rotate_left
          · simp only [Act.put, List.setIfInBounds_toArray, List.set_cons_zero, List.set_cons_succ, i64_w, i32_w]
            rfl
          refine pure_ (i := 4) (N := (some 21)) (v := ?_) (a' := ?_) #[true, true, true, true, true, false, false, false, false] rfl rfl (any_of HT_.out (by kernel_rfl)) (fun _ _ _ h => h) (Or.inl ⟨by rfl, ?_⟩) ?_ ?_
          rotate_left
          · intro w'
            go_simp
            first | with_reducible rfl | (simp; done) | rfl
          rotate_left
          · simp only [Act.put, List.setIfInBounds_toArray, List.set_cons_zero, List.set_cons_succ, i64_w, i32_w]
            rfl
          refine pure_ (i := 5) (N := (some 22)) (v := ?_) (a' := ?_) #[true, true, true, true, true, true, false, false, false] rfl rfl (any_of HT_.out (by kernel_rfl)) (fun _ _ _ h => h) (Or.inl ⟨by rfl, ?_⟩) ?_ ?_
          rotate_left
          · intro w'
            go_simp
            first | with_reducible rfl | (simp; done) | rfl
          rotate_left
          · simp only [Act.put, List.setIfInBounds_toArray, List.set_cons_zero, List.set_cons_succ, i64_w, i32_w]
            rfl
          refine pure_ (i := 6) (N := (some 23)) (v := ?_) (a' := ?_) #[true, true, true, true, true, true, true, false, false] rfl rfl (any_of HT_.out (by kernel_rfl)) (fun _ _ _ h => h) (Or.inl ⟨by rfl, ?_⟩) ?_ ?_
          rotate_left
          · intro w'
            go_simp
            first | with_reducible rfl | (simp; done) | rfl
          rotate_left
          · simp only [Act.put, List.setIfInBounds_toArray, List.set_cons_zero, List.set_cons_succ, i64_w, i32_w]
            rfl
          refine take_ (i := 7) (N := (some 24)) (v := ?_) (a' := ?_) #[true, true, true, true, true, true, true, true, false] rfl rfl (take_ofW HT_.out HW_.out (by kernel_rfl)) (fun _ _ _ h => h) (Or.inl ⟨by rfl, ?_⟩) hHeld ?_ ?_
          rotate_left
          · rintro w' ⟨s0, s1⟩
            refine dig_load_at (x := .tmp 23) (ds := y) ?_ ?_ DY.out.1 s1 <;> rfl
          rotate_left
          · simp only [Act.put, List.setIfInBounds_toArray, List.set_cons_zero, List.set_cons_succ, i64_w, i32_w]
            rfl
          refine pure_ (i := 8) (N := (some 25)) (v := ?_) (a' := ?_) #[true, true, true, true, true, true, true, true, true] rfl rfl (any_of HT_.out (by kernel_rfl)) (fun _ _ _ h => h) (Or.inl ⟨by rfl, ?_⟩) ?_ ?_
          rotate_left
          · intro w'
            refine dig_neqB (x := .tmp 20) (y := .tmp 24) (b := true) ?_ ?_ ?_ DX.out DY.out EQ.out <;> rfl
          rotate_left
          · simp only [Act.put, List.setIfInBounds_toArray, List.set_cons_zero, List.set_cons_succ, i64_w, i32_w]
            rfl
          refine done_ (done_of HT_.out (by kernel_rfl)) ?_
          go_wp2
          exact ⟨⟨k + 1, by omega, by simp, ⟨take_eq_snoc HX.out HY.out hall.out HXY.out⟩, HB⟩, by simp [intOf]; omega⟩
        · have EQ : Aside0 (decide (x = y) = false) := ⟨decide_eq_false hxy⟩
          have NE : Aside0 (decide (l = o) = false) := ⟨decide_eq_false (fun e => hxy (by
            have h1 := HX.out
            rw [e, HY.out] at h1
            exact (Option.some.inj h1).symm))⟩
          clear hxy
          go_wp2
          have hb : Below wr.heap.size wr wr.drew := below_drew (Below.refl _ _)
          refine start_ (n := 9) (S := fun w' => (∀ i, i < 32 → w'.cell? ((ad1.add (k * 32)).add i) = some (.int .u8 (rd x (i : Int)))) ∧ (∀ i, i < 32 → w'.cell? ((ad2.add (k * 32)).add i) = some (.int .u8 (rd y (i : Int))))) (ds := []) #[false, false, false, false, false, false, false, false, false] (by kernel_rfl) rfl rfl ⟨fun i hi => cell_below (C1.out i hi) hb, fun i hi => cell_below (C2.out i hi) hb⟩ (fun hHeld => ?_)
          refine with_tabW same6_tab same6_bits (fun HT_ HW_ => ?_)
          have n0 := Aside0.mk (below_step HB.out hb)
          clear HB hb C1 C2
          have HB := n0
          clear n0
          generalize wr.drew = wa at HB hHeld ⊢
          refine pure_ (i := 0) (N := (some 17)) (v := ?_) (a' := ?_) #[true, false, false, false, false, false, false, false, false] rfl rfl (any_of HT_.out (by kernel_rfl)) (fun _ _ _ h => h) (Or.inl ⟨by rfl, ?_⟩) ?_ ?_
          rotate_left
          · intro w'
            go_simp
            first | with_reducible rfl | (simp; done) | rfl
          rotate_left
          · simp only [Act.put, List.setIfInBounds_toArray, List.set_cons_zero, List.set_cons_succ, i64_w, i32_w]
            rfl
          refine pure_ (i := 1) (N := (some 18)) (v := ?_) (a' := ?_) #[true, true, false, false, false, false, false, false, false] rfl rfl (any_of HT_.out (by kernel_rfl)) (fun _ _ _ h => h) (Or.inl ⟨by rfl, ?_⟩) ?_ ?_
          rotate_left
          · intro w'
            go_simp
            first | with_reducible rfl | (simp; done) | rfl
          rotate_left
          · simp only [Act.put, List.setIfInBounds_toArray, List.set_cons_zero, List.set_cons_succ, i64_w, i32_w]
            rfl
          refine pure_ (i := 2) (N := (some 19)) (v := ?_) (a' := ?_) #[true, true, true, false, false, false, false, false, false] rfl rfl (any_of HT_.out (by kernel_rfl)) (fun _ _ _ h => h) (Or.inl ⟨by rfl, ?_⟩) ?_ ?_
          rotate_left
          · intro w'
            go_simp
            first | with_reducible rfl | (simp; done) | rfl
          rotate_left
          · simp only [Act.put, List.setIfInBounds_toArray, List.set_cons_zero, List.set_cons_succ, i64_w, i32_w]
            rfl
          refine take_ (i := 3) (N := (some 20)) (v := ?_) (a' := ?_) #[true, true, true, true, false, false, false, false, false] rfl rfl (take_ofW HT_.out HW_.out (by kernel_rfl)) (fun _ _ _ h => h) (Or.inl ⟨by rfl, ?_⟩) hHeld ?_ ?_
          rotate_left
          · rintro w' ⟨s0, s1⟩
            refine dig_load_at (x := .tmp 19) (ds := x) ?_ ?_ DX.out.1 s0 <;> rfl
          rotate_left
          · simp only [Act.put, List.setIfInBounds_toArray, List.set_cons_zero, List.set_cons_succ, i64_w, i32_w]
            rfl
          refine pure_ (i := 4) (N := (some 21)) (v := ?_) (a' := ?_) #[true, true, true, true, true, false, false, false, false] rfl rfl (any_of HT_.out (by kernel_rfl)) (fun _ _ _ h => h) (Or.inl ⟨by rfl, ?_⟩) ?_ ?_
          rotate_left
          · intro w'
            go_simp
            first | with_reducible rfl | (simp; done) | rfl
          rotate_left
          · simp only [Act.put, List.setIfInBounds_toArray, List.set_cons_zero, List.set_cons_succ, i64_w, i32_w]
            rfl
          refine pure_ (i := 5) (N := (some 22)) (v := ?_) (a' := ?_) #[true, true, true, true, true, true, false, false, false] rfl rfl (any_of HT_.out (by kernel_rfl)) (fun _ _ _ h => h) (Or.inl ⟨by rfl, ?_⟩) ?_ ?_
          rotate_left
          · intro w'
            go_simp
            first | with_reducible rfl | (simp; done) | rfl
          rotate_left
          · simp only [Act.put, List.setIfInBounds_toArray, List.set_cons_zero, List.set_cons_succ, i64_w, i32_w]
            rfl
          refine pure_ (i := 6) (N := (some 23)) (v := ?_) (a' := ?_) #[true, true, true, true, true, true, true, false, false] rfl rfl (any_of HT_.out (by kernel_rfl)) (fun _ _ _ h => h) (Or.inl ⟨by rfl, ?_⟩) ?_ ?_
          rotate_left
          · intro w'
            go_simp
            first | with_reducible rfl | (simp; done) | rfl
          rotate_left
          · simp only [Act.put, List.setIfInBounds_toArray, List.set_cons_zero, List.set_cons_succ, i64_w, i32_w]
            rfl
          refine take_ (i := 7) (N := (some 24)) (v := ?_) (a' := ?_) #[true, true, true, true, true, true, true, true, false] rfl rfl (take_ofW HT_.out HW_.out (by kernel_rfl)) (fun _ _ _ h => h) (Or.inl ⟨by rfl, ?_⟩) hHeld ?_ ?_
          rotate_left
          · rintro w' ⟨s0, s1⟩
            refine dig_load_at (x := .tmp 23) (ds := y) ?_ ?_ DY.out.1 s1 <;> rfl
          rotate_left
          · simp only [Act.put, List.setIfInBounds_toArray, List.set_cons_zero, List.set_cons_succ, i64_w, i32_w]
            rfl
          refine pure_ (i := 8) (N := (some 25)) (v := ?_) (a' := ?_) #[true, true, true, true, true, true, true, true, true] rfl rfl (any_of HT_.out (by kernel_rfl)) (fun _ _ _ h => h) (Or.inl ⟨by rfl, ?_⟩) ?_ ?_
          rotate_left
          · intro w'
            refine dig_neqB (x := .tmp 20) (y := .tmp 24) (b := false) ?_ ?_ ?_ DX.out DY.out EQ.out <;> rfl
          rotate_left
          · simp only [Act.put, List.setIfInBounds_toArray, List.set_cons_zero, List.set_cons_succ, i64_w, i32_w]
            rfl
          refine done_ (done_of HT_.out (by kernel_rfl)) ?_
          go_wp2
          go_ret
          exact ⟨by rw [NE.out]; rfl, HB.out⟩
      · have TR : Aside0 (decide (l = o) = true) := ⟨decide_eq_true (by
          have h := hall.out
          rw [List.take_of_length_le (by rw [HL.out]; omega), List.take_of_length_le (by rw [HO.out]; omega)] at h
          exact h)⟩
        go_wp2
        go_ret
        exact ⟨by rw [TR.out]; rfl, HB.out⟩
  · have e1 : ((n1 : Int) != (n2 : Int)) = true := by simp; omega
    have e2 : (n1 != n2) = true := by simp; omega
    have NE : Aside0 (decide (l = o) = false) := ⟨decide_eq_false (fun e => hn (by rw [← hl, ← ho, e]))⟩
    clear hn hl ho b1 b2
    go_enter Tryd.func22, Tryd.ntmps22
    go_wp2
    go_ret
    exact ⟨by rw [NE.out]; rfl, HB.out⟩
end Go.Proofs.YtoaimcobcgomjaaDoor.Q
namespace Go.Proofs.YtoaimcobcgomjaaDoor.Q
open Go.RowKit Go.Proofs.YtoaimcobcgomjaaDoorW.PrintWords Go.Proofs.YtoaimcobcgomjaaDoorW.PrintLast Go.Proofs.YtoaimcobcgomjaaDoorW.PrintMore
set_option linter.unusedVariables false
set_option linter.unusedSimpArgs false
/-- What the law says of a good place. -/
theorem fits_true (l : List (List Int)) (j : Nat) (p : List Int) (hl : listP l = true) (hp : l[j]? = some p) : outP (l.length : Int) (j : Int) p = false ∧ fitsP (rootP l) (l.length : Int) (j : Int) p (sidesP l j) = true := by
  obtain ⟨hj, rfl⟩ := List.getElem?_eq_some_iff.1 hp
  have h1 := listP_len hl
  have h2 := listP_row hl _ (List.getElem_mem hj)
  have ho : outP (l.length : Int) (j : Int) l[j] = false := by
    unfold outP
    rw [decide_eq_false (by omega), decide_eq_false (by omega), decide_eq_false (by omega), decide_eq_false (by omega)]
    rfl
  refine ⟨ho, ?_⟩
  unfold fitsP
  rw [if_neg (by rw [ho]; decide), decide_eq_true (sides_len 256 l j h1 h1 hj).symm, decide_eq_true (sides_fit 256 l j _ hp h1 h1)]
  rfl
end Go.Proofs.YtoaimcobcgomjaaDoor.Q
namespace Go.Proofs.YtoaimcobcgomjaaDoor.Q
open Go.RowKit Go.Proofs.YtoaimcobcgomjaaDoorW.PrintWords Go.Proofs.YtoaimcobcgomjaaDoorW.PrintLast Go.Proofs.YtoaimcobcgomjaaDoorW.PrintMore
set_option linter.unusedVariables false
set_option linter.unusedSimpArgs false
theorem sides_abc0 : sidesP abcL 0 = [tagOf 7 [[98]], tagOf 7 [[99]]] := by
  have e3 : frontN 3 = 2 := by decide +kernel
  have e2 : frontN 2 = 1 := by decide +kernel
  rw [sidesP_two abcL 0 (by decide) (by decide)]
  have h1 : abcL.length = 3 := rfl
  rw [h1, e3, if_pos (by decide)]
  have h2 : abcL.take 2 = [[97], [98]] := rfl
  have h3 : abcL.drop 2 = [[99]] := rfl
  rw [h2, h3, sidesP_two [[97], [98]] 0 (by decide) (by decide)]
  have h4 : ([[97], [98]] : List (List Int)).length = 2 := rfl
  rw [h4, e2, if_pos (by decide)]
  have h5 : ([[97], [98]] : List (List Int)).take 1 = [[97]] := rfl
  have h6 : ([[97], [98]] : List (List Int)).drop 1 = [[98]] := rfl
  rw [h5, h6, sidesP_one [[97]] 0 (by decide), rootP_one [[98]] rfl, rootP_one [[99]] rfl]
  rfl
theorem sides_abc2 : sidesP abcL 2 = [tagOf 8 [tagOf 7 [[97]], tagOf 7 [[98]]]] := by
  have e3 : frontN 3 = 2 := by decide +kernel
  have e2 : frontN 2 = 1 := by decide +kernel
  rw [sidesP_two abcL 2 (by decide) (by decide)]
  have h1 : abcL.length = 3 := rfl
  rw [h1, e3, if_neg (by decide)]
  have h2 : abcL.take 2 = [[97], [98]] := rfl
  have h3 : abcL.drop 2 = [[99]] := rfl
  rw [h2, h3, sidesP_one [[99]] _ (by decide), rootP_two [[97], [98]] (by decide) (by decide)]
  have h4 : ([[97], [98]] : List (List Int)).length = 2 := rfl
  rw [h4, e2]
  have h5 : ([[97], [98]] : List (List Int)).take 1 = [[97]] := rfl
  have h6 : ([[97], [98]] : List (List Int)).drop 1 = [[98]] := rfl
  rw [h5, h6, rootP_one [[97]] rfl, rootP_one [[98]] rfl]
  rfl
/-- 257 rows of nothing. -/
def nils : Array Value := Array.replicate 257 (.slice none 0 0)
theorem rws_nils {w : World} {g : Nat} (h : w.heap[g]? = some (.cells nils 22 (0, 0))) : Rws w (some ⟨g, 0, none⟩) 257 257 (List.replicate 257 []) := by
  have hp := parts_C (ps := List.replicate 257 ([] : List Int)) h (by rw [List.length_replicate]; omega) (fun j q hj => by
    obtain ⟨hjl, rfl⟩ := List.getElem?_eq_some_iff.1 hj
    rw [List.length_replicate] at hjl
    rw [List.getElem_replicate]
    exact ⟨none, 0, by unfold nils; rw [Array.getElem?_replicate, if_pos hjl]; rfl, Nat.le_refl _, none_C1 w⟩)
  rw [List.length_replicate] at hp
  exact ⟨hp, Nat.le_refl _, fun p hp x hx => by rw [List.eq_of_mem_replicate hp] at hx; cases hx⟩
theorem digs_new (w : World) (ds : List (List Int)) (n : Nat) (hn : ds.length = n) (hd : ∀ d ∈ ds, Dig d) (hn2 : n < 1000) : Digs (w.alloc (.cells (flatD ds).toArray 25)) (some ⟨w.heap.size, 0, none⟩) n n ds := by
  subst hn
  have hl := flatD_len ds hd
  have ho : (w.alloc (.cells (flatD ds).toArray 25)).ownsRow 0 25 32 (.slice (some ⟨w.heap.size, 0, none⟩) ds.length ds.length) ds.length (flatD ds) :=
    ⟨hl, .inr ⟨w.heap.size, ds.length, _, rfl, Nat.zero_le _, blk_new w _, Nat.le_refl _, by simp only [maxLen]; omega, by simp [hl], by rw [← hl]; exact List.take_of_length_le (by simp)⟩⟩
  obtain ⟨A, c, e, hD⟩ := own_digs ho hd
  cases e
  exact hD
theorem wl_build_digs {ops : Array Oper} {rest : List Oper} {o : Oper} {a : Act} {w : World} {Q : Exit → Act → World → Prop} (hgd : o.guard = none) (ds : List (List Int)) (n : Nat) (hn : ds.length = n) (hd : ∀ d ∈ ds, Dig d) (parts : Array (Nat × Operand)) (ho : o.op = .buildSlice 31 n parts)
    (hp : (parts.map fun (i, x) => (i, a.eval x)).toList = ((ds.map fun d => Value.agg (arr d)).zipIdx 0).map fun x => (x.2, x.1)) (h0 : 0 < n) (h1 : n ≤ 100)
    (h : wpList Tryd.prog ops Q rest (a.put o.dst (.slice (some ⟨w.heap.size, 0, none⟩) n n)) (w.alloc (.cells (flatD ds).toArray 25))) : wpList Tryd.prog ops Q (o :: rest) a w := by
  subst hn
  refine wpList_plain hgd fun K hK => ?_
  unfold Oper.wp execOp
  simp only [ho, Sem.run_bind, run_build_digs w ds hd _ hp h0 h1, Result.andThen_ok]
  exact hK _ _ h
theorem wl_build_two {ops : Array Oper} {rest : List Oper} {o : Oper} {a : Act} {w : World} {Q : Exit → Act → World → Prop} (hgd : o.guard = none) (d e : List Int) (hd : ∀ x ∈ [d, e], Dig x) (x y : Operand) (ho : o.op = .buildSlice 31 2 #[(0, x), (1, y)]) (hx : a.eval x = .agg (arr d)) (hy : a.eval y = .agg (arr e))
    (h : wpList Tryd.prog ops Q rest (a.put o.dst (.slice (some ⟨w.heap.size, 0, none⟩) 2 2)) (w.alloc (.cells (flatD [d, e]).toArray 25))) : wpList Tryd.prog ops Q (o :: rest) a w :=
  wl_build_digs hgd [d, e] 2 rfl hd _ ho (by simp only [List.map_toArray, List.map_cons, List.map_nil, hx, hy]; rfl) (by omega) (by omega) h
theorem wl_build_one {ops : Array Oper} {rest : List Oper} {o : Oper} {a : Act} {w : World} {Q : Exit → Act → World → Prop} (hgd : o.guard = none) (d : List Int) (hd : ∀ x ∈ [d], Dig x) (x : Operand) (ho : o.op = .buildSlice 31 1 #[(0, x)]) (hx : a.eval x = .agg (arr d))
    (h : wpList Tryd.prog ops Q rest (a.put o.dst (.slice (some ⟨w.heap.size, 0, none⟩) 1 1)) (w.alloc (.cells (flatD [d]).toArray 25))) : wpList Tryd.prog ops Q (o :: rest) a w :=
  wl_build_digs hgd [d] 1 rfl hd _ ho (by simp only [List.map_toArray, List.map_cons, List.map_nil, hx]; rfl) (by omega) (by omega) h
theorem fits_no (root : List Int) (m i : Int) (d : List Int) (ho : outP m i [99] = false) (h : (turnsL m i).length ≠ 1) : fitsP root m i [99] [d] = false := by
  unfold fitsP
  rw [if_neg (by rw [ho]; decide), decide_eq_false (by simpa using h)]
  rfl
theorem make_nils (w : World) : (Instr.makeSlice 29 (.int .i64 257) (.int .i64 257)).run Tryd.prog w = .ok (.slice (some ⟨w.heap.size, 0, none⟩) 257 257) (w.alloc (.cells nils 22)) := by kernel_rfl
set_option maxHeartbeats 16000000 in
set_option maxRecDepth 100000 in
theorem rowsNames_walk (W : World) (hk : KT W) :
    Calls Tryd.prog 4 #[] W fun e W' => e = .returned (.bool true) ∧ Below W.heap.size W W' := by
  have HK := Aside0.mk hk
  have HB := Aside0.mk (Below.refl W.heap.size W)
  have c3 : rootC abcL = (rootP abcL, 0) := by unfold rootC; rw [if_pos (by rfl)]
  have s0 : sidesC abcL 0 = (sidesP abcL 0, 0) := by unfold sidesC; rw [if_pos (by rfl), if_neg (by decide)]; rfl
  have s2 : sidesC abcL 2 = (sidesP abcL 2, 0) := by unfold sidesC; rw [if_pos (by rfl), if_neg (by decide)]; rfl
  have s3 : sidesC abcL 3 = ([], 2) := by unfold sidesC; rw [if_pos (by rfl), if_pos (by decide)]
  have s257 : rootC (List.replicate 257 []) = (zeros32, 8) := by unfold rootC; rw [if_neg (by decide)]
  have f1 := fits_true abcL 2 [99] (by rfl) (by rfl)
  rw [sides_abc0] at s0
  rw [sides_abc2] at s2 f1
  obtain ⟨dA, hA⟩ : ∃ d, tagOf 7 [[97]] = d := ⟨_, rfl⟩
  obtain ⟨dB, hB⟩ : ∃ d, tagOf 7 [[98]] = d := ⟨_, rfl⟩
  obtain ⟨dC, hC⟩ : ∃ d, tagOf 7 [[99]] = d := ⟨_, rfl⟩
  have HLA : Aside0 (∀ w, KT w → Calls Tryd.prog 23 #[.string ⟨#[97]⟩] w fun e W' => e = .returned (.agg (arr dA)) ∧ Below w.heap.size w W') := ⟨fun w hw => hA ▸ leaf_walk 97 w hw⟩
  have HLB : Aside0 (∀ w, KT w → Calls Tryd.prog 23 #[.string ⟨#[98]⟩] w fun e W' => e = .returned (.agg (arr dB)) ∧ Below w.heap.size w W') := ⟨fun w hw => hB ▸ leaf_walk 98 w hw⟩
  have HLC : Aside0 (∀ w, KT w → Calls Tryd.prog 23 #[.string ⟨#[99]⟩] w fun e W' => e = .returned (.agg (arr dC)) ∧ Below w.heap.size w W') := ⟨fun w hw => hC ▸ leaf_walk 99 w hw⟩
  have DA0 : Dig dA := hA ▸ tagOf_dig _ _
  have DB0 : Dig dB := hB ▸ tagOf_dig _ _
  have DC0 : Dig dC := hC ▸ tagOf_dig _ _
  rw [hB, hC] at s0
  rw [hA, hB] at s2 f1
  clear hA hB hC
  obtain ⟨dF, hF⟩ : ∃ d, tagOf 8 [dA, dB] = d := ⟨_, rfl⟩
  have HFK : Aside0 (∀ w, KT w → Calls Tryd.prog 24 #[.agg (arr dA), .agg (arr dB)] w fun e W' => e = .returned (.agg (arr dF)) ∧ Below w.heap.size w W') := ⟨fun w hw => hF ▸ fork_walk dA dB DA0 DB0 w hw⟩
  have DF0 : Dig dF := hF ▸ tagOf_dig _ _
  rw [hF] at s2 f1
  clear hF
  obtain ⟨dAll, hAll⟩ : ∃ d, rootP abcL = d := ⟨_, rfl⟩
  have DAll : Dig dAll := hAll ▸ rootP_dig _
  rw [hAll] at c3 f1
  clear hAll
  have LA : Aside0 (dAll.length = 32) := ⟨DAll.1⟩
  have HD2 : Aside0 (∀ d ∈ [dB, dC], Dig d) := ⟨by
    intro d hd
    rcases List.mem_cons.1 hd with rfl | hd
    · exact DB0
    · rw [List.mem_singleton.1 hd]; exact DC0⟩
  have HD1 : Aside0 (∀ d ∈ [dF], Dig d) := ⟨by
    intro d hd
    rw [List.mem_singleton.1 hd]; exact DF0⟩
  have HS0 : Aside0 (∀ A w, Rws w A 3 3 [[97], [98], [99]] → KT w → Calls Tryd.prog 17 #[.slice A 3 3, .int .i64 0] w fun e W' => ∃ Ax cx, e = .returned (.tuple #[.slice Ax 2 cx, .int .i64 0]) ∧ Digs W' Ax 2 cx [dB, dC] ∧ Below w.heap.size w W') := ⟨fun A w hr hw => by
    have := sides_walk A 3 3 abcL 0 w hr hw
    rw [s0] at this
    refine this.mono ?_
    rintro e W' ⟨v, rfl, ho, hb⟩
    obtain ⟨Ax, cx, rfl, hD⟩ := own_digs ho HD2.out
    exact ⟨Ax, cx, rfl, hD, hb⟩⟩
  have HS2 : Aside0 (∀ A w, Rws w A 3 3 [[97], [98], [99]] → KT w → Calls Tryd.prog 17 #[.slice A 3 3, .int .i64 2] w fun e W' => ∃ Ax cx, e = .returned (.tuple #[.slice Ax 1 cx, .int .i64 0]) ∧ Digs W' Ax 1 cx [dF] ∧ Below w.heap.size w W') := ⟨fun A w hr hw => by
    have := sides_walk A 3 3 abcL 2 w hr hw
    rw [s2] at this
    refine this.mono ?_
    rintro e W' ⟨v, rfl, ho, hb⟩
    obtain ⟨Ax, cx, rfl, hD⟩ := own_digs ho HD1.out
    exact ⟨Ax, cx, rfl, hD, hb⟩⟩
  have HS3' : Aside0 (∀ A w, Rws w A 3 3 [[97], [98], [99]] → KT w → Calls Tryd.prog 17 #[.slice A 3 3, .int .i64 3] w fun e W' => ∃ Ax cx, e = .returned (.tuple #[.slice Ax 0 cx, .int .i64 2]) ∧ Digs W' Ax 0 cx [] ∧ Below w.heap.size w W') := ⟨fun A w hr hw => by
    have := sides_walk A 3 3 abcL 3 w hr hw
    rw [s3] at this
    refine this.mono ?_
    rintro e W' ⟨v, rfl, ho, hb⟩
    obtain ⟨Ax, cx, rfl, hD⟩ := own_digs ho (fun x hx => by cases hx)
    exact ⟨Ax, cx, rfl, hD, hb⟩⟩
  have HS3 : Aside0 (∀ A w, Rws w A 3 3 [[97], [98], [99]] → KT w → Calls Tryd.prog 17 #[.slice A 3 3, .int .i64 3] w fun e W' => ∃ Ax cx, e = .returned (.tuple #[.slice Ax 0 cx, .int .i64 2]) ∧ Below w.heap.size w W') := ⟨fun A w hr hw => (HS3'.out A w hr hw).mono (by rintro e W' ⟨Ax, cx, rfl, _, hb⟩; exact ⟨Ax, cx, rfl, hb⟩)⟩
  have HR257 : Aside0 (∀ g w, Rws w (some ⟨g, 0, none⟩) 257 257 (List.replicate 257 []) → KT w → Calls Tryd.prog 19 #[.slice (some ⟨g, 0, none⟩) 257 257] w fun e W' => e = .returned (.tuple #[.agg (arr zeros32), .int .i64 8]) ∧ Below w.heap.size w W') := ⟨fun g w hr hw => by
    have := rootR_walk (some ⟨g, 0, none⟩) 257 257 _ w hr hw
    rwa [s257] at this⟩
  have HR3 : Aside0 (∀ A w, Rws w A 3 3 [[97], [98], [99]] → KT w → Calls Tryd.prog 19 #[.slice A 3 3] w fun e W' => e = .returned (.tuple #[.agg (arr dAll), .int .i64 0]) ∧ Below w.heap.size w W') := ⟨fun A w hr hw => by
    have := rootR_walk A 3 3 abcL w hr hw
    rwa [c3] at this⟩
  have HF1 : Aside0 (∀ w Ax cx g, Digs w Ax 1 cx [dF] → KT w → Bts w (some ⟨g, 0, none⟩) 1 1 [99] → Calls Tryd.prog 20 #[.agg (arr dAll), .int .i64 3, .int .i64 2, .slice (some ⟨g, 0, none⟩) 1 1, .slice Ax 1 cx] w fun e W' => e = .returned (.bool true) ∧ Below w.heap.size w W') := ⟨fun w Ax cx g hD hw hb => by
    have := fits_in dAll DAll 3 2 _ Ax 1 1 1 cx [99] [dF] w hb hD hw f1.1 (by omega)
    rwa [show fitsP dAll 3 2 [99] [dF] = true from f1.2] at this⟩
  have HF2 : Aside0 (∀ w Ax cx g, Digs w Ax 1 cx [dF] → KT w → Bts w (some ⟨g, 0, none⟩) 1 1 [99] → Calls Tryd.prog 20 #[.agg (arr dAll), .int .i64 3, .int .i64 1, .slice (some ⟨g, 0, none⟩) 1 1, .slice Ax 1 cx] w fun e W' => e = .returned (.bool false) ∧ Below w.heap.size w W') := ⟨fun w Ax cx g hD hw hb => by
    have h0 : outP 3 1 [99] = false := by decide
    have := fits_in dAll DAll 3 1 _ Ax 1 1 1 cx [99] [dF] w hb hD hw h0 (by omega)
    rwa [fits_no dAll 3 1 dF h0 (by decide +kernel)] at this⟩
  have HF3 : Aside0 (∀ w Ax cx g, Digs w Ax 1 cx [dF] → KT w → Bts w (some ⟨g, 0, none⟩) 1 1 [99] → Calls Tryd.prog 20 #[.agg (arr dAll), .int .i64 4, .int .i64 2, .slice (some ⟨g, 0, none⟩) 1 1, .slice Ax 1 cx] w fun e W' => e = .returned (.bool false) ∧ Below w.heap.size w W') := ⟨fun w Ax cx g hD hw hb => by
    have h0 : outP 4 2 [99] = false := by decide
    have := fits_in dAll DAll 4 2 _ Ax 1 1 1 cx [99] [dF] w hb hD hw h0 (by omega)
    rwa [fits_no dAll 4 2 dF h0 (by decide +kernel)] at this⟩
  have HSD : Aside0 (∀ w A1 c1 A2 c2 n ss, Digs w A1 n c1 ss → Digs w A2 n c2 ss → Calls Tryd.prog 22 #[.slice A1 n c1, .slice A2 n c2] w fun e W' => e = .returned (.bool true) ∧ Below w.heap.size w W') := ⟨fun w A1 c1 A2 c2 n ss h1 h2 => by
    have := sameD_walk A1 A2 n c1 n c2 ss ss w h1 h2
    rwa [decide_eq_true (show ss = ss from rfl)] at this⟩
  have HN2 : Aside0 (∀ w : World, Digs (w.alloc (.cells (flatD [dB, dC]).toArray 25)) (some ⟨w.heap.size, 0, none⟩) 2 2 [dB, dC]) := ⟨fun w => digs_new w _ 2 rfl HD2.out (by omega)⟩
  have HN1 : Aside0 (∀ w : World, Digs (w.alloc (.cells (flatD [dF]).toArray 25)) (some ⟨w.heap.size, 0, none⟩) 1 1 [dF]) := ⟨fun w => digs_new w _ 1 rfl HD1.out (by omega)⟩
  have hmk := fun w => make_nils w
  have kc := fun (w : World) (C : Array Value) (n c : Nat) => Lib.run_convert_bytes_const (P := Tryd.prog) w 22 5 C n c Tryd.underlying22 Tryd.underlying5
  clear hk c3 s0 s2 s3 s257 f1 HS3' DA0 DB0 DC0 DF0 DAll
  go_enter Tryd.func4, Tryd.ntmps4
  go_wp2_with (
    first
    | (go_at_call 18; have _t := BK7; (with_reducible refine (abc_walk _).mono ?_); rintro e wb ⟨Ab, rfl, hr, hb⟩; have RA := Aside0.mk hr; have n0 := Aside0.mk (blk_below BK7.out hb); have n1 := Aside0.mk (below_step HB.out hb); clear BK7 HB; have BK7 := n0; have HB := n1; clear n0 n1; clear hb hr)
    | (go_at_call 18; have _t := KTt; (with_reducible refine (abc_walk _).mono ?_); rintro e wb ⟨Ab, rfl, hr, hb⟩; have RA := Aside0.mk hr; have n0 := Aside0.mk (below_step HB.out hb); clear HB; have HB := n0; clear n0; clear hb hr)
    | (go_at_call 18; have _t := DA; (with_reducible refine (abc_walk _).mono ?_); rintro e wb ⟨Ab, rfl, hr, hb⟩; have RA := Aside0.mk hr; have n0 := Aside0.mk (DA.out.below hb); have n1 := Aside0.mk (below_step HB.out hb); clear DA HB; have DA := n0; have HB := n1; clear n0 n1; clear hb hr)
    | (go_at_call 18; (with_reducible refine (abc_walk _).mono ?_); rintro e wb ⟨Ab, rfl, hr, hb⟩; have RA := Aside0.mk hr; have n0 := Aside0.mk (below_step HB.out hb); clear HB; have HB := n0; clear n0; clear hb hr)
    | (go_at_call 17; (with_reducible refine (HS0.out _ _ RA.out (HK.out.below HK.out.lt HB.out)).mono ?_); rintro e wx ⟨Ax, cx, rfl, hd, hb⟩; have n0 := Aside0.mk (below_step HB.out hb); clear HB; have HB := n0; clear n0; have DA := Aside0.mk hd; clear hb hd RA)
    | (go_at_call 17; (with_reducible refine (HS2.out _ _ RA.out (HK.out.below HK.out.lt HB.out)).mono ?_); rintro e wt ⟨Ay, cy, rfl, hd, hb⟩; have HW := Aside0.mk (below_step HB.out hb); have DAt := Aside0.mk (DA.out.below hb); clear HB DA RA; have DBt := Aside0.mk hd; have KTt := Aside0.mk (HK.out.below HK.out.lt HW.out); have HB := Aside0.mk (Below.refl wt.heap.size wt); clear hb hd)
    | (go_at_call 17; (with_reducible refine (HS3.out _ _ RA.out (KTt.out.below KTt.out.lt HB.out)).mono ?_); rintro e wz ⟨Az, cz, rfl, hb⟩; have n0 := Aside0.mk (below_step HB.out hb); clear HB; have HB := n0; clear n0; clear hb RA)
    | ((with_reducible refine gate_dst (N := 7) rfl ?_); refine box_event ?hg (N := 7) ?hd (cs := arr zeros32) (t := 25) ?hr ?_; (case hd => rfl); (case hg => rfl); (case hr => first | (go_simp; done) | (go_simp; rfl));
                         intro g7 hg w7 hbox hb; have BK7 := Aside0.mk hbox; have G7 := Aside0.mk (show wt.heap.size ≤ g7 by rw [hg]; exact below_size HB.out); have n0 := Aside0.mk (below_step HB.out hb); clear HB; have HB := n0; clear n0; clear hb hbox hg)
    | ((with_reducible refine gate_store (p := 7) rfl ?_); refine dig_store rfl (.tmp 7) (.tmp 30) rfl g7 (zeros32) (zeros32) rfl rfl BK7.out (rfl) (rfl) ?_; intro ws7 bk hoth hbel; have nn := Aside0.mk bk; have n0 := Aside0.mk (hbel _ _ HB.out G7.out); clear HB; have HB := n0; clear n0; clear BK7 bk hoth hbel; have BK7 := nn; clear nn)
    | (go_at_call 19; (with_reducible refine (HR257.out _ _ (rws_nils (blk_new _ _)) (KTt.out.below KTt.out.lt (below_alloc HB.out _))).mono ?_); rintro e wr ⟨rfl, hb⟩; have n0 := Aside0.mk (below_step (below_alloc HB.out _) hb); clear HB; have HB := n0; clear n0; clear hb)
    | ((with_reducible refine gate_dst (N := 9) rfl ?_); refine box_event ?hg (N := 9) ?hd (cs := arr zeros32) (t := 25) ?hr ?_; (case hd => rfl); (case hg => rfl); (case hr => first | (go_simp; done) | (go_simp; rfl));
                         intro g9 hg w9 hbox hb; have BK9 := Aside0.mk hbox; have G9 := Aside0.mk (show wt.heap.size ≤ g9 by rw [hg]; exact below_size HB.out); have N7_9 := Aside0.mk (show g7 ≠ g9 by rw [hg]; exact Nat.ne_of_lt (blk_lt BK7.out)); have n0 := Aside0.mk (blk_below BK7.out hb); have n1 := Aside0.mk (below_step HB.out hb); clear BK7 HB; have BK7 := n0; have HB := n1; clear n0 n1; clear hb hbox hg)
    | ((with_reducible refine gate_store (p := 9) rfl ?_); refine dig_store rfl (.tmp 9) (.tmp 35) rfl g9 (dAll) (zeros32) rfl rfl BK9.out (LA.out) (rfl) ?_; intro ws9 bk hoth hbel; have nn := Aside0.mk bk; have n0 := Aside0.mk ((hoth g7 N7_9.out).trans BK7.out); have n1 := Aside0.mk (hbel _ _ HB.out G9.out); clear BK7 HB; have BK7 := n0; have HB := n1; clear n0 n1; clear BK9 bk hoth hbel; have BK9 := nn; clear nn)
    | (go_at_call 19; (with_reducible refine (HR3.out _ _ RA.out (KTt.out.below KTt.out.lt HB.out)).mono ?_); rintro e wr3 ⟨rfl, hb⟩; have n0 := Aside0.mk (blk_below BK7.out hb); have n1 := Aside0.mk (below_step HB.out hb); clear BK7 HB; have BK7 := n0; have HB := n1; clear n0 n1; clear hb RA)
    | ((with_reducible refine gate_dst (N := 37) rfl ?_); refine wpList_load_row rfl 25 (.tmp 9) rfl g9 rfl 25 (arr dAll) (0, 0) _ BK9.out Tryd.underlying25 rfl (by rw [arr_size, LA.out]; exact info_dig) ?_)
    | ((with_reducible refine gate_dst (N := 43) rfl ?_); refine gate_guard (by rfl) ?_; refine wpList_load_row rfl 25 (.tmp 9) rfl g9 rfl 25 (arr dAll) (0, 0) _ BK9.out Tryd.underlying25 rfl (by rw [arr_size, LA.out]; exact info_dig) ?_)
    | ((with_reducible refine gate_dst (N := 51) rfl ?_); refine gate_guard (by rfl) ?_; refine wpList_load_row rfl 25 (.tmp 9) rfl g9 rfl 25 (arr dAll) (0, 0) _ BK9.out Tryd.underlying25 rfl (by rw [arr_size, LA.out]; exact info_dig) ?_)
    | (go_at_call 20; (with_reducible refine (HF1.out _ _ _ _ (DBt.out.below (below_alloc HB.out _)) (KTt.out.below KTt.out.lt (below_alloc HB.out _)) (bts_row (blk_new _ _) (by decide))).mono ?_); rintro e wf1 ⟨rfl, hb⟩; have n0 := Aside0.mk (blk_below (blk_alloc BK9.out _) hb); have n1 := Aside0.mk (below_step (below_alloc HB.out _) hb); clear BK9 HB; have BK9 := n0; have HB := n1; clear n0 n1; clear hb)
    | (go_at_call 20; (with_reducible refine (HF2.out _ _ _ _ (DBt.out.below (below_alloc HB.out _)) (KTt.out.below KTt.out.lt (below_alloc HB.out _)) (bts_row (blk_new _ _) (by decide))).mono ?_); rintro e wf2 ⟨rfl, hb⟩; have n0 := Aside0.mk (blk_below (blk_alloc BK9.out _) hb); have n1 := Aside0.mk (below_step (below_alloc HB.out _) hb); clear BK9 HB; have BK9 := n0; have HB := n1; clear n0 n1; clear hb)
    | (go_at_call 20; (with_reducible refine (HF3.out _ _ _ _ (DBt.out.below (below_alloc HB.out _)) (KTt.out.below KTt.out.lt (below_alloc HB.out _)) (bts_row (blk_new _ _) (by decide))).mono ?_); rintro e wf3 ⟨rfl, hb⟩; have n0 := Aside0.mk (blk_below (blk_alloc BK9.out _) hb); have n1 := Aside0.mk (below_step (below_alloc HB.out _) hb); clear BK9 HB; have BK9 := n0; have HB := n1; clear n0 n1; clear hb)
    | (go_at_call 21; (with_reducible refine (alive13_walk _ (KTt.out.below KTt.out.lt HB.out)).mono ?_); rintro e wa ⟨rfl, hb⟩; have n0 := Aside0.mk (below_step HB.out hb); clear HB; have HB := n0; clear n0; clear hb)
    | (go_at_call 23; (with_reducible refine (HLB.out _ (KTt.out.below KTt.out.lt HB.out)).mono ?_); rintro e wl1 ⟨rfl, hb⟩; have n0 := Aside0.mk (below_step HB.out hb); clear HB; have HB := n0; clear n0; clear hb)
    | (go_at_call 23; (with_reducible refine (HLC.out _ (KTt.out.below KTt.out.lt HB.out)).mono ?_); rintro e wl2 ⟨rfl, hb⟩; have n0 := Aside0.mk (below_step HB.out hb); clear HB; have HB := n0; clear n0; clear hb)
    | (go_at_call 23; (with_reducible refine (HLA.out _ (KTt.out.below KTt.out.lt HB.out)).mono ?_); rintro e wl3 ⟨rfl, hb⟩; have n0 := Aside0.mk (below_step HB.out hb); clear HB; have HB := n0; clear n0; clear hb)
    | (go_at_call 24; (with_reducible refine (HFK.out _ (KTt.out.below KTt.out.lt HB.out)).mono ?_); rintro e wk ⟨rfl, hb⟩; have n0 := Aside0.mk (below_step HB.out hb); clear HB; have HB := n0; clear n0; clear hb)
    | ((with_reducible refine gate_dst (N := 69) rfl ?_); refine gate_guard (by rfl) ?_; refine wl_build_two rfl dB dC HD2.out (.tmp 67) (.tmp 68) rfl rfl rfl ?_)
    | ((with_reducible refine gate_dst (N := 81) rfl ?_); refine gate_guard (by rfl) ?_; refine wl_build_one rfl dF HD1.out (.tmp 80) rfl rfl ?_)
    | (go_at_call 22; (with_reducible refine (HSD.out _ _ _ _ _ _ _ (DAt.out.below (below_alloc HB.out _)) (HN2.out _)).mono ?_); rintro e ws1 ⟨rfl, hb⟩; have n0 := Aside0.mk (below_step (below_alloc HB.out _) hb); clear HB; have HB := n0; clear n0; clear hb)
    | (go_at_call 22; (with_reducible refine (HSD.out _ _ _ _ _ _ _ (DBt.out.below (below_alloc HB.out _)) (HN1.out _)).mono ?_); rintro e ws2 ⟨rfl, hb⟩; have n0 := Aside0.mk (below_step (below_alloc HB.out _) hb); clear HB; have HB := n0; clear n0; clear hb))
  go_ret
  exact ⟨rfl, HW.out.trans (HB.out.mono (below_size HW.out))⟩
end Go.Proofs.YtoaimcobcgomjaaDoor.Q
namespace Go.Proofs.YtoaimcobcgomjaaDoor.Q
open Go.ChangeShapes Go.WideShapes Go.ChangeAt Go.RowKit
theorem own : ownKnob Tryd.prog.godebug = none := by kernel_rfl
theorem gK : Tryd.prog.globalNamed "beadroll/sha.k" = some 0 := by kernel_rfl
theorem tK : (Tryd.prog.globals[0]?).map (·.type) = some 59 := by kernel_rfl
/-- The rows' condition. -/
def laidK : List (String × DataW Unit) := [("beadroll/sha.k", Rows.laid_beadroll_sha_k)]
set_option maxRecDepth 100000 in
theorem laidK_tab : laidK = [("beadroll/sha.k", Lib.tabData .u32 K64)] := rfl
/-- The door's own heap meets the condition. -/
theorem door_met (os : Os) (args : Array Value) : laidMetH Tryd.prog laidK ((World.doorLaid Tryd.prog 14 os).forCall (fun _ _ => 0) ⟨#[], args, []⟩).memory :=
  laidMetH_of_parts3 (fuel := 8) (laidMet_of_run' 8 (by kernel_rfl) (by kernel_rfl)) (by kernel_rfl) (by kernel_rfl)
theorem of_laid {W : World} (h : laidMetH Tryd.prog laidK W) : KT W := by
  rw [MakeChecks.laidMetH_plain _ _ _ (by kernel_rfl), laidK_tab] at h
  have hT := Lib.tabIs_of_head gK tK Tryd.underlying59 Tryd.underlying54 (by kernel_rfl) (by kernel_rfl) h
  intro j hj
  have := hT.cell gK j (by exact hj)
  rw [this]
  simp [at_, Go.Proofs.YtoaimcobcgomjaaDoorW.PrintWords.rd]
end Go.Proofs.YtoaimcobcgomjaaDoor.Q
