/-
  The contract, by hand, of lock.Take.
-/
import Derived.Test.YtoncnjnicgfhmabQPut
namespace Go.Proofs.Ytoncnjnicgfhmab.Q
open Go.RowKit Go.Proofs.YtoncnjnicgfhmabW.PrintWords Go.Proofs.YtoncnjnicgfhmabW.PrintLast Go.Proofs.YtoncnjnicgfhmabW.PrintMore
set_option linter.unusedVariables false
set_option linter.unusedSimpArgs false

set_option hygiene false in
/-- The boxes of the lock and of the result, and the call of asked. -/
macro "take_arms" n:num f:ident : tactic => `(tactic| (first
    | ((with_reducible refine gate_dst (N := 2) rfl ?_); refine box_event ?hg (N := 2) ?hd (cs := #[.int .i64 o, .slice A l.length c]) (t := 24) ?hr ?_; (case hd => rfl); (case hg => rfl); (case hr => first | (go_simp; done) | (go_simp; rfl));
       intro g1 hg w1 hbox hb; have BK1 := Aside0.mk hbox; have GE1 := Aside0.mk (show w.heap.size ≤ g1 by rw [hg]; exact Nat.le_refl _); have HB1 := Aside0.mk (below_step HB.out hb); clear HB; have HB := HB1; clear HB1 hb hbox hg)
    | ((with_reducible refine gate_dst (N := 4) rfl ?_); refine box_event ?hg (N := 4) ?hd (cs := #[.int .i64 0, .slice none 0 0]) (t := 24) ?hr ?_; (case hd => rfl); (case hg => rfl); (case hr => first | (go_simp; done) | (go_simp; rfl));
       intro g2 hg w2 hbox hb; have BK2 := Aside0.mk hbox; have GE2 := Aside0.mk (show w.heap.size ≤ g2 by rw [hg]; exact below_size HB.out);
       have bk1 := Aside0.mk (blk_below BK1.out hb); have NE := Aside0.mk (show g1 ≠ g2 by rw [hg]; exact Nat.ne_of_lt (blk_lt BK1.out)); have HB1 := Aside0.mk (below_step HB.out hb); clear HB BK1; have HB := HB1; have BK1 := bk1; clear HB1 bk1 hb hbox hg;
       have hcz0 : w2.cell? ⟨g1, 0, none⟩ = some (.int .i64 o) := (blk_cell BK1.out 0).trans rfl; have hcz1 : w2.cell? ⟨g1, 1, none⟩ = some (.slice A l.length c) := (blk_cell BK1.out 1).trans rfl)
    | ((with_reducible refine gate_callee (f := 21) rfl ?_); refine goesL_ (some 11) rfl rfl Try.func21 (by kernel_rfl) rfl #[.agg #[.int .i64 o, .slice A l.length c], .int .i64 t] rfl (by (try simp only [List.map_toArray, List.map_cons, List.map_nil]); first | done | rfl) ?_;
       (with_reducible refine (Pre.lock_asked.calls o _ _ l t _ _ (Kd.C_below HR.out HB.out) HC.out HA.out).mono ?_); rintro e w3 ⟨rfl, hb⟩; refine ⟨_, rfl, ?_⟩;
       have bk1 := Aside0.mk (blk_below BK1.out hb); have bk2 := Aside0.mk (blk_below BK2.out hb); have HB1 := Aside0.mk (below_step HB.out hb); clear HB BK1 BK2; have HB := HB1; have BK1 := bk1; have BK2 := bk2; clear HB1 bk1 bk2 hb hcz0 hcz1;
       have hcz0 : w3.cell? ⟨g1, 0, none⟩ = some (.int .i64 o) := (blk_cell BK1.out 0).trans rfl; have hcz1 : w3.cell? ⟨g1, 1, none⟩ = some (.slice A l.length c) := (blk_cell BK1.out 1).trans rfl;
       have hcy0 : w3.cell? ⟨g2, 0, none⟩ = some (.int .i64 0) := (blk_cell BK2.out 0).trans rfl; have hcy1 : w3.cell? ⟨g2, 1, none⟩ = some (.slice none 0 0) := (blk_cell BK2.out 1).trans rfl; have hfz0 := blk_frozen BK2.out 0; have hfz1 := blk_frozen BK2.out 1)))

set_option maxHeartbeats 4000000 in
theorem take_asked (o : Int) (A : Option Addr) (c : Nat) (l : List Int) (t r : Int) (w : World) (HR : Aside0 (Kd.C (Kd.int .i64) w A l.length l)) (HC : Aside0 (l.length ≤ c)) (HA : Aside0 (Pre.lock_asked.f o l t = some r)) (hr : (r != 0) = true) :
    Calls Try.prog 8 #[.agg #[.int .i64 o, .slice A l.length c], .int .i64 t] w fun e w' => e = .returned (.tuple #[.agg #[.int .i64 0, .slice none 0 0], .bool false, .int .i64 r]) ∧ Below w.heap.size w w' := by
  have HB := Aside0.mk (Below.refl w.heap.size w)
  go_enter Try.func8, Try.ntmps8
  go_wp2_with (take_arms 8 f)
  refine bodyPost_ret (results_ctt rfl _ _ g2 24 #[.int .i64 0, .slice none 0 0] (0, 0) _ rfl (blk_put (cs := #[.int .i64 0, .slice none 0 0]) (blk_put (cs := #[.int .i64 0, .slice none 0 0]) BK2.out 0 _ rfl) 1 _ rfl) Try.underlying24 rfl (by kernel_rfl)) rfl ?_
  exact ⟨rfl, below_set (below_set HB.out GE2.out) GE2.out⟩

set_option hygiene false in
macro "take_find" : tactic => `(tactic| (
       (with_reducible refine gate_callee (f := 24) rfl ?_); refine goesL_ (some 18) rfl rfl Try.func24 (by kernel_rfl) rfl #[.agg #[.int .i64 o, .slice A l.length c], .int .i64 t] rfl (by (try simp only [List.map_toArray, List.map_cons, List.map_nil]); first | done | rfl) ?_;
       (with_reducible refine (lock_find.calls o _ _ l t _ _ (Kd.C_below HR.out HB.out) HC.out HF.out).mono ?_); rintro e w4 ⟨rfl, hb⟩; refine ⟨_, rfl, ?_⟩;
       have bk1 := Aside0.mk (blk_below BK1.out hb); have bk2 := Aside0.mk (blk_below BK2.out hb); have HB1 := Aside0.mk (below_step HB.out hb); clear HB BK1 BK2; have HB := HB1; have BK1 := bk1; have BK2 := bk2; clear HB1 bk1 bk2 hb hcz0 hcz1 hcy0 hcy1 hfz0 hfz1;
       have hcz0 : w4.cell? ⟨g1, 0, none⟩ = some (.int .i64 o) := (blk_cell BK1.out 0).trans rfl; have hcz1 : w4.cell? ⟨g1, 1, none⟩ = some (.slice A l.length c) := (blk_cell BK1.out 1).trans rfl;
       have hcy0 : w4.cell? ⟨g2, 0, none⟩ = some (.int .i64 0) := (blk_cell BK2.out 0).trans rfl; have hcy1 : w4.cell? ⟨g2, 1, none⟩ = some (.slice none 0 0) := (blk_cell BK2.out 1).trans rfl; have hfz0 := blk_frozen BK2.out 0; have hfz1 := blk_frozen BK2.out 1))

set_option maxHeartbeats 4000000 in
theorem take_found (o : Int) (A : Option Addr) (c : Nat) (l : List Int) (t k : Int) (w : World) (HR : Aside0 (Kd.C (Kd.int .i64) w A l.length l)) (HC : Aside0 (l.length ≤ c)) (HA : Aside0 (Pre.lock_asked.f o l t = some 0)) (HF : Aside0 (lock_find.f o l t = some k)) (hk : decide (0 ≤ k) = true) :
    Calls Try.prog 8 #[.agg #[.int .i64 o, .slice A l.length c], .int .i64 t] w fun e w' => e = .returned (.tuple #[.agg #[.int .i64 0, .slice none 0 0], .bool false, .int .i64 2]) ∧ Below w.heap.size w w' := by
  have HB := Aside0.mk (Below.refl w.heap.size w)
  go_enter Try.func8, Try.ntmps8
  go_wp2_with (first | take_arms 8 f | take_find)
  refine bodyPost_ret (results_ctt rfl _ _ g2 24 #[.int .i64 0, .slice none 0 0] (0, 0) _ rfl (blk_put (cs := #[.int .i64 0, .slice none 0 0]) (blk_put (cs := #[.int .i64 0, .slice none 0 0]) BK2.out 0 _ rfl) 1 _ rfl) Try.underlying24 rfl (by kernel_rfl)) rfl ?_
  exact ⟨rfl, below_set (below_set HB.out GE2.out) GE2.out⟩

set_option hygiene false in
macro "take_twin" : tactic => `(tactic| (
       (with_reducible refine gate_callee (f := 19) rfl ?_); refine goesL_ (some 22) rfl rfl Try.func19 (by kernel_rfl) rfl #[.agg #[.int .i64 o, .slice A l.length c]] rfl (by (try simp only [List.map_toArray, List.map_cons, List.map_nil]); first | done | rfl) ?_;
       (with_reducible refine (Pre.lock_Twin.calls o _ _ l _ _ _ (Kd.C_below HR.out HB.out) HC.out HT.out).mono ?_); rintro e w5 ⟨v, rfl, ho, hb⟩; refine ⟨_, rfl, ?_⟩;
       have HO := Aside0.mk (Kd.R_lower ho (below_size HB.out));
       have bk1 := Aside0.mk (blk_below BK1.out hb); have bk2 := Aside0.mk (blk_below BK2.out hb); have HB1 := Aside0.mk (below_step HB.out hb); clear HB BK1 BK2; have HB := HB1; have BK1 := bk1; have BK2 := bk2; clear HB1 bk1 bk2 hb hcz0 hcz1 hcy0 hcy1 hfz0 hfz1 ho; obtain ⟨A1, c1, e1⟩ := Kd.R_slice HO.out; subst e1;
       have hcy0 : w5.cell? ⟨g2, 0, none⟩ = some (.int .i64 0) := (blk_cell BK2.out 0).trans rfl; have hcy1 : w5.cell? ⟨g2, 1, none⟩ = some (.slice none 0 0) := (blk_cell BK2.out 1).trans rfl; have hfz0 := blk_frozen BK2.out 0; have hfz1 := blk_frozen BK2.out 1))

set_option maxHeartbeats 4000000 in
theorem take_first (o : Int) (A : Option Addr) (c : Nat) (l : List Int) (t k : Int) (w : World) (HR : Aside0 (Kd.C (Kd.int .i64) w A l.length l)) (HC : Aside0 (l.length ≤ c)) (HA : Aside0 (Pre.lock_asked.f o l t = some 0)) (HF : Aside0 (lock_find.f o l t = some k)) (hk : decide (0 ≤ k) = false) (HT : Aside0 (Pre.lock_Twin.f o l = some (o, l))) (h0 : (o == 0) = true) :
    Calls Try.prog 8 #[.agg #[.int .i64 o, .slice A l.length c], .int .i64 t] w fun e w' => ∃ v, e = .returned (.tuple #[.agg #[.int .i64 t, v], .bool true, .int .i64 0]) ∧ Kd.R (Kd.int .i64) 3 w' w.heap.size (fun _ => True) v l ∧ Below w.heap.size w w' := by
  have HB := Aside0.mk (Below.refl w.heap.size w)
  go_enter Try.func8, Try.ntmps8
  go_wp2_with (first | take_arms 8 f | take_find | take_twin)
  have bk := blk_put (cs' := #[.int .i64 o, .slice none 0 0]) BK2.out 0 (.int .i64 o) rfl
  replace bk := blk_put (cs' := #[.int .i64 o, .slice A1 l.length c1]) bk 1 (.slice A1 l.length c1) rfl
  replace bk := blk_put (cs' := #[.int .i64 t, .slice A1 l.length c1]) bk 0 (.int .i64 t) rfl
  replace bk := blk_put (cs' := #[.int .i64 t, .slice A1 l.length c1]) bk 0 (.int .i64 t) rfl
  replace bk := blk_put (cs' := #[.int .i64 t, .slice A1 l.length c1]) bk 1 (.slice A1 l.length c1) rfl
  refine bodyPost_ret (results_ctt rfl _ _ g2 24 #[.int .i64 t, .slice A1 l.length c1] (0, 0) _ rfl bk Try.underlying24 rfl (by kernel_rfl)) rfl ?_
  refine ⟨_, rfl, ?_, below_set (below_set (below_set (below_set (below_set HB.out GE2.out) GE2.out) GE2.out) GE2.out) GE2.out⟩
  have ho := Kd.R_types HO.out BK2.out (by decide)
  exact Kd.R_mono (Kd.R_far (Kd.R_far (Kd.R_far (Kd.R_far (Kd.R_far (p := ⟨g2, 0, none⟩) ho (fun _ hk => hk.2) _) (fun _ hk => hk.2) _) (fun _ hk => hk.2) _) (fun _ hk => hk.2) _) (fun _ hk => hk.2) _) (fun _ _ => trivial)

set_option maxHeartbeats 4000000 in
theorem take_more (o : Int) (A : Option Addr) (c : Nat) (l : List Int) (t k : Int) (w : World) (HR : Aside0 (Kd.C (Kd.int .i64) w A l.length l)) (HC : Aside0 (l.length ≤ c)) (HA : Aside0 (Pre.lock_asked.f o l t = some 0)) (HF : Aside0 (lock_find.f o l t = some k)) (hk : decide (0 ≤ k) = false) (HT : Aside0 (Pre.lock_Twin.f o l = some (o, l))) (h0 : (o == 0) = false) (HL : Aside0 (l.length < 17592186044416)) :
    Calls Try.prog 8 #[.agg #[.int .i64 o, .slice A l.length c], .int .i64 t] w fun e w' => ∃ v, e = .returned (.tuple #[.agg #[.int .i64 o, v], .bool false, .int .i64 0]) ∧ Kd.R (Kd.int .i64) 3 w' w.heap.size (fun _ => True) v (l ++ [t]) ∧ Below w.heap.size w w' := by
  have HB := Aside0.mk (Below.refl w.heap.size w)
  go_enter Try.func8, Try.ntmps8
  go_wp2_with (
    first
    | take_arms 8 f
    | take_find
    | take_twin
    | ((with_reducible refine gate_dst (N := 32) rfl ?_); refine box_event ?hg (N := 32) ?hd (cs := #[.slice A1 l.length c1]) (t := 51) ?hr ?_; (case hd => rfl); (case hg => rfl); (case hr => first | (go_simp; done) | (go_simp; rfl));
       intro g3 hg w6 hbox hb; have bk2 := Aside0.mk (blk_below (blk_put (cs' := #[.int .i64 o, .slice A1 l.length c1]) (blk_put (cs' := #[.int .i64 o, .slice none 0 0]) BK2.out 0 (.int .i64 o) rfl) 1 (.slice A1 l.length c1) rfl) hb);
       have ho := Aside0.mk (Kd.R_below (Kd.R_mono (ok' := fun _ => True) (Kd.R_far (v := .slice A1 l.length c1) (p := ⟨g2, 1, none⟩) (Kd.R_far (p := ⟨g2, 0, none⟩) (Kd.R_types HO.out BK2.out (by decide)) (fun _ hk => hk.2) (.int .i64 o)) (fun _ hk => hk.2) (.slice A1 l.length c1)) (fun _ _ => trivial)) hb);
       have hb2 := Aside0.mk (below_step (below_set (j := 1) (v := .slice A1 l.length c1) (below_set (j := 0) (v := .int .i64 o) HB.out GE2.out) GE2.out) hb); have GE3 := Aside0.mk (show w.heap.size ≤ g3 by rw [hg]; exact below_size (below_set (j := 1) (v := .slice A1 l.length c1) (below_set (j := 0) (v := .int .i64 o) HB.out GE2.out) GE2.out));
       have NE2 := Aside0.mk (show g2 ≠ g3 by rw [hg]; exact Nat.ne_of_lt (blk_lt (blk_put (cs' := #[.int .i64 o, .slice A1 l.length c1]) (blk_put (cs' := #[.int .i64 o, .slice none 0 0]) BK2.out 0 (.int .i64 o) rfl) 1 (.slice A1 l.length c1) rfl)));
       clear BK2 HO HB; have BK2 := bk2; have HO := ho; have HB := hb2; have BK3 := Aside0.mk hbox; clear bk2 ho hb2 hbox hb hg hcy0 hcy1 hfz0 hfz1)
    | (go_at_call 25; refine (put_walk g3 _ l t w.heap.size w _ BK3 HB ⟨below_size HB.out⟩ GE3 HO HL).mono ?_; rintro e w7 ⟨rfl, v', bk3, ho, hb, hfr⟩;
       have bk2 := Aside0.mk ((hfr g2 (blk_lt BK2.out) NE2.out (Kd.R_ne HO.out BK2.out (by decide))).trans BK2.out); clear BK2 HO HB BK3 hfr; have BK2 := bk2; have BK3 := Aside0.mk bk3; have HO := Aside0.mk ho; have HB := Aside0.mk hb; clear bk2 bk3 ho hb; obtain ⟨A2, c2, e2⟩ := Kd.R_slice HO.out; subst e2;
       have hcx : w7.cell? ⟨g3, 0, none⟩ = some (.slice A2 (l ++ [t]).length c2) := (blk_cell BK3.out 0).trans rfl;
       have hcy0 : w7.cell? ⟨g2, 0, none⟩ = some (.int .i64 o) := (blk_cell BK2.out 0).trans rfl; have hcy1 : w7.cell? ⟨g2, 1, none⟩ = some (.slice A1 l.length c1) := (blk_cell BK2.out 1).trans rfl; have hfz0 := blk_frozen BK2.out 0; have hfz1 := blk_frozen BK2.out 1))
  have bk := blk_put (cs' := #[.int .i64 o, .slice A2 (l.length + 1) c2]) BK2.out 1 (.slice A2 (l.length + 1) c2) rfl
  replace bk := blk_put (cs' := #[.int .i64 o, .slice A2 (l.length + 1) c2]) bk 0 (.int .i64 o) rfl
  replace bk := blk_put (cs' := #[.int .i64 o, .slice A2 (l.length + 1) c2]) bk 1 (.slice A2 (l.length + 1) c2) rfl
  refine bodyPost_ret (results_ctt rfl _ _ g2 24 #[.int .i64 o, .slice A2 (l.length + 1) c2] (0, 0) _ rfl bk Try.underlying24 rfl (by kernel_rfl)) rfl ?_
  refine ⟨_, rfl, ?_, below_set (below_set (below_set HB.out GE2.out) GE2.out) GE2.out⟩
  have ho := Kd.R_types HO.out BK2.out (by decide)
  simp only [List.length_append, List.length_cons, List.length_nil, Nat.zero_add] at ho
  exact Kd.R_mono (Kd.R_far (Kd.R_far (Kd.R_far (p := ⟨g2, 1, none⟩) ho (fun _ hk => hk.2) _) (fun _ hk => hk.2) _) (fun _ hk => hk.2) _) (fun _ _ => trivial)

/-! ### lock.Take: function 8 -/
def lock_Take.f (o : Int) (l : List Int) (t : Int) : Option (Int × List Int × Bool × Int) :=
  (Pre.lock_asked.f o l t).bind fun e => if e = 0 then (if 0 ≤ findIn (tasks o l) t then some (0, [], false, 2) else if l.length < 17592186044416 then (if o = 0 then some (t, l, true, 0) else some (o, l ++ [t], false, 0)) else none) else some (0, [], false, e)
theorem lock_Take.calls (a0_0 : Int) (A0_1 : Option Addr) (c0_1 : Nat) (l0_1 : List Int) (a1 : Int) (r1 : Int) (r2 : List Int) (r3 : Bool) (r4 : Int) (w : World) (hr0_1 : Kd.C (Kd.int .i64) w A0_1 l0_1.length l0_1) (hc0_1 : l0_1.length ≤ c0_1) (h : lock_Take.f a0_0 l0_1 a1 = some (r1, r2, r3, r4)) :
    Calls Try.prog 8 #[.agg #[.int .i64 a0_0, .slice A0_1 l0_1.length c0_1], .int .i64 a1] w fun e w' => ∃ v1_ : Value, e = .returned (.tuple #[.agg #[.int .i64 r1, v1_], .bool r3, .int .i64 r4]) ∧ Kd.R (Kd.int .i64) 3 w' w.heap.size (fun _ => True) v1_ r2 ∧ Below w.heap.size w w' := by
  unfold lock_Take.f at h
  obtain ⟨e, he, h⟩ := Option.bind_eq_some_iff.1 h
  by_cases h0 : e = 0
  · subst h0
    rw [if_pos rfl] at h
    have hf : lock_find.f a0_0 l0_1 a1 = some (findIn (tasks a0_0 l0_1) a1) := rfl
    by_cases h1 : 0 ≤ findIn (tasks a0_0 l0_1) a1
    · rw [if_pos h1] at h
      cases h
      exact (take_found a0_0 A0_1 c0_1 l0_1 a1 _ w ⟨hr0_1⟩ ⟨hc0_1⟩ ⟨he⟩ ⟨hf⟩ (decide_eq_true h1)).mono fun e w' ⟨h1, h2⟩ => ⟨_, h1, Kd.R_nil _ _ _ _ _, h2⟩
    · rw [if_neg h1] at h
      by_cases h2 : l0_1.length < 17592186044416
      · rw [if_pos h2] at h
        have ht : Pre.lock_Twin.f a0_0 l0_1 = some (a0_0, l0_1) := by simp [Pre.lock_Twin.f, slices_Clone_int_int.f, h2]
        by_cases h3 : a0_0 = 0
        · rw [if_pos h3] at h
          cases h
          exact take_first a0_0 A0_1 c0_1 l0_1 a1 _ w ⟨hr0_1⟩ ⟨hc0_1⟩ ⟨he⟩ ⟨hf⟩ (decide_eq_false h1) ⟨ht⟩ (beq_iff_eq.2 h3)
        · rw [if_neg h3] at h
          cases h
          exact take_more a0_0 A0_1 c0_1 l0_1 a1 _ w ⟨hr0_1⟩ ⟨hc0_1⟩ ⟨he⟩ ⟨hf⟩ (decide_eq_false h1) ⟨ht⟩ (beq_eq_false_iff_ne.2 h3) ⟨h2⟩
      · rw [if_neg h2] at h; cases h
  · rw [if_neg h0] at h
    cases h
    exact (take_asked a0_0 A0_1 c0_1 l0_1 a1 _ w ⟨hr0_1⟩ ⟨hc0_1⟩ ⟨he⟩ (bne_iff_ne.2 h0)).mono fun e w' ⟨h1, h2⟩ => ⟨_, h1, Kd.R_nil _ _ _ _ _, h2⟩

end Go.Proofs.Ytoncnjnicgfhmab.Q
