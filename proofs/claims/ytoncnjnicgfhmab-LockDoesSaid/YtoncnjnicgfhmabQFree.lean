/-
  The contract, by hand, of lock.Free.
-/
import Derived.Test.YtoncnjnicgfhmabQTake
namespace Go.Proofs.Ytoncnjnicgfhmab.Q
open Go.RowKit Go.Proofs.YtoncnjnicgfhmabW.PrintWords Go.Proofs.YtoncnjnicgfhmabW.PrintLast Go.Proofs.YtoncnjnicgfhmabW.PrintMore
set_option linter.unusedVariables false
set_option linter.unusedSimpArgs false

set_option maxHeartbeats 4000000 in
theorem free_asked (o : Int) (A : Option Addr) (c : Nat) (l : List Int) (t r : Int) (w : World) (HR : Aside0 (Kd.C (Kd.int .i64) w A l.length l)) (HC : Aside0 (l.length ≤ c)) (HA : Aside0 (Pre.lock_asked.f o l t = some r)) (hr : (r != 0) = true) :
    Calls Try.prog 6 #[.agg #[.int .i64 o, .slice A l.length c], .int .i64 t] w fun e w' => e = .returned (.tuple #[.agg #[.int .i64 0, .slice none 0 0], .int .i64 0, .int .i64 r]) ∧ Below w.heap.size w w' := by
  have HB := Aside0.mk (Below.refl w.heap.size w)
  go_enter Try.func6, Try.ntmps6
  go_wp2_with ((first | ((with_reducible refine gate_dst (N := 2) rfl ?_); refine box_event ?hg (N := 2) ?hd (cs := #[.int .i64 o, .slice A l.length c]) (t := 24) ?hr ?_; (case hd => rfl); (case hg => rfl); (case hr => first | (go_simp; done) | (go_simp; rfl)); intro g1 hg w1 hbox hb; have BK1 := Aside0.mk hbox; have GE1 := Aside0.mk (show w.heap.size ≤ g1 by rw [hg]; exact Nat.le_refl _); have HB1 := Aside0.mk (below_step HB.out hb); clear HB; have HB := HB1; clear HB1 hb hbox hg) | ((with_reducible refine gate_dst (N := 4) rfl ?_); refine box_event ?hg (N := 4) ?hd (cs := #[.int .i64 0, .slice none 0 0]) (t := 24) ?hr ?_; (case hd => rfl); (case hg => rfl); (case hr => first | (go_simp; done) | (go_simp; rfl)); intro g2 hg w2 hbox hb; have BK2 := Aside0.mk hbox; have GE2 := Aside0.mk (show w.heap.size ≤ g2 by rw [hg]; exact below_size HB.out); have bk1 := Aside0.mk (blk_below BK1.out hb); have NE := Aside0.mk (show g1 ≠ g2 by rw [hg]; exact Nat.ne_of_lt (blk_lt BK1.out)); have HB1 := Aside0.mk (below_step HB.out hb); clear HB BK1; have HB := HB1; have BK1 := bk1; clear HB1 bk1 hb hbox hg; have hcz0 : w2.cell? ⟨g1, 0, none⟩ = some (.int .i64 o) := (blk_cell BK1.out 0).trans rfl; have hcz1 : w2.cell? ⟨g1, 1, none⟩ = some (.slice A l.length c) := (blk_cell BK1.out 1).trans rfl) | ((with_reducible refine gate_callee (f := 21) rfl ?_); refine goesL_ (some 11) rfl rfl Try.func21 (by kernel_rfl) rfl #[.agg #[.int .i64 o, .slice A l.length c], .int .i64 t] rfl (by (try simp only [List.map_toArray, List.map_cons, List.map_nil]); first | done | rfl) ?_; (with_reducible refine (Pre.lock_asked.calls o _ _ l t _ _ (Kd.C_below HR.out HB.out) HC.out HA.out).mono ?_); rintro e w3 ⟨rfl, hb⟩; refine ⟨_, rfl, ?_⟩; have bk1 := Aside0.mk (blk_below BK1.out hb); have bk2 := Aside0.mk (blk_below BK2.out hb); have HB1 := Aside0.mk (below_step HB.out hb); clear HB BK1 BK2; have HB := HB1; have BK1 := bk1; have BK2 := bk2; clear HB1 bk1 bk2 hb hcz0 hcz1; have hcz0 : w3.cell? ⟨g1, 0, none⟩ = some (.int .i64 o) := (blk_cell BK1.out 0).trans rfl; have hcz1 : w3.cell? ⟨g1, 1, none⟩ = some (.slice A l.length c) := (blk_cell BK1.out 1).trans rfl; have hcy0 : w3.cell? ⟨g2, 0, none⟩ = some (.int .i64 0) := (blk_cell BK2.out 0).trans rfl; have hcy1 : w3.cell? ⟨g2, 1, none⟩ = some (.slice none 0 0) := (blk_cell BK2.out 1).trans rfl; have hfz0 := blk_frozen BK2.out 0; have hfz1 := blk_frozen BK2.out 1)))
  refine bodyPost_ret (results_ctt rfl _ _ g2 24 #[.int .i64 0, .slice none 0 0] (0, 0) _ rfl (blk_put (cs := #[.int .i64 0, .slice none 0 0]) (blk_put (cs := #[.int .i64 0, .slice none 0 0]) BK2.out 0 _ rfl) 1 _ rfl) Try.underlying24 rfl (by kernel_rfl)) rfl ?_
  exact ⟨rfl, below_set (below_set HB.out GE2.out) GE2.out⟩

set_option maxHeartbeats 4000000 in
theorem free_other (o : Int) (A : Option Addr) (c : Nat) (l : List Int) (t : Int) (w : World) (HR : Aside0 (Kd.C (Kd.int .i64) w A l.length l)) (HC : Aside0 (l.length ≤ c)) (HA : Aside0 (Pre.lock_asked.f o l t = some 0)) (hr : (o != t) = true) :
    Calls Try.prog 6 #[.agg #[.int .i64 o, .slice A l.length c], .int .i64 t] w fun e w' => e = .returned (.tuple #[.agg #[.int .i64 0, .slice none 0 0], .int .i64 0, .int .i64 2]) ∧ Below w.heap.size w w' := by
  have HB := Aside0.mk (Below.refl w.heap.size w)
  go_enter Try.func6, Try.ntmps6
  go_wp2_with ((first | ((with_reducible refine gate_dst (N := 2) rfl ?_); refine box_event ?hg (N := 2) ?hd (cs := #[.int .i64 o, .slice A l.length c]) (t := 24) ?hr ?_; (case hd => rfl); (case hg => rfl); (case hr => first | (go_simp; done) | (go_simp; rfl)); intro g1 hg w1 hbox hb; have BK1 := Aside0.mk hbox; have GE1 := Aside0.mk (show w.heap.size ≤ g1 by rw [hg]; exact Nat.le_refl _); have HB1 := Aside0.mk (below_step HB.out hb); clear HB; have HB := HB1; clear HB1 hb hbox hg) | ((with_reducible refine gate_dst (N := 4) rfl ?_); refine box_event ?hg (N := 4) ?hd (cs := #[.int .i64 0, .slice none 0 0]) (t := 24) ?hr ?_; (case hd => rfl); (case hg => rfl); (case hr => first | (go_simp; done) | (go_simp; rfl)); intro g2 hg w2 hbox hb; have BK2 := Aside0.mk hbox; have GE2 := Aside0.mk (show w.heap.size ≤ g2 by rw [hg]; exact below_size HB.out); have bk1 := Aside0.mk (blk_below BK1.out hb); have NE := Aside0.mk (show g1 ≠ g2 by rw [hg]; exact Nat.ne_of_lt (blk_lt BK1.out)); have HB1 := Aside0.mk (below_step HB.out hb); clear HB BK1; have HB := HB1; have BK1 := bk1; clear HB1 bk1 hb hbox hg; have hcz0 : w2.cell? ⟨g1, 0, none⟩ = some (.int .i64 o) := (blk_cell BK1.out 0).trans rfl; have hcz1 : w2.cell? ⟨g1, 1, none⟩ = some (.slice A l.length c) := (blk_cell BK1.out 1).trans rfl) | ((with_reducible refine gate_callee (f := 21) rfl ?_); refine goesL_ (some 11) rfl rfl Try.func21 (by kernel_rfl) rfl #[.agg #[.int .i64 o, .slice A l.length c], .int .i64 t] rfl (by (try simp only [List.map_toArray, List.map_cons, List.map_nil]); first | done | rfl) ?_; (with_reducible refine (Pre.lock_asked.calls o _ _ l t _ _ (Kd.C_below HR.out HB.out) HC.out HA.out).mono ?_); rintro e w3 ⟨rfl, hb⟩; refine ⟨_, rfl, ?_⟩; have bk1 := Aside0.mk (blk_below BK1.out hb); have bk2 := Aside0.mk (blk_below BK2.out hb); have HB1 := Aside0.mk (below_step HB.out hb); clear HB BK1 BK2; have HB := HB1; have BK1 := bk1; have BK2 := bk2; clear HB1 bk1 bk2 hb hcz0 hcz1; have hcz0 : w3.cell? ⟨g1, 0, none⟩ = some (.int .i64 o) := (blk_cell BK1.out 0).trans rfl; have hcz1 : w3.cell? ⟨g1, 1, none⟩ = some (.slice A l.length c) := (blk_cell BK1.out 1).trans rfl; have hcy0 : w3.cell? ⟨g2, 0, none⟩ = some (.int .i64 0) := (blk_cell BK2.out 0).trans rfl; have hcy1 : w3.cell? ⟨g2, 1, none⟩ = some (.slice none 0 0) := (blk_cell BK2.out 1).trans rfl; have hfz0 := blk_frozen BK2.out 0; have hfz1 := blk_frozen BK2.out 1)))
  refine bodyPost_ret (results_ctt rfl _ _ g2 24 #[.int .i64 0, .slice none 0 0] (0, 0) _ rfl (blk_put (cs := #[.int .i64 0, .slice none 0 0]) (blk_put (cs := #[.int .i64 0, .slice none 0 0]) BK2.out 0 _ rfl) 1 _ rfl) Try.underlying24 rfl (by kernel_rfl)) rfl ?_
  exact ⟨rfl, below_set (below_set HB.out GE2.out) GE2.out⟩

set_option maxHeartbeats 4000000 in
theorem free_last (o : Int) (A : Option Addr) (c : Nat) (l : List Int) (t : Int) (w : World) (HR : Aside0 (Kd.C (Kd.int .i64) w A l.length l)) (HC : Aside0 (l.length ≤ c)) (HA : Aside0 (Pre.lock_asked.f o l t = some 0)) (hr : (o != t) = false) (HT : Aside0 (slices_Clone_int_int.f l = some l)) (HL : Aside0 (l = [])) :
    Calls Try.prog 6 #[.agg #[.int .i64 o, .slice A l.length c], .int .i64 t] w fun e w' => ∃ v, e = .returned (.tuple #[.agg #[.int .i64 0, v], .int .i64 0, .int .i64 0]) ∧ Kd.Q (Kd.int .i64) 3 w' w.heap.size (fun _ => True) v l ∧ Below w.heap.size w w' := by
  have HB := Aside0.mk (Below.refl w.heap.size w)
  go_enter Try.func6, Try.ntmps6
  go_wp2_with (
    first
    | (first | ((with_reducible refine gate_dst (N := 2) rfl ?_); refine box_event ?hg (N := 2) ?hd (cs := #[.int .i64 o, .slice A l.length c]) (t := 24) ?hr ?_; (case hd => rfl); (case hg => rfl); (case hr => first | (go_simp; done) | (go_simp; rfl)); intro g1 hg w1 hbox hb; have BK1 := Aside0.mk hbox; have GE1 := Aside0.mk (show w.heap.size ≤ g1 by rw [hg]; exact Nat.le_refl _); have HB1 := Aside0.mk (below_step HB.out hb); clear HB; have HB := HB1; clear HB1 hb hbox hg) | ((with_reducible refine gate_dst (N := 4) rfl ?_); refine box_event ?hg (N := 4) ?hd (cs := #[.int .i64 0, .slice none 0 0]) (t := 24) ?hr ?_; (case hd => rfl); (case hg => rfl); (case hr => first | (go_simp; done) | (go_simp; rfl)); intro g2 hg w2 hbox hb; have BK2 := Aside0.mk hbox; have GE2 := Aside0.mk (show w.heap.size ≤ g2 by rw [hg]; exact below_size HB.out); have bk1 := Aside0.mk (blk_below BK1.out hb); have NE := Aside0.mk (show g1 ≠ g2 by rw [hg]; exact Nat.ne_of_lt (blk_lt BK1.out)); have HB1 := Aside0.mk (below_step HB.out hb); clear HB BK1; have HB := HB1; have BK1 := bk1; clear HB1 bk1 hb hbox hg; have hcz0 : w2.cell? ⟨g1, 0, none⟩ = some (.int .i64 o) := (blk_cell BK1.out 0).trans rfl; have hcz1 : w2.cell? ⟨g1, 1, none⟩ = some (.slice A l.length c) := (blk_cell BK1.out 1).trans rfl) | ((with_reducible refine gate_callee (f := 21) rfl ?_); refine goesL_ (some 11) rfl rfl Try.func21 (by kernel_rfl) rfl #[.agg #[.int .i64 o, .slice A l.length c], .int .i64 t] rfl (by (try simp only [List.map_toArray, List.map_cons, List.map_nil]); first | done | rfl) ?_; (with_reducible refine (Pre.lock_asked.calls o _ _ l t _ _ (Kd.C_below HR.out HB.out) HC.out HA.out).mono ?_); rintro e w3 ⟨rfl, hb⟩; refine ⟨_, rfl, ?_⟩; have bk1 := Aside0.mk (blk_below BK1.out hb); have bk2 := Aside0.mk (blk_below BK2.out hb); have HB1 := Aside0.mk (below_step HB.out hb); clear HB BK1 BK2; have HB := HB1; have BK1 := bk1; have BK2 := bk2; clear HB1 bk1 bk2 hb hcz0 hcz1; have hcz0 : w3.cell? ⟨g1, 0, none⟩ = some (.int .i64 o) := (blk_cell BK1.out 0).trans rfl; have hcz1 : w3.cell? ⟨g1, 1, none⟩ = some (.slice A l.length c) := (blk_cell BK1.out 1).trans rfl; have hcy0 : w3.cell? ⟨g2, 0, none⟩ = some (.int .i64 0) := (blk_cell BK2.out 0).trans rfl; have hcy1 : w3.cell? ⟨g2, 1, none⟩ = some (.slice none 0 0) := (blk_cell BK2.out 1).trans rfl; have hfz0 := blk_frozen BK2.out 0; have hfz1 := blk_frozen BK2.out 1))
    | ( first | ((with_reducible refine gate_callee (f := 22) rfl ?_); refine goesL_ (some 23) rfl rfl Try.func22 (by kernel_rfl) rfl #[.slice A l.length c] rfl (by (try simp only [List.map_toArray, List.map_cons, List.map_nil]); first | done | rfl) ?_; (with_reducible refine (slices_Clone_int_int.calls _ _ l l _ (Kd.C_below HR.out HB.out) HC.out HT.out).mono ?_); rintro e w5 ⟨v, rfl, ho, hb⟩; refine ⟨_, rfl, ?_⟩; have HO := Aside0.mk (Kd.R_lower ho (below_size HB.out)); have bk2 := Aside0.mk (blk_below BK2.out hb); have HB1 := Aside0.mk (below_step HB.out hb); clear HB BK1 BK2; have HB := HB1; have BK2 := bk2; clear HB1 bk2 hb hcz0 hcz1 hcy0 hcy1 hfz0 hfz1 ho; obtain ⟨A1, c1, e1⟩ := Kd.R_slice HO.out; subst e1) | ((with_reducible refine gate_dst (N := 25) rfl ?_); refine box_event ?hg (N := 25) ?hd (cs := #[.slice A1 l.length c1]) (t := 51) ?hr ?_; (case hd => rfl); (case hg => rfl); (case hr => first | (go_simp; done) | (go_simp; rfl)); intro g3 hg w6 hbox hb; have bk2 := Aside0.mk (blk_below BK2.out hb); have ho := Aside0.mk (Kd.R_below HO.out hb); have hb2 := Aside0.mk (below_step HB.out hb); have GE3 := Aside0.mk (show w.heap.size ≤ g3 by rw [hg]; exact below_size HB.out); have NE2 := Aside0.mk (show g2 ≠ g3 by rw [hg]; exact Nat.ne_of_lt (blk_lt BK2.out)); clear BK2 HO HB; have BK2 := bk2; have HO := ho; have HB := hb2; have BK3 := Aside0.mk hbox; clear bk2 ho hb2 hbox hb hg))
    | (
       go_at_call 23; go_loud (
       refine (take_nil g3 A1 c1 w _ 0 ⟨by have := BK3.out; rw [HL.out] at this; exact this⟩).mono ?_; rintro e w7 ⟨rfl, hw7⟩; subst hw7;
       have hcx : w7.cell? ⟨g3, 0, none⟩ = some (.slice A1 l.length c1) := (blk_cell BK3.out 0).trans rfl;
       have hcy0 : w7.cell? ⟨g2, 0, none⟩ = some (.int .i64 0) := (blk_cell BK2.out 0).trans rfl; have hcy1 : w7.cell? ⟨g2, 1, none⟩ = some (.slice none 0 0) := (blk_cell BK2.out 1).trans rfl; have hfz0 := blk_frozen BK2.out 0; have hfz1 := blk_frozen BK2.out 1)))
  have bk := blk_put (cs' := #[.int .i64 0, .slice none 0 0]) BK2.out 0 (.int .i64 0) rfl
  replace bk := blk_put (cs' := #[.int .i64 0, .slice A1 l.length c1]) bk 1 (.slice A1 l.length c1) rfl
  refine bodyPost_ret (results_ctt rfl _ _ g2 24 #[.int .i64 0, .slice A1 l.length c1] (0, 0) _ rfl bk Try.underlying24 rfl (by kernel_rfl)) rfl ?_
  refine ⟨_, rfl, ?_, below_set (below_set HB.out GE2.out) GE2.out⟩
  have ho := Kd.R_types HO.out BK2.out (by decide)
  exact Kd.Q_of_R (Kd.R_mono (Kd.R_far (Kd.R_far (p := ⟨g2, 0, none⟩) ho (fun _ hk => hk.2) _) (fun _ hk => hk.2) _) (fun _ _ => trivial))

set_option maxHeartbeats 4000000 in
theorem free_next (o : Int) (A : Option Addr) (c : Nat) (l : List Int) (x : Int) (xs : List Int) (t : Int) (w : World) (HR : Aside0 (Kd.C (Kd.int .i64) w A l.length l)) (HC : Aside0 (l.length ≤ c)) (HA : Aside0 (Pre.lock_asked.f o l t = some 0)) (hr : (o != t) = false) (HT : Aside0 (slices_Clone_int_int.f l = some l)) (HL : Aside0 (l = x :: xs)) :
    Calls Try.prog 6 #[.agg #[.int .i64 o, .slice A l.length c], .int .i64 t] w fun e w' => ∃ v, e = .returned (.tuple #[.agg #[.int .i64 x, v], .int .i64 x, .int .i64 0]) ∧ Kd.Q (Kd.int .i64) 3 w' w.heap.size (fun _ => True) v xs ∧ Below w.heap.size w w' := by
  have HB := Aside0.mk (Below.refl w.heap.size w)
  go_enter Try.func6, Try.ntmps6
  go_wp2_with (
    first
    | (first | ((with_reducible refine gate_dst (N := 2) rfl ?_); refine box_event ?hg (N := 2) ?hd (cs := #[.int .i64 o, .slice A l.length c]) (t := 24) ?hr ?_; (case hd => rfl); (case hg => rfl); (case hr => first | (go_simp; done) | (go_simp; rfl)); intro g1 hg w1 hbox hb; have BK1 := Aside0.mk hbox; have GE1 := Aside0.mk (show w.heap.size ≤ g1 by rw [hg]; exact Nat.le_refl _); have HB1 := Aside0.mk (below_step HB.out hb); clear HB; have HB := HB1; clear HB1 hb hbox hg) | ((with_reducible refine gate_dst (N := 4) rfl ?_); refine box_event ?hg (N := 4) ?hd (cs := #[.int .i64 0, .slice none 0 0]) (t := 24) ?hr ?_; (case hd => rfl); (case hg => rfl); (case hr => first | (go_simp; done) | (go_simp; rfl)); intro g2 hg w2 hbox hb; have BK2 := Aside0.mk hbox; have GE2 := Aside0.mk (show w.heap.size ≤ g2 by rw [hg]; exact below_size HB.out); have bk1 := Aside0.mk (blk_below BK1.out hb); have NE := Aside0.mk (show g1 ≠ g2 by rw [hg]; exact Nat.ne_of_lt (blk_lt BK1.out)); have HB1 := Aside0.mk (below_step HB.out hb); clear HB BK1; have HB := HB1; have BK1 := bk1; clear HB1 bk1 hb hbox hg; have hcz0 : w2.cell? ⟨g1, 0, none⟩ = some (.int .i64 o) := (blk_cell BK1.out 0).trans rfl; have hcz1 : w2.cell? ⟨g1, 1, none⟩ = some (.slice A l.length c) := (blk_cell BK1.out 1).trans rfl) | ((with_reducible refine gate_callee (f := 21) rfl ?_); refine goesL_ (some 11) rfl rfl Try.func21 (by kernel_rfl) rfl #[.agg #[.int .i64 o, .slice A l.length c], .int .i64 t] rfl (by (try simp only [List.map_toArray, List.map_cons, List.map_nil]); first | done | rfl) ?_; (with_reducible refine (Pre.lock_asked.calls o _ _ l t _ _ (Kd.C_below HR.out HB.out) HC.out HA.out).mono ?_); rintro e w3 ⟨rfl, hb⟩; refine ⟨_, rfl, ?_⟩; have bk1 := Aside0.mk (blk_below BK1.out hb); have bk2 := Aside0.mk (blk_below BK2.out hb); have HB1 := Aside0.mk (below_step HB.out hb); clear HB BK1 BK2; have HB := HB1; have BK1 := bk1; have BK2 := bk2; clear HB1 bk1 bk2 hb hcz0 hcz1; have hcz0 : w3.cell? ⟨g1, 0, none⟩ = some (.int .i64 o) := (blk_cell BK1.out 0).trans rfl; have hcz1 : w3.cell? ⟨g1, 1, none⟩ = some (.slice A l.length c) := (blk_cell BK1.out 1).trans rfl; have hcy0 : w3.cell? ⟨g2, 0, none⟩ = some (.int .i64 0) := (blk_cell BK2.out 0).trans rfl; have hcy1 : w3.cell? ⟨g2, 1, none⟩ = some (.slice none 0 0) := (blk_cell BK2.out 1).trans rfl; have hfz0 := blk_frozen BK2.out 0; have hfz1 := blk_frozen BK2.out 1))
    | ( first | ((with_reducible refine gate_callee (f := 22) rfl ?_); refine goesL_ (some 23) rfl rfl Try.func22 (by kernel_rfl) rfl #[.slice A l.length c] rfl (by (try simp only [List.map_toArray, List.map_cons, List.map_nil]); first | done | rfl) ?_; (with_reducible refine (slices_Clone_int_int.calls _ _ l l _ (Kd.C_below HR.out HB.out) HC.out HT.out).mono ?_); rintro e w5 ⟨v, rfl, ho, hb⟩; refine ⟨_, rfl, ?_⟩; have HO := Aside0.mk (Kd.R_lower ho (below_size HB.out)); have bk2 := Aside0.mk (blk_below BK2.out hb); have HB1 := Aside0.mk (below_step HB.out hb); clear HB BK1 BK2; have HB := HB1; have BK2 := bk2; clear HB1 bk2 hb hcz0 hcz1 hcy0 hcy1 hfz0 hfz1 ho; obtain ⟨A1, c1, e1⟩ := Kd.R_slice HO.out; subst e1) | ((with_reducible refine gate_dst (N := 25) rfl ?_); refine box_event ?hg (N := 25) ?hd (cs := #[.slice A1 l.length c1]) (t := 51) ?hr ?_; (case hd => rfl); (case hg => rfl); (case hr => first | (go_simp; done) | (go_simp; rfl)); intro g3 hg w6 hbox hb; have bk2 := Aside0.mk (blk_below BK2.out hb); have ho := Aside0.mk (Kd.R_below HO.out hb); have hb2 := Aside0.mk (below_step HB.out hb); have GE3 := Aside0.mk (show w.heap.size ≤ g3 by rw [hg]; exact below_size HB.out); have NE2 := Aside0.mk (show g2 ≠ g3 by rw [hg]; exact Nat.ne_of_lt (blk_lt BK2.out)); clear BK2 HO HB; have BK2 := bk2; have HO := ho; have HB := hb2; have BK3 := Aside0.mk hbox; clear bk2 ho hb2 hbox hb hg))
    | (
       go_at_call 23; go_loud (
       obtain ⟨k3, c3, e3, hk3, hk3', cells3, hcells3⟩ := Kd.R_form HO.out (by rw [HL.out]; simp); cases e3;
       refine (take_cons g3 k3 0 c1 l.length x _ BK3 (by have := (Kd.R_celln 0 HO.out 0 (by omega) (by rw [HL.out]; simp <;> omega)).1; rw [HL.out] at this; exact this) (by rw [HL.out]; simp) ⟨(Kd.R_reads' HO.out).2.2.2.1⟩).mono ?_; rintro e w7 ⟨rfl, hw7⟩;
       have ho : Aside0 (Kd.Q (Kd.int .i64) 3 ((w6.setCell ⟨g3, 0, none⟩ (.slice (if c1 = 1 then some ⟨k3, 0, none⟩ else some ⟨k3, 0 + 1, none⟩) (l.length - 1) (c1 - 1))).drew) w.heap.size (fun k => True ∧ k ≠ g3) (.slice (if c1 = 1 then some ⟨k3, 0, none⟩ else some ⟨k3, 0 + 1, none⟩) (l.length - 1) (c1 - 1)) (l.drop 1)) := Aside0.mk (Kd.Q_drew (Kd.Q_far (p := ⟨g3, 0, none⟩) (Kd.Q_types (Kd.Q_drop (k := 1) (Kd.Q_of_R HO.out) (by rw [HL.out]; simp)) BK3.out (by decide)) (fun _ hk => hk.2) (.slice (if c1 = 1 then some ⟨k3, 0, none⟩ else some ⟨k3, 0 + 1, none⟩) (l.length - 1) (c1 - 1))));
       have bk2 := Aside0.mk (blk_drew (blk_far (p := ⟨g3, 0, none⟩) BK2.out NE2.out (.slice (if c1 = 1 then some ⟨k3, 0, none⟩ else some ⟨k3, 0 + 1, none⟩) (l.length - 1) (c1 - 1))));
       have bk3 := Aside0.mk (blk_drew (blk_put (cs' := #[.slice (if c1 = 1 then some ⟨k3, 0, none⟩ else some ⟨k3, 0 + 1, none⟩) (l.length - 1) (c1 - 1)]) BK3.out 0 (.slice (if c1 = 1 then some ⟨k3, 0, none⟩ else some ⟨k3, 0 + 1, none⟩) (l.length - 1) (c1 - 1)) rfl));
       have hb := Aside0.mk (below_drew1 (below_set (j := 0) (v := .slice (if c1 = 1 then some ⟨k3, 0, none⟩ else some ⟨k3, 0 + 1, none⟩) (l.length - 1) (c1 - 1)) HB.out GE3.out));
       rw [← hw7] at ho bk2 bk3 hb; clear hw7 HO BK2 BK3 HB hcells3; have HO := ho; have BK2 := bk2; have BK3 := bk3; have HB := hb; clear ho bk2 bk3 hb;
       generalize (if c1 = 1 then some (⟨k3, 0, none⟩ : Addr) else some ⟨k3, 0 + 1, none⟩) = A3 at HO BK3;
       have hcx : w7.cell? ⟨g3, 0, none⟩ = some (.slice A3 (l.length - 1) (c1 - 1)) := (blk_cell BK3.out 0).trans rfl;
       have hcy0 : w7.cell? ⟨g2, 0, none⟩ = some (.int .i64 0) := (blk_cell BK2.out 0).trans rfl; have hcy1 : w7.cell? ⟨g2, 1, none⟩ = some (.slice none 0 0) := (blk_cell BK2.out 1).trans rfl; have hfz0 := blk_frozen BK2.out 0; have hfz1 := blk_frozen BK2.out 1)))
  have bk := blk_put (cs' := #[.int .i64 x, .slice none 0 0]) BK2.out 0 (.int .i64 x) rfl
  replace bk := blk_put (cs' := #[.int .i64 x, .slice A3 (l.length - 1) (c1 - 1)]) bk 1 (.slice A3 (l.length - 1) (c1 - 1)) rfl
  refine bodyPost_ret (results_ctt rfl _ _ g2 24 #[.int .i64 x, .slice A3 (l.length - 1) (c1 - 1)] (0, 0) _ rfl bk Try.underlying24 rfl (by kernel_rfl)) rfl ?_
  refine ⟨_, rfl, ?_, below_set (below_set HB.out GE2.out) GE2.out⟩
  have ho := Kd.Q_types HO.out BK2.out (by decide)
  have e : l.drop 1 = xs := by rw [HL.out]; rfl
  rw [e] at ho
  exact Kd.Q_mono (Kd.Q_far (Kd.Q_far (p := ⟨g2, 0, none⟩) ho (fun _ hk => hk.2) _) (fun _ hk => hk.2) _) (fun _ _ => trivial)

/-! ### lock.Free: function 6 -/
def lock_Free.f (o : Int) (l : List Int) (t : Int) : Option (Int × List Int × Int × Int) :=
  (Pre.lock_asked.f o l t).bind fun e => if e = 0 then (if o = t then (if l.length < 17592186044416 then some (l.headD 0, l.tail, l.headD 0, 0) else none) else some (0, [], 0, 2)) else some (0, [], 0, e)
theorem lock_Free.calls (a0_0 : Int) (A0_1 : Option Addr) (c0_1 : Nat) (l0_1 : List Int) (a1 : Int) (r1 : Int) (r2 : List Int) (r3 : Int) (r4 : Int) (w : World) (hr0_1 : Kd.C (Kd.int .i64) w A0_1 l0_1.length l0_1) (hc0_1 : l0_1.length ≤ c0_1) (h : lock_Free.f a0_0 l0_1 a1 = some (r1, r2, r3, r4)) :
    Calls Try.prog 6 #[.agg #[.int .i64 a0_0, .slice A0_1 l0_1.length c0_1], .int .i64 a1] w fun e w' => ∃ v1_ : Value, e = .returned (.tuple #[.agg #[.int .i64 r1, v1_], .int .i64 r3, .int .i64 r4]) ∧ Kd.Q (Kd.int .i64) 3 w' w.heap.size (fun _ => True) v1_ r2 ∧ Below w.heap.size w w' := by
  unfold lock_Free.f at h
  obtain ⟨e, he, h⟩ := Option.bind_eq_some_iff.1 h
  by_cases h0 : e = 0
  · subst h0
    rw [if_pos rfl] at h
    by_cases h1 : a0_0 = a1
    · rw [if_pos h1] at h
      have hne : (a0_0 != a1) = false := by simp [h1]
      by_cases h2 : l0_1.length < 17592186044416
      · rw [if_pos h2] at h
        have ht : slices_Clone_int_int.f l0_1 = some l0_1 := by simp [slices_Clone_int_int.f, h2]
        cases hl : l0_1 with
        | nil =>
          rw [hl] at h
          cases h
          exact (free_last a0_0 A0_1 c0_1 [] a1 w ⟨hl ▸ hr0_1⟩ ⟨hl ▸ hc0_1⟩ ⟨hl ▸ he⟩ hne ⟨hl ▸ ht⟩ ⟨rfl⟩)
        | cons x xs =>
          rw [hl] at h
          cases h
          exact (free_next a0_0 A0_1 c0_1 (x :: xs) x xs a1 w ⟨hl ▸ hr0_1⟩ ⟨hl ▸ hc0_1⟩ ⟨hl ▸ he⟩ hne ⟨hl ▸ ht⟩ ⟨rfl⟩)
      · rw [if_neg h2] at h; cases h
    · rw [if_neg h1] at h
      cases h
      exact (free_other a0_0 A0_1 c0_1 l0_1 a1 w ⟨hr0_1⟩ ⟨hc0_1⟩ ⟨he⟩ (bne_iff_ne.2 h1)).mono fun e w' ⟨h1, h2⟩ => ⟨_, h1, Kd.Q_nil _ _ _ _ _, h2⟩
  · rw [if_neg h0] at h
    cases h
    exact (free_asked a0_0 A0_1 c0_1 l0_1 a1 _ w ⟨hr0_1⟩ ⟨hc0_1⟩ ⟨he⟩ (bne_iff_ne.2 h0)).mono fun e w' ⟨h1, h2⟩ => ⟨_, h1, Kd.Q_nil _ _ _ _ _, h2⟩

end Go.Proofs.Ytoncnjnicgfhmab.Q
