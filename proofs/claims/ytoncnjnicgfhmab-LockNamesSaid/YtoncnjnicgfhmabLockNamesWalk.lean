/-
  LockNames answers true. This text: the law's walk.
-/
import Derived.Test.YtoncnjnicgfhmabLockFacts
namespace Go.Proofs.Ytoncnjnicgfhmab.Q
open Go.RowKit Go.Proofs.YtoncnjnicgfhmabW.PrintWords Go.Proofs.YtoncnjnicgfhmabW.PrintLast Go.Proofs.YtoncnjnicgfhmabW.PrintMore
set_option linter.unusedVariables false
set_option linter.unusedSimpArgs false

theorem take0_calls (w : World) : Calls Try.prog 8 #[.agg #[.int .i64 0, .slice none 0 0], .int .i64 0] w fun e w' => (∃ A c, e = .returned (.tuple #[.agg #[.int .i64 0, .slice A 0 c], .bool false, .int .i64 2])) ∧ Below w.heap.size w w' :=
  (lock_Take.calls 0 none 0 [] 0 0 [] false 2 w (Kd.C_nil _ _) (Nat.zero_le _) take0_val).mono fun e w' ⟨v, h, ho, hb⟩ => by
    obtain ⟨A, c, rfl⟩ := Kd.R_slice ho
    exact ⟨⟨A, c, h⟩, hb⟩
theorem take17_calls (w : World) : Calls Try.prog 8 #[.agg #[.int .i64 0, .slice none 0 0], .int .i64 17] w fun e w' => (∃ A c, e = .returned (.tuple #[.agg #[.int .i64 0, .slice A 0 c], .bool false, .int .i64 2])) ∧ Below w.heap.size w w' :=
  (lock_Take.calls 0 none 0 [] 17 0 [] false 2 w (Kd.C_nil _ _) (Nat.zero_le _) take17_val).mono fun e w' ⟨v, h, ho, hb⟩ => by
    obtain ⟨A, c, rfl⟩ := Kd.R_slice ho
    exact ⟨⟨A, c, h⟩, hb⟩

theorem one_C (w : World) (x : Int) : Kd.C (Kd.int .i64) (w.alloc (.cells #[.int .i64 x] 3)) (some ⟨w.heap.size, 0, none⟩) ([x] : List Int).length [x] :=
  (Kd.R_reads' (Kd.R_of_own (ok := fun _ => True) (by simpa [nums, encs] using own_lit w w.heap.size 3 .i64 [x] (Nat.le_refl _) (by simp)) (fun _ _ => trivial))).2.2
theorem checkLit_calls (o x r : Int) (w : World) (h : lock_Check.f o [x] = some r) : Calls Try.prog 10 #[.agg #[.int .i64 o, .slice (some ⟨w.heap.size, 0, none⟩) 1 1]] (w.alloc (.cells #[.int .i64 x] 3)) fun e w' => e = .returned (.int .i64 r) ∧ Below (w.alloc (.cells #[.int .i64 x] 3)).heap.size (w.alloc (.cells #[.int .i64 x] 3)) w' :=
  lock_Check.calls o _ 1 [x] r _ (one_C w x) (Nat.le_refl _) h

set_option maxHeartbeats 4000000 in
set_option maxRecDepth 100000 in
theorem lockNames_walk (w : World) :
    Calls Try.prog 3 #[] w fun e w' => e = .returned (.bool true) ∧ Below w.heap.size w w' := by
  have HB := Aside0.mk (Below.refl w.heap.size w)
  go_enter Try.func3, Try.ntmps3
  go_wp2_with (
    first
    | (go_at_call 7; refine (beadrolllaw26_three.calls 1 [2, 3] _ three_val).mono ?_; rintro e w1 ⟨v1, rfl, ho, hb⟩; ( have HB1 := Aside0.mk (below_step (by repeat (first | (with_reducible first | exact HB.out | apply below_alloc | apply below_drew1) | exact HB.out)) hb); clear HB hb; have HB := HB1; clear HB1); have HO := Aside0.mk ho; clear ho; obtain ⟨A1, c1, e1⟩ := Kd.R_slice HO.out; subst e1)
    | (go_at_call 6; refine (lock_Free.calls 1 _ _ [2, 3] 3 0 [] 0 2 _ (Kd.R_reads' HO.out).2.2 (Kd.R_reads' HO.out).2.1 free3_val).mono ?_; rintro e w2 ⟨v2, rfl, hq, hb⟩; ( have HB1 := Aside0.mk (below_step (by repeat (first | (with_reducible first | exact HB.out | apply below_alloc | apply below_drew1) | exact HB.out)) hb); clear HB hb; have HB := HB1; clear HB1); obtain ⟨A2, c2, e2, _⟩ := Kd.Q_slice hq; subst e2; clear hq HO)
    | (go_at_call 8; refine (lock_Take.calls 1 _ _ [2, 3] 2 0 [] false 2 _ (Kd.R_reads' HO.out).2.2 (Kd.R_reads' HO.out).2.1 take2_val).mono ?_; rintro e w2 ⟨v2, rfl, hq, hb⟩; ( have HB1 := Aside0.mk (below_step (by repeat (first | (with_reducible first | exact HB.out | apply below_alloc | apply below_drew1) | exact HB.out)) hb); clear HB hb; have HB := HB1; clear HB1); obtain ⟨A2, c2, e2⟩ := Kd.R_slice hq; subst e2; clear hq HO)
    | (go_at_call 8; (with_reducible refine (take0_calls _).mono ?_); rintro e w2 ⟨⟨A2, c2, rfl⟩, hb⟩; ( have HB1 := Aside0.mk (below_step (by repeat (first | (with_reducible first | exact HB.out | apply below_alloc | apply below_drew1) | exact HB.out)) hb); clear HB hb; have HB := HB1; clear HB1))
    | (go_at_call 8; (with_reducible refine (take17_calls _).mono ?_); rintro e w2 ⟨⟨A2, c2, rfl⟩, hb⟩; ( have HB1 := Aside0.mk (below_step (by repeat (first | (with_reducible first | exact HB.out | apply below_alloc | apply below_drew1) | exact HB.out)) hb); clear HB hb; have HB := HB1; clear HB1))
    | (go_at_call 9; refine (beadrolllaw26_alive.calls true _ alive_val).mono ?_; rintro e w2 ⟨rfl, hb⟩; ( have HB1 := Aside0.mk (below_step (by repeat (first | (with_reducible first | exact HB.out | apply below_alloc | apply below_drew1) | exact HB.out)) hb); clear HB hb; have HB := HB1; clear HB1))
    | (go_at_call 10; (with_reducible refine (checkLit_calls 0 1 8 _ check0_val).mono ?_); rintro e w2 ⟨rfl, hb⟩; ( have HB1 := Aside0.mk (below_step (by repeat (first | (with_reducible first | exact HB.out | apply below_alloc | apply below_drew1) | exact HB.out)) hb); clear HB hb; have HB := HB1; clear HB1))
    | (go_at_call 10; (with_reducible refine (checkLit_calls 1 1 8 _ check1_val).mono ?_); rintro e w2 ⟨rfl, hb⟩; ( have HB1 := Aside0.mk (below_step (by repeat (first | (with_reducible first | exact HB.out | apply below_alloc | apply below_drew1) | exact HB.out)) hb); clear HB hb; have HB := HB1; clear HB1)))
  go_ret
  exact ⟨rfl, HB.out⟩

end Go.Proofs.Ytoncnjnicgfhmab.Q
