/-
  LockNearer answers true for every lock and two tasks. This text: the law's walk.
-/
import Derived.Test.YtoncnjnicgfhmabNearerWalks
import Derived.Test.YtoncnjnicgfhmabLockPure
namespace Go.Proofs.Ytoncnjnicgfhmab.Q
open Go.RowKit Go.Proofs.YtoncnjnicgfhmabW.PrintWords Go.Proofs.YtoncnjnicgfhmabW.PrintLast Go.Proofs.YtoncnjnicgfhmabW.PrintMore
set_option linter.unusedVariables false
set_option linter.unusedSimpArgs false

set_option maxHeartbeats 4000000 in
set_option maxRecDepth 100000 in
theorem near_long (o n other : Int) (l : List Int) (A : Option Addr) (c : Nat) (w : World) (d30 : decide (30 < (l.length : Int)) = true) :
    Calls Try.prog 4 #[.agg #[.int .i64 o, .slice A l.length c], .int .i64 n, .int .i64 other] w fun e w' => e = .returned (.bool true) ∧ Below w.heap.size w w' := by
  have HB := Aside0.mk (Below.refl w.heap.size w)
  go_enter Try.func4, Try.ntmps4
  go_wp2_with (
    first
    | (go_at_call 9; (with_reducible refine (beadrolllaw26_alive.calls true _ alive_val).mono ?_); rintro e w1 ⟨rfl, hb⟩; have BK := Aside0.mk (blk_below (blk_new w (.cells #[.int .i64 o, .slice A l.length c] 24)) hb); have n0 : Aside0 (Below w.heap.size w w1) := ⟨below_step (by repeat (first | (with_reducible exact HB.out) | apply below_alloc)) hb⟩; clear HB; have HB := n0; clear n0 hb; have hz0 : w1.cell? ⟨w.heap.size, 0, none⟩ = some (.int .i64 o) := (blk_cell BK.out 0).trans rfl; have hz1 : w1.cell? ⟨w.heap.size, 1, none⟩ = some (.slice A l.length c) := (blk_cell BK.out 1).trans rfl))
  go_ret
  exact ⟨rfl, HB.out⟩
set_option maxHeartbeats 4000000 in
set_option maxRecDepth 100000 in
theorem near_bad (o n other : Int) (l : List Int) (A : Option Addr) (c : Nat) (w : World) (d30 : decide (30 < (l.length : Int)) = false) (HC0 : Aside0 (Kd.C (Kd.int .i64) w A l.length l)) (HCc : Aside0 (l.length ≤ c)) (HK : Aside0 (lock_Check.f o l = some 8)) :
    Calls Try.prog 4 #[.agg #[.int .i64 o, .slice A l.length c], .int .i64 n, .int .i64 other] w fun e w' => e = .returned (.bool true) ∧ Below w.heap.size w w' := by
  have HB := Aside0.mk (Below.refl w.heap.size w)
  go_enter Try.func4, Try.ntmps4
  go_wp2_with (
    first
    | (go_at_call 9; (with_reducible refine (beadrolllaw26_alive.calls true _ alive_val).mono ?_); rintro e w1 ⟨rfl, hb⟩; have BK := Aside0.mk (blk_below (blk_new w (.cells #[.int .i64 o, .slice A l.length c] 24)) hb); have HC := Aside0.mk (Kd.C_below (Kd.C_alloc HC0.out _) hb); have n0 : Aside0 (Below w.heap.size w w1) := ⟨below_step (by repeat (first | (with_reducible exact HB.out) | apply below_alloc)) hb⟩; clear HB; have HB := n0; clear n0 hb; have hz0 : w1.cell? ⟨w.heap.size, 0, none⟩ = some (.int .i64 o) := (blk_cell BK.out 0).trans rfl; have hz1 : w1.cell? ⟨w.heap.size, 1, none⟩ = some (.slice A l.length c) := (blk_cell BK.out 1).trans rfl)
    | (go_at_call 10; (with_reducible refine (lock_Check.calls o _ _ l 8 _ HC.out HCc.out HK.out).mono ?_); rintro e w2 ⟨rfl, hb⟩; have n0 : Aside0 (Below w.heap.size w w2) := ⟨below_step HB.out hb⟩; clear HB; have HB := n0; clear n0 hb))
  go_ret
  exact ⟨rfl, HB.out⟩

/-- The four ways to be freed, of a lock that may be and has an owner. -/
theorem freed_cases {o : Int} {l : List Int} (h : Good (o :: l)) (h0 : o ≠ 0) (n : Int) :
    (lock_Ahead.f o l n = some (0, 2) ∧ lock_Ahead.f (l.headD 0) l.tail n = some (0, 2)) ∨
    (lock_Ahead.f o l n = some (0, 0) ∧ lock_Ahead.f (l.headD 0) l.tail n = some (0, 2)) ∨
    (∃ p : Int, 1 < p ∧ p ≤ l.length ∧ lock_Ahead.f o l n = some (p, 0) ∧ lock_Ahead.f (l.headD 0) l.tail n = some (p - 1, 0)) ∨
    (∃ p : Int, p = 1 ∧ lock_Ahead.f o l n = some (p, 0) ∧ lock_Ahead.f (l.headD 0) l.tail n = some (p - 1, 0) ∧ l.headD 0 = n) := by
  have hm : May o l := .inr ⟨h0, h⟩
  have hb := may_freed (good_tail h)
  have ht : tasks o l = o :: l := if_neg h0
  have hbt := tasks_freed (good_tail h)
  have hnd := List.nodup_cons.1 h.2
  by_cases h1 : n ∈ tasks o l
  · have e1 := ahead_in hm h1
    rw [ht] at h1 e1
    by_cases h2 : n = o
    · subst h2
      refine .inr (.inl ⟨by simpa using e1, ahead_out hb (by rw [hbt]; exact hnd.1)⟩)
    · have h3 : n ∈ l := (List.mem_cons.1 h1).resolve_left h2
      have e2 := ahead_in hb (n := n) (by rw [hbt]; exact h3)
      rw [hbt] at e2
      rw [List.idxOf_cons, beq_eq_false_iff_ne.2 (fun e => h2 e.symm)] at e1
      simp only [cond_false] at e1
      have hlt := List.idxOf_lt_length_of_mem h3
      by_cases h4 : l.idxOf n = 0
      · refine .inr (.inr (.inr ⟨1, rfl, ?_, ?_, ?_⟩))
        · rw [e1, h4]; rfl
        · rw [e2, h4]; rfl
        · cases l with
          | nil => simp at h3
          | cons x xs =>
            by_cases hx : x = n
            · exact hx
            · rw [List.idxOf_cons, beq_eq_false_iff_ne.2 hx] at h4; simp at h4
      · refine .inr (.inr (.inl ⟨(l.idxOf n : Int) + 1, by omega, by omega, ?_, ?_⟩))
        · rw [e1]; rfl
        · rw [e2]; simp
  · refine .inl ⟨ahead_out hm h1, ahead_out hb (by rw [hbt]; rw [ht] at h1; exact fun hh => h1 (by simp [hh]))⟩

theorem ahead_same {o : Int} {l : List Int} (h : May o l) {t : Int} (hb : taskB t = true) (ht : t ∉ tasks o l) {n : Int} (hn : n ≠ t) {o' : Int} {l' : List Int} (h' : May o' l') (e : tasks o' l' = tasks o l ++ [t]) : lock_Ahead.f o' l' n = lock_Ahead.f o l n := by
  by_cases h1 : n ∈ tasks o l
  · rw [ahead_in h h1, ahead_in h' (by rw [e]; simp [h1]), e, List.idxOf_append, if_pos h1]
  · rw [ahead_out h h1, ahead_out h' (by rw [e]; simp [h1, hn])]
theorem ahead_some (o : Int) (l : List Int) (h : May o l) (n : Int) : ∃ p e, lock_Ahead.f o l n = some (p, e) := by
  by_cases h1 : n ∈ tasks o l
  · exact ⟨_, _, ahead_in h h1⟩
  · exact ⟨_, _, ahead_out h h1⟩

theorem lockNearer_walk (A : Option Addr) (c : Nat) (o : Int) (l : List Int) (n other : Int) (w : World) (hC : Kd.C (Kd.int .i64) w A l.length l) (hc : l.length ≤ c) :
    Calls Try.prog 4 #[.agg #[.int .i64 o, .slice A l.length c], .int .i64 n, .int .i64 other] w fun e w' => e = .returned (.bool true) ∧ Below w.heap.size w w' := by
  by_cases h30 : 30 < (l.length : Int)
  · exact near_long o n other l A c w (decide_eq_true h30)
  have d30 := decide_eq_false h30
  rcases (check_some o l).symm with ⟨hk, _⟩ | ⟨hk, hm⟩
  · exact near_bad o n other l A c w d30 ⟨hC⟩ ⟨hc⟩ ⟨hk⟩
  have hl : l.length < 17592186044416 := by omega
  by_cases h0 : o = 0
  · have hl0 : l = [] := by
      rcases hm with ⟨_, h⟩ | ⟨h, _⟩
      · exact h
      · exact absurd h0 h
    subst h0 hl0
    have hno : ∀ x, x ∉ tasks 0 [] := fun x => by simp [tasks]
    by_cases ht : taskB other = true
    · have h0t : other ≠ 0 := taskB_ne ht
      have hT := take_in hm hl ht (hno other)
      rw [if_pos rfl] at hT
      have hma : May other [] := .inr ⟨h0t, ⟨fun x hx => by rw [List.mem_singleton.1 hx]; exact ht, by simp⟩⟩
      by_cases hn : n = other
      · obtain ⟨q, g, hq⟩ := ahead_some other [] hma n
        exact near_T2_F0 0 n other other 0 q g [] [] [] A c w ⟨hC⟩ ⟨hc⟩ d30 ⟨hk⟩ ⟨ahead_out hm (hno n)⟩ ⟨hT⟩ ⟨free_none⟩ rfl ⟨hq⟩ ⟨check_may hma⟩ (by simp [hn]) (by simp)
      · have hq := ahead_same hm ht (hno other) hn hma (by simp [tasks, h0t])
        rw [ahead_out hm (hno n)] at hq
        exact near_T3_F0 0 n other other 0 [] [] [] A c w ⟨hC⟩ ⟨hc⟩ d30 ⟨hk⟩ ⟨ahead_out hm (hno n)⟩ ⟨hT⟩ ⟨free_none⟩ rfl ⟨hq⟩ ⟨check_may hma⟩ (by simp [hn]) (by simp)
    · exact near_T1_F0 0 n other 0 0 [] [] [] A c w ⟨hC⟩ ⟨hc⟩ d30 ⟨hk⟩ ⟨ahead_out hm (hno n)⟩ ⟨take_out hm hl (fun h => ht h.1)⟩ ⟨free_none⟩ rfl
  · have hg : Good (o :: l) := by
      rcases hm with ⟨h, _⟩ | ⟨_, h⟩
      · exact absurd h h0
      · exact h
    have hts : tasks o l = o :: l := if_neg h0
    have hF := free_own hm hl h0
    have hKb := check_may (may_freed (good_tail hg))
    have d0 : (o == 0) = false := beq_eq_false_iff_ne.2 h0
    have hfc := freed_cases hg h0 n
    have w2 : ∀ p : Int, 1 ≤ p → p ≤ 31 → IntKind.i64.wrap (p - 1) = p - 1 := fun p h1 h2 => by rw [IntKind.wrap_i64]; omega
    by_cases ht : taskB other = true ∧ other ∉ tasks o l
    · obtain ⟨hb, hni⟩ := ht
      have hT := take_in hm hl hb hni
      rw [if_neg h0] at hT
      have hoo : o ≠ other := fun e => hni (by rw [hts, e]; simp)
      have hga : Good (tasks o (l ++ [other])) := by
        have : tasks o (l ++ [other]) = tasks o l ++ [other] := by simp [tasks, h0]
        rw [this]; exact good_snoc (may_good hm) hb hni
      have hma : May o (l ++ [other]) := may_of_good hga (fun h => absurd h h0)
      have hKa := check_may hma
      have dao : (o == other) = false := beq_eq_false_iff_ne.2 hoo
      have dar : (o != o) = false := by simp
      by_cases hn : n = other
      · obtain ⟨q, g, hq⟩ := ahead_some o (l ++ [other]) hma n
        have dn : (n != other) = false := by simp [hn]
        rcases hfc with ⟨h1, h3⟩ | ⟨h1, h3⟩ | ⟨p, hp, hp2, h1, h3⟩ | ⟨p, hp, h1, h3, h4⟩
        · exact near_T4_F1 o n other o _ q g l _ _ A c w ⟨hC⟩ ⟨hc⟩ d30 ⟨hk⟩ ⟨h1⟩ ⟨hT⟩ ⟨hF⟩ d0 ⟨hq⟩ ⟨hKa⟩ dn dao dar ⟨h3⟩ ⟨hKb⟩
        · exact near_T4_F2 o n other o _ q g l _ _ A c w ⟨hC⟩ ⟨hc⟩ d30 ⟨hk⟩ ⟨h1⟩ ⟨hT⟩ ⟨hF⟩ d0 ⟨hq⟩ ⟨hKa⟩ dn dao dar ⟨h3⟩ ⟨hKb⟩
        · exact near_T4_F3 o n other o _ p q g l _ _ A c w ⟨hC⟩ ⟨hc⟩ d30 ⟨hk⟩ ⟨h1⟩ ⟨hT⟩ ⟨hF⟩ d0 ⟨hq⟩ ⟨hKa⟩ dn dao dar ⟨h3⟩ ⟨hKb⟩ (beq_eq_false_iff_ne.2 (by omega)) (decide_eq_true (by omega)) (decide_eq_true hp) (w2 p (by omega) (by omega))
        · exact near_T4_F4 o n other o _ p q g l _ _ A c w ⟨hC⟩ ⟨hc⟩ d30 ⟨hk⟩ ⟨h1⟩ ⟨hT⟩ ⟨hF⟩ d0 ⟨hq⟩ ⟨hKa⟩ dn dao dar ⟨h3⟩ ⟨hKb⟩ (beq_eq_false_iff_ne.2 (by omega)) (decide_eq_true (by omega)) (decide_eq_false (by omega)) (w2 p (by omega) (by omega)) (beq_iff_eq.2 h4)
      · have hq := ahead_same hm hb hni hn hma (by simp [tasks, h0])
        have dn : (n != other) = true := by simp [hn]
        rcases hfc with ⟨h1, h3⟩ | ⟨h1, h3⟩ | ⟨p, hp, hp2, h1, h3⟩ | ⟨p, hp, h1, h3, h4⟩
        all_goals rw [h1] at hq
        · exact near_T5_F1 o n other o _ l _ _ A c w ⟨hC⟩ ⟨hc⟩ d30 ⟨hk⟩ ⟨h1⟩ ⟨hT⟩ ⟨hF⟩ d0 ⟨hq⟩ ⟨hKa⟩ dn dao dar ⟨h3⟩ ⟨hKb⟩
        · exact near_T5_F2 o n other o _ l _ _ A c w ⟨hC⟩ ⟨hc⟩ d30 ⟨hk⟩ ⟨h1⟩ ⟨hT⟩ ⟨hF⟩ d0 ⟨hq⟩ ⟨hKa⟩ dn dao dar ⟨h3⟩ ⟨hKb⟩
        · exact near_T5_F3 o n other o _ p l _ _ A c w ⟨hC⟩ ⟨hc⟩ d30 ⟨hk⟩ ⟨h1⟩ ⟨hT⟩ ⟨hF⟩ d0 ⟨hq⟩ ⟨hKa⟩ dn dao dar ⟨h3⟩ ⟨hKb⟩ (beq_eq_false_iff_ne.2 (by omega)) (decide_eq_true (by omega)) (decide_eq_true hp) (w2 p (by omega) (by omega))
        · exact near_T5_F4 o n other o _ p l _ _ A c w ⟨hC⟩ ⟨hc⟩ d30 ⟨hk⟩ ⟨h1⟩ ⟨hT⟩ ⟨hF⟩ d0 ⟨hq⟩ ⟨hKa⟩ dn dao dar ⟨h3⟩ ⟨hKb⟩ (beq_eq_false_iff_ne.2 (by omega)) (decide_eq_true (by omega)) (decide_eq_false (by omega)) (w2 p (by omega) (by omega)) (beq_iff_eq.2 h4)
    · have hT := take_out hm hl ht
      rcases hfc with ⟨h1, h3⟩ | ⟨h1, h3⟩ | ⟨p, hp, hp2, h1, h3⟩ | ⟨p, hp, h1, h3, h4⟩
      · exact near_T1_F1 o n other _ _ l _ _ A c w ⟨hC⟩ ⟨hc⟩ d30 ⟨hk⟩ ⟨h1⟩ ⟨hT⟩ ⟨hF⟩ d0 ⟨h3⟩ ⟨hKb⟩
      · exact near_T1_F2 o n other _ _ l _ _ A c w ⟨hC⟩ ⟨hc⟩ d30 ⟨hk⟩ ⟨h1⟩ ⟨hT⟩ ⟨hF⟩ d0 ⟨h3⟩ ⟨hKb⟩
      · exact near_T1_F3 o n other _ _ p l _ _ A c w ⟨hC⟩ ⟨hc⟩ d30 ⟨hk⟩ ⟨h1⟩ ⟨hT⟩ ⟨hF⟩ d0 ⟨h3⟩ ⟨hKb⟩ (beq_eq_false_iff_ne.2 (by omega)) (decide_eq_true (by omega)) (decide_eq_true hp) (w2 p (by omega) (by omega))
      · exact near_T1_F4 o n other _ _ p l _ _ A c w ⟨hC⟩ ⟨hc⟩ d30 ⟨hk⟩ ⟨h1⟩ ⟨hT⟩ ⟨hF⟩ d0 ⟨h3⟩ ⟨hKb⟩ (beq_eq_false_iff_ne.2 (by omega)) (decide_eq_true (by omega)) (decide_eq_false (by omega)) (w2 p (by omega) (by omega)) (beq_iff_eq.2 h4)

end Go.Proofs.Ytoncnjnicgfhmab.Q
