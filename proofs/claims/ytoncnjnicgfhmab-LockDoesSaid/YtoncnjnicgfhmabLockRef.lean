/-
  The document's answers about locks, plainly: they are the program's.
-/
import Derived.Test.YtoncnjnicgfhmabLockPure
import Derived.Test.YtoncnjnicgfhmabQ5
import Derived.Test.YtoncnjnicgfhmabQ4
namespace Go.Proofs.Ytoncnjnicgfhmab.Q
open Go.RowKit Go.Proofs.YtoncnjnicgfhmabW.PrintWords Go.Proofs.YtoncnjnicgfhmabW.PrintLast Go.Proofs.YtoncnjnicgfhmabW.PrintMore
set_option linter.unusedVariables false

theorem wrap64_in {n : Int} (h : -9223372036854775808 ≤ n ∧ n ≤ 9223372036854775807) : wrap64 n = n := by
  have := IntKind.wrap_i64 n
  unfold wrap64; omega
theorem rd_drop (ts : List Int) (i : Nat) (h : i < ts.length) : ts.drop i = rd ts (i : Int) :: ts.drop (i + 1) := by
  rw [List.drop_eq_getElem_cons h]
  congr 1
  simp [rd, h]
theorem find_l0 (x : Int) (ts : List Int) (hts : ts.length ≤ 1000) : ∀ (k i : Nat), ts.length < k + i → i ≤ ts.length → beadrollref26_Find.l0 k x ts (i : Int) = some (findAt (ts.drop i) x i)
  | 0, i, h, h2 => by omega
  | k + 1, i, h, h2 => by
    unfold beadrollref26_Find.l0
    by_cases hi : i < ts.length
    · rw [if_pos (by omega), if_pos (by omega), rd_drop ts i hi]
      simp only [findAt]
      by_cases hx : rd ts (i : Int) = x
      · rw [if_pos hx, if_pos hx]
      · rw [if_neg hx, if_neg hx, wrap64_in (by omega)]
        exact find_l0 x ts hts k (i + 1) (by omega) (by omega)
    · rw [if_neg (by omega), List.drop_eq_nil_of_le (by omega)]
      rfl
theorem all_f (o : Int) (l : List Int) (hl : l.length ≤ 30) : beadrollref26_All.f o l = some (tasks o l) := by
  unfold beadrollref26_All.f tasks
  split
  · rfl
  · simp only [Option.bind_some]
    rw [if_pos (by simp; omega)]
    rfl
theorem tasks_le (o : Int) (l : List Int) (hl : l.length ≤ 30) : (tasks o l).length ≤ 31 := by have := tasks_length_le o l; omega
theorem find_f (o : Int) (l : List Int) (hl : l.length ≤ 30) (x : Int) (k : Nat) (hk : 32 ≤ k) : beadrollref26_Find.f k o l x = some (findIn (tasks o l) x) := by
  unfold beadrollref26_Find.f
  rw [all_f o l hl]
  have := tasks_le o l hl
  have h := find_l0 x (tasks o l) (by omega) k 0 (by omega) (by omega)
  simpa [findIn] using h
theorem rtask_eq (x : Int) : beadrollref26_task.f x = some (taskB x) := by
  unfold beadrollref26_task.f taskB; split <;> rfl
def goodB (ts : List Int) (j : Nat) : Bool := taskB (ts[j]?.getD 0) && (findIn ts (ts[j]?.getD 0) == (j : Int))
theorem rd_getD (ts : List Int) (i : Nat) : rd ts (i : Int) = ts[i]?.getD 0 := by simp [rd]
theorem may_l0 (o : Int) (l : List Int) (hl : l.length ≤ 30) : ∀ (k i : Nat), 70 ≤ k + i → i ≤ (tasks o l).length → beadrollref26_May.l0 k (tasks o l) (i : Int) o l = some ((List.range' i ((tasks o l).length - i)).all (goodB (tasks o l)))
  | 0, i, h, h2 => by have := tasks_le o l hl; omega
  | k + 1, i, h, h2 => by
    have ht := tasks_le o l hl
    unfold beadrollref26_May.l0
    by_cases hi : i < (tasks o l).length
    · rw [if_pos (by omega), if_pos (by omega), rtask_eq]
      simp only [Option.bind_some]
      have hr : (tasks o l).length - i = ((tasks o l).length - (i + 1)) + 1 := by omega
      rw [hr, List.range'_succ, List.all_cons, rd_getD]
      unfold goodB
      by_cases hb : taskB ((tasks o l)[i]?.getD 0) = true
      · rw [if_pos hb, find_f o l hl _ k (by omega), hb]
        simp only [Option.bind_some, Bool.true_and]
        by_cases hf : findIn (tasks o l) ((tasks o l)[i]?.getD 0) = (i : Int)
        · rw [if_pos hf, wrap64_in (by omega), beq_iff_eq.2 hf, Bool.true_and]
          exact may_l0 o l hl k (i + 1) (by omega) (by omega)
        · rw [if_neg hf, beq_eq_false_iff_ne.2 hf, Bool.false_and]
      · rw [if_neg hb, Bool.eq_false_iff.2 hb, Bool.false_and, Bool.false_and]
    · rw [if_neg (by omega), show (tasks o l).length - i = 0 by omega]
      rfl
theorem goodB_all (ts : List Int) : (List.range' 0 (ts.length - 0)).all (goodB ts) = okTasks ts := by
  rw [Nat.sub_zero, ← List.range_eq_range']; rfl
theorem may_j0 (k : Nat) (ts : List Int) (b : Bool) (o : Int) (l : List Int) : beadrollref26_May.j0 (k + 1) ts b o l = if b = true then some false else beadrollref26_May.l0 k ts 0 o l := by rw [beadrollref26_May.j0]
theorem same_j0 (k : Nat) (b : Bool) (o o2 : Int) (l l2 : List Int) : beadrollref26_Same.j0 (k + 1) b o l o2 l2 = if b = true then some false else beadrollref26_Same.l0 k 0 o l o2 l2 := by rw [beadrollref26_Same.j0]
theorem may_f (o : Int) (l : List Int) (hl : l.length ≤ 30) (k : Nat) (hk : 80 ≤ k) : (May o l → beadrollref26_May.f k o l = some true) ∧ (¬ May o l → beadrollref26_May.f k o l = some false) := by
  have hl0 := may_l0 o l hl (k - 1) 0 (by omega) (by omega)
  rw [goodB_all] at hl0
  obtain ⟨k, rfl⟩ : ∃ k', k = k' + 1 := ⟨k - 1, by omega⟩
  rw [Nat.add_sub_cancel] at hl0
  unfold beadrollref26_May.f
  rw [all_f o l hl]
  simp only [Option.bind_some]
  by_cases h0 : o = 0
  · have ht : tasks o l = [] := if_pos h0
    rw [ht] at hl0 ⊢
    rw [if_pos (show ((([] : List Int).length : Int) = 0) from rfl), may_j0]
    by_cases hlz : l = []
    · have hm : May o l := .inl ⟨h0, hlz⟩
      refine ⟨fun _ => ?_, fun h => absurd hm h⟩
      rw [if_neg (by simp [hlz])]
      exact hl0
    · have hm : ¬ May o l := fun h => h.elim (fun h => hlz h.2) (fun h => h.1 h0)
      refine ⟨fun h => absurd h hm, fun _ => ?_⟩
      have := List.length_pos_iff.2 hlz
      rw [if_pos (decide_eq_true (by omega))]
  · have ht : tasks o l = o :: l := if_neg h0
    rw [if_neg (by rw [ht]; simp; omega), may_j0, if_neg (by simp)]
    have hl0 : beadrollref26_May.l0 k (tasks o l) 0 o l = some (okTasks (tasks o l)) := hl0
    rw [hl0, ht]
    refine ⟨fun h => ?_, fun h => ?_⟩
    · rw [(okTasks_iff _).2 (h.elim (fun h => absurd h.1 h0) (fun h => h.2))]
    · congr 1
      rw [Bool.eq_false_iff]
      exact fun hh => h (.inr ⟨h0, (okTasks_iff _).1 hh⟩)
theorem rcheck_f (o : Int) (l : List Int) (hl : l.length ≤ 30) : ∃ r, lock_Check.f o l = some r ∧ beadrollref26_Check.f 100 o l = some r := by
  unfold beadrollref26_Check.f
  by_cases hm : May o l
  · rw [check_may hm, (may_f o l hl 100 (by omega)).1 hm]; exact ⟨0, rfl, rfl⟩
  · rw [check_not hm, (may_f o l hl 100 (by omega)).2 hm]; exact ⟨8, rfl, rfl⟩
theorem rtwin_f (o : Int) (l : List Int) (hl : l.length ≤ 30) : beadrollref26_Twin.f o l = some (o, l) := by
  unfold beadrollref26_Twin.f
  rw [if_pos (by simp; omega)]; rfl
theorem twin_f (o : Int) (l : List Int) (hl : l.length ≤ 30) : lock_Twin.f o l = some (o, l) := by
  unfold lock_Twin.f slices_Clone_int_int.f
  rw [if_pos (by omega)]; rfl
theorem of_f (ts : List Int) (h : ts.length ≤ 32) : beadrollref26_Of.f ts = some (ts.headD 0, ts.tail) := by
  unfold beadrollref26_Of.f
  cases ts with
  | nil => rfl
  | cons t ts =>
    rw [if_neg (by simp <;> omega), if_pos (by simp <;> omega), if_pos (by simp <;> omega), if_pos (by simp at h ⊢; omega)]
    simp [rd]
theorem rtake_f (o : Int) (l : List Int) (hl : l.length ≤ 30) (t : Int) : ∃ r1 r2 r3 r4, lock_Take.f o l t = some (r1, r2, r3, r4) ∧ beadrollref26_Take.f 100 o l t = some (r1, r2, r3, r4) ∧ r2.length ≤ 31 := by
  unfold beadrollref26_Take.f
  by_cases hm : May o l
  · rw [(may_f o l hl 100 (by omega)).1 hm]
    simp only [Option.bind_some, if_true, rtask_eq, find_f o l hl t 100 (by omega)]
    by_cases ht : taskB t = true ∧ t ∉ tasks o l
    · have hF := (findIn_neg (tasks o l) t).2 ht.2
      have htl := tasks_le o l hl
      refine ⟨if o = 0 then t else o, if o = 0 then l else l ++ [t], o == 0, 0, (take_in hm (by omega) ht.1 ht.2).trans ?_, ?_, ?_⟩
      · split <;> rename_i h0 <;> simp [h0]
      · rw [if_pos ht.1, if_neg (by omega)]
        unfold beadrollref26_Taken.f
        rw [all_f o l hl]
        simp only [Option.bind_some]
        rw [if_pos (by omega), of_f _ (by simp; omega)]
        simp only [Option.bind_some]
        by_cases h0 : o = 0
        · have hl0 : l = [] := hm.elim (fun h => h.2) (fun h => absurd h0 h.1)
          subst hl0
          simp [h0, tasks]
        · simp [h0, tasks]
      · split
        · omega
        · simp; omega
    · refine ⟨0, [], false, 2, take_out hm (by omega) ht, ?_, by simp⟩
      by_cases hb : taskB t = true
      · rw [if_pos hb, if_pos (by have := mt (findIn_neg (tasks o l) t).1 (fun hh => ht ⟨hb, hh⟩); omega)]
      · rw [if_neg hb]
  · rw [(may_f o l hl 100 (by omega)).2 hm]
    refine ⟨0, [], false, 8, ?_, rfl, by simp⟩
    unfold lock_Take.f
    rw [asked_not' hm]
    rfl
theorem rfree_f (o : Int) (l : List Int) (hl : l.length ≤ 30) (t : Int) : ∃ r1 r2 r3 r4, lock_Free.f o l t = some (r1, r2, r3, r4) ∧ beadrollref26_Free.f 100 o l t = some (r1, r2, r3, r4) ∧ r2.length ≤ 31 := by
  unfold beadrollref26_Free.f lock_Free.f
  by_cases hm : May o l
  · rw [(may_f o l hl 100 (by omega)).1 hm, asked_may' hm]
    simp only [Option.bind_some, if_true, rtask_eq]
    by_cases hb : taskB t = true
    · simp only [hb, if_true]
      by_cases ho : o = t
      · subst ho
        have h0 := taskB_ne hb
        rw [if_pos rfl, if_pos rfl, if_pos (by omega)]
        unfold beadrollref26_Freed.f
        rw [all_f o l hl]
        have ht : tasks o l = o :: l := if_neg h0
        simp only [Option.bind_some, ht]
        rw [if_pos (by simp; omega)]
        simp only [List.drop_succ_cons, List.drop_zero]
        rw [of_f l (by omega)]
        exact ⟨_, _, _, _, rfl, rfl, by simp; omega⟩
      · rw [if_neg ho, if_neg ho]
        exact ⟨_, _, _, _, rfl, rfl, by simp⟩
    · simp only [hb]
      exact ⟨_, _, _, _, rfl, rfl, by simp⟩
  · rw [(may_f o l hl 100 (by omega)).2 hm, asked_not' hm]
    exact ⟨_, _, _, _, rfl, rfl, by simp⟩
theorem rahead_f (o : Int) (l : List Int) (hl : l.length ≤ 30) (t : Int) : ∃ r1 r2, lock_Ahead.f o l t = some (r1, r2) ∧ beadrollref26_Ahead.f 100 o l t = some (r1, r2) := by
  unfold beadrollref26_Ahead.f
  by_cases hm : May o l
  · rw [(may_f o l hl 100 (by omega)).1 hm]
    simp only [Option.bind_some, if_true, rtask_eq, find_f o l hl t 100 (by omega)]
    by_cases h : t ∈ tasks o l
    · rw [ahead_in hm h, if_pos ((may_good hm).1 t h), findIn_eq, if_pos h, if_neg (by omega)]
      exact ⟨_, _, rfl, rfl⟩
    · rw [ahead_out hm h, if_pos ((findIn_neg _ _).2 h)]
      exact ⟨_, _, rfl, by split <;> rfl⟩
  · rw [(may_f o l hl 100 (by omega)).2 hm]
    refine ⟨0, 8, ?_, rfl⟩
    unfold lock_Ahead.f
    rw [asked_not hm]
    rfl
theorem same_l0 (o o2 : Int) (l l2 : List Int) (hl : l.length ≤ 31) (he : l.length = l2.length) : ∀ (k i : Nat), l.length < k + i → i ≤ l.length → beadrollref26_Same.l0 k (i : Int) o l o2 l2 = some (decide (l.drop i = l2.drop i))
  | 0, i, h, h2 => by omega
  | k + 1, i, h, h2 => by
    unfold beadrollref26_Same.l0
    by_cases hi : i < l.length
    · rw [if_pos (by omega), if_pos (by omega), if_pos (by omega), rd_drop l i hi, rd_drop l2 i (by omega)]
      by_cases hx : rd l (i : Int) = rd l2 (i : Int)
      · rw [if_pos hx, wrap64_in (by omega)]
        have := same_l0 o o2 l l2 hl he k (i + 1) (by omega) (by omega)
        rw [show ((i : Int) + 1) = ((i + 1 : Nat) : Int) by omega, this]
        simp [hx]
      · rw [if_neg hx]; simp [hx]
    · rw [if_neg (by omega), List.drop_eq_nil_of_le (by omega), List.drop_eq_nil_of_le (by omega)]; simp
theorem same_f (o o2 : Int) (l l2 : List Int) (hl : l.length ≤ 31) : beadrollref26_Same.f 100 o l o2 l2 = some (decide (o = o2 ∧ l = l2)) := by
  unfold beadrollref26_Same.f
  by_cases ho : o = o2
  · rw [if_pos ho]
    rw [same_j0]
    by_cases he : l.length = l2.length
    · rw [if_neg (by simp [he])]
      have := same_l0 o o2 l l2 hl he 99 0 (by omega) (by omega)
      simpa [ho] using this
    · rw [if_pos (by simp; omega)]
      have : l ≠ l2 := fun e => he (by rw [e])
      simp [this]
  · rw [if_neg ho]
    rw [same_j0, if_pos rfl]; simp [ho]
theorem equal_l0 (l l2 : List Int) (hl : l.length ≤ 31) (he : l.length = l2.length) : ∀ (k i : Nat), l.length < k + i → i ≤ l.length → slices_Equal_int_int.l0 k l l2 (l.length : Int) (i : Int) = some (decide (l.drop i = l2.drop i))
  | 0, i, h, h2 => by omega
  | k + 1, i, h, h2 => by
    unfold slices_Equal_int_int.l0
    by_cases hi : i < l.length
    · rw [if_pos (by omega), if_pos (by omega), if_pos (by omega), if_pos (by omega), rd_drop l i hi, rd_drop l2 i (by omega)]
      by_cases hx : rd l (i : Int) = rd l2 (i : Int)
      · rw [if_pos hx, wrap64_in (by omega)]
        have := equal_l0 l l2 hl he k (i + 1) (by omega) (by omega)
        rw [show ((i : Int) + 1) = ((i + 1 : Nat) : Int) by omega, this]
        simp [hx]
      · rw [if_neg hx]; simp [hx]
    · rw [if_neg (by omega), List.drop_eq_nil_of_le (by omega), List.drop_eq_nil_of_le (by omega)]; simp
theorem lsame_f (o o2 : Int) (l l2 : List Int) (hl : l.length ≤ 31) : lock_Same.f 100 o l o2 l2 = some (decide (o = o2 ∧ l = l2)) := by
  unfold lock_Same.f
  by_cases ho : o = o2
  · rw [if_pos ho]
    unfold slices_Equal_int_int.f
    by_cases he : l.length = l2.length
    · rw [if_pos (by omega)]
      have : slices_Equal_int_int.l0 100 l l2 (l.length : Int) 0 = _ := equal_l0 l l2 hl he 100 0 (by omega) (by omega)
      rw [this]
      simp [ho]
    · rw [if_neg (by omega)]
      have : l ≠ l2 := fun e => he (by rw [e])
      simp [this]
  · rw [if_neg ho]; simp [ho]

end Go.Proofs.Ytoncnjnicgfhmab.Q
