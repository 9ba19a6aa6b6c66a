/-
  The lock's functions, plainly: what they come to at a lock that may be, by its list of tasks.
-/
import Derived.Test.YtoncnjnicgfhmabLockFacts
namespace Go.Proofs.Ytoncnjnicgfhmab.Q
set_option linter.unusedVariables false

theorem findAt_eq (x : Int) : ∀ (ts : List Int) (i : Nat), findAt ts x i = if x ∈ ts then ((i + ts.idxOf x : Nat) : Int) else -1
  | [], i => by simp [findAt]
  | t :: ts, i => by
    simp only [findAt]
    by_cases h : t = x
    · subst h; simp
    · rw [if_neg h, findAt_eq x ts (i + 1)]
      have h' : ¬ x = t := fun e => h e.symm
      by_cases hm : x ∈ ts
      · simp only [List.mem_cons, hm, or_true, if_true]
        rw [List.idxOf_cons, beq_eq_false_iff_ne.2 h]
        simp only [cond_false]
        congr 1; omega
      · simp [List.mem_cons, hm, h']
theorem findIn_eq (ts : List Int) (x : Int) : findIn ts x = if x ∈ ts then (ts.idxOf x : Int) else -1 := by
  unfold findIn; rw [findAt_eq]; simp
theorem findIn_neg (ts : List Int) (x : Int) : findIn ts x < 0 ↔ x ∉ ts := by
  rw [findIn_eq]; split <;> rename_i h
  · simp [h]
  · simp [h]

/-- Tasks that may be a lock's. -/
def Good (ts : List Int) : Prop := (∀ x ∈ ts, taskB x = true) ∧ ts.Nodup
theorem okTasks_iff (ts : List Int) : okTasks ts = true ↔ Good ts := by
  unfold okTasks Good
  rw [List.all_eq_true]
  constructor
  · intro h
    have hg : ∀ j (hj : j < ts.length), taskB ts[j] = true ∧ findIn ts ts[j] = (j : Int) := fun j hj => by
      have := h j (List.mem_range.2 hj)
      rw [List.getElem?_eq_getElem hj, Option.getD_some, Bool.and_eq_true, beq_iff_eq] at this
      exact this
    refine ⟨fun x hx => ?_, ?_⟩
    · obtain ⟨j, hj, rfl⟩ := List.mem_iff_getElem.1 hx
      exact (hg j hj).1
    · rw [List.Nodup, List.pairwise_iff_getElem]
      intro i j hi hj hij he
      have h1 := (hg i hi).2
      have h2 := (hg j hj).2
      rw [he, h2] at h1
      omega
  · rintro ⟨ht, hn⟩ j hj
    have hj := List.mem_range.1 hj
    rw [List.getElem?_eq_getElem hj, Option.getD_some, Bool.and_eq_true, beq_iff_eq]
    refine ⟨ht _ (List.getElem_mem hj), ?_⟩
    rw [findIn_eq, if_pos (List.getElem_mem hj), hn.idxOf_getElem]
theorem taskB_ne {x : Int} (h : taskB x = true) : x ≠ 0 := by
  rintro rfl; simp [taskB] at h
theorem taskB_eq (x : Int) : lock_task.f x = some (taskB x) := by
  unfold lock_task.f taskB; split <;> rfl
theorem taskB_eq' (x : Int) : Pre.lock_task.f x = some (taskB x) := by
  unfold Pre.lock_task.f taskB; split <;> rfl

/-- A lock that may be. -/
def May (o : Int) (l : List Int) : Prop := (o = 0 ∧ l = []) ∨ (o ≠ 0 ∧ Good (o :: l))
theorem check_some (o : Int) (l : List Int) : lock_Check.f o l = some 0 ∧ May o l ∨ lock_Check.f o l = some 8 ∧ ¬ May o l := by
  unfold lock_Check.f May
  by_cases h0 : o = 0
  · rw [if_pos h0]
    by_cases hl : l = []
    · rw [if_pos hl]; exact .inl ⟨rfl, .inl ⟨h0, hl⟩⟩
    · rw [if_neg hl]; exact .inr ⟨rfl, by intro h; exact h.elim (fun h => hl h.2) (fun h => h.1 h0)⟩
  · rw [if_neg h0]
    by_cases ht : taskB o = true
    · rw [if_pos ht]
      by_cases hg : okTasks (o :: l) = true
      · rw [if_pos hg]; exact .inl ⟨rfl, .inr ⟨h0, (okTasks_iff _).1 hg⟩⟩
      · rw [if_neg hg]; exact .inr ⟨rfl, by intro h; exact h.elim (fun h => h0 h.1) (fun h => hg ((okTasks_iff _).2 h.2))⟩
    · rw [if_neg ht]
      exact .inr ⟨rfl, by intro h; exact h.elim (fun h => h0 h.1) (fun h => ht (h.2.1 o (by simp)))⟩
theorem check_may {o : Int} {l : List Int} (h : May o l) : lock_Check.f o l = some 0 := by
  rcases check_some o l with ⟨h1, _⟩ | ⟨_, h2⟩
  · exact h1
  · exact absurd h h2
theorem check_not {o : Int} {l : List Int} (h : ¬ May o l) : lock_Check.f o l = some 8 := by
  rcases check_some o l with ⟨_, h2⟩ | ⟨h1, _⟩
  · exact absurd h2 h
  · exact h1
theorem may_good {o : Int} {l : List Int} (h : May o l) : Good (tasks o l) := by
  rcases h with ⟨rfl, rfl⟩ | ⟨h0, hg⟩
  · simp [tasks, Good]
  · rw [tasks, if_neg h0]; exact hg
theorem may_of_good {o : Int} {l : List Int} (h : Good (tasks o l)) (h0 : o = 0 → l = []) : May o l := by
  by_cases ho : o = 0
  · exact .inl ⟨ho, h0 ho⟩
  · exact .inr ⟨ho, by rw [tasks, if_neg ho] at h; exact h⟩

theorem asked_may {o : Int} {l : List Int} (h : May o l) (t : Int) : lock_asked.f o l t = some (if taskB t = true then 0 else 2) := by
  unfold lock_asked.f
  rw [check_may h]
  simp only [Option.bind_some, if_true, taskB_eq]
  split <;> rfl
theorem asked_may' {o : Int} {l : List Int} (h : May o l) (t : Int) : Pre.lock_asked.f o l t = some (if taskB t = true then 0 else 2) := by
  unfold Pre.lock_asked.f
  rw [check_may h]
  simp only [Option.bind_some, if_true, taskB_eq']
  split <;> rfl
theorem asked_not {o : Int} {l : List Int} (h : ¬ May o l) (t : Int) : lock_asked.f o l t = some 8 := by
  unfold lock_asked.f
  rw [check_not h]
  rfl
theorem asked_not' {o : Int} {l : List Int} (h : ¬ May o l) (t : Int) : Pre.lock_asked.f o l t = some 8 := by
  unfold Pre.lock_asked.f
  rw [check_not h]
  rfl

/-- How many are ahead of a task, of a lock that may be. -/
theorem ahead_in {o : Int} {l : List Int} (h : May o l) {n : Int} (hn : n ∈ tasks o l) : lock_Ahead.f o l n = some (((tasks o l).idxOf n : Int), 0) := by
  unfold lock_Ahead.f
  rw [asked_may h, (may_good h).1 n hn]
  simp only [Option.bind_some, if_true, lock_find.f]
  rw [findIn_eq, if_pos hn, if_neg (by omega)]
theorem ahead_out {o : Int} {l : List Int} (h : May o l) {n : Int} (hn : n ∉ tasks o l) : lock_Ahead.f o l n = some (0, 2) := by
  unfold lock_Ahead.f
  rw [asked_may h]
  simp only [Option.bind_some, lock_find.f]
  by_cases hb : taskB n = true
  · rw [if_pos hb, if_pos rfl, if_pos ((findIn_neg _ _).2 hn)]
  · rw [if_neg hb, if_neg (by decide)]
theorem take_out {o : Int} {l : List Int} (h : May o l) {t : Int} (hl : l.length < 17592186044416) (ht : ¬ (taskB t = true ∧ t ∉ tasks o l)) : lock_Take.f o l t = some (0, [], false, 2) := by
  unfold lock_Take.f
  rw [asked_may' h]
  by_cases hb : taskB t = true
  · simp only [hb, if_true, Option.bind_some]
    rw [if_pos (by have := mt (findIn_neg (tasks o l) t).1 (fun hh => ht ⟨hb, hh⟩); omega)]
  · simp [hb]
theorem take_in {o : Int} {l : List Int} (h : May o l) {t : Int} (hl : l.length < 17592186044416) (hb : taskB t = true) (ht : t ∉ tasks o l) : lock_Take.f o l t = some (if o = 0 then (t, l, true, 0) else (o, l ++ [t], false, 0)) := by
  unfold lock_Take.f
  rw [asked_may' h]
  simp only [hb, if_true, Option.bind_some]
  rw [if_neg (by have := (findIn_neg (tasks o l) t).2 ht; omega), if_pos hl]
  split <;> rfl
theorem free_own {o : Int} {l : List Int} (h : May o l) (hl : l.length < 17592186044416) (h0 : o ≠ 0) : lock_Free.f o l o = some (l.headD 0, l.tail, l.headD 0, 0) := by
  unfold lock_Free.f
  rw [asked_may' h]
  have hb : taskB o = true := by
    rcases h with ⟨h, _⟩ | ⟨_, hg⟩
    · exact absurd h h0
    · exact hg.1 o (by simp)
  simp [hb, hl]
theorem free_none : lock_Free.f 0 [] 0 = some (0, [], 0, 2) := by rfl
theorem good_snoc {ts : List Int} (h : Good ts) {t : Int} (hb : taskB t = true) (ht : t ∉ ts) : Good (ts ++ [t]) :=
  ⟨fun x hx => (List.mem_append.1 hx).elim (h.1 x) (fun e => by rw [List.mem_singleton.1 e]; exact hb), List.nodup_append.2 ⟨h.2, by simp, fun a ha b hb' e => by rw [List.mem_singleton.1 hb'] at e; exact ht (e ▸ ha)⟩⟩
theorem good_tail {o : Int} {l : List Int} (h : Good (o :: l)) : Good l := ⟨fun x hx => h.1 x (by simp [hx]), (List.nodup_cons.1 h.2).2⟩
theorem tasks_freed {l : List Int} (h : Good l) : tasks (l.headD 0) l.tail = l := by
  cases l with
  | nil => rfl
  | cons x xs => simp [tasks, taskB_ne (h.1 x (by simp))]
theorem may_freed {l : List Int} (h : Good l) : May (l.headD 0) l.tail := may_of_good (by rw [tasks_freed h]; exact h) (fun h0 => by
  cases l with
  | nil => rfl
  | cons x xs => exact absurd h0 (taskB_ne (h.1 x (by simp))))

end Go.Proofs.Ytoncnjnicgfhmab.Q
