/-
  lock.Check's contract: a range over a lock's tasks whose body calls lock.find.
-/
import Derived.RangeFuncCalls
import Derived.Test.YtoncnjnicgfhmabQIter
namespace Go.Proofs.Ytoncnjnicgfhmab.Q
open Go.RowKit Go.Shelf Go.Proofs.YtoncnjnicgfhmabW.PrintWords Go.Proofs.YtoncnjnicgfhmabW.PrintLast Go.Proofs.YtoncnjnicgfhmabW.PrintMore
set_option linter.unusedVariables false
set_option linter.unusedSimpArgs false
attribute [local go_sem] Oper.semAt_some

/-- Is a number a task's? -/
def taskB (n : Int) : Bool := if 1 ≤ n then decide (n ≤ 16) else false
theorem task_walk (n : Int) (w : World) : Calls Try.prog 26 #[.int .i64 n] w fun e w' => e = .returned (.bool (taskB n)) ∧ w = w' := by
  unfold taskB
  by_cases h1 : 1 ≤ n
  · have d1 : decide (1 ≤ n) = true := decide_eq_true h1
    rw [if_pos h1]
    clear h1
    go_enter Try.func26, Try.ntmps26
    go_wp2
    go_ret
    exact ⟨rfl, rfl⟩
  · have d1 : decide (1 ≤ n) = false := decide_eq_false h1
    rw [if_neg h1]
    clear h1
    go_enter Try.func26, Try.ntmps26
    go_wp2
    go_ret
    exact ⟨rfl, rfl⟩

/-- A task that may stand at its place among the tasks ts. -/
def goodAt (ts : List Int) (p : Int × Int) : Prop := taskB p.2 = true ∧ findIn ts p.2 = p.1
/-- Are these tasks a lock's? -/
def okTasks (ts : List Int) : Bool := (List.range ts.length).all fun (j : Nat) => taskB (ts[j]?.getD 0) && (findIn ts (ts[j]?.getD 0) == (j : Int))
theorem okTasks_yes {ts : List Int} (h : ∀ p ∈ upto ts ts.length, goodAt ts p) : okTasks ts = true := by
  unfold okTasks
  rw [List.all_eq_true]
  intro j hj
  have := h ((j : Int), ts[j]?.getD 0) (by simp only [upto, List.mem_map]; exact ⟨j, hj, rfl⟩)
  simp [this.1, this.2]
theorem okTasks_no {ts : List Int} {k : Nat} (hk : k < ts.length) (h : ¬ goodAt ts ((k : Int), ts[k]?.getD 0)) : okTasks ts = false := by
  cases ho : okTasks ts with
  | false => rfl
  | true =>
    unfold okTasks at ho
    rw [List.all_eq_true] at ho
    have := ho k (List.mem_range.2 hk)
    simp only [Bool.and_eq_true, beq_iff_eq] at this
    exact absurd this h

theorem keeps_of_below {W W' : World} (h : Below W.heap.size W W') : KeepsOthers W W' := KeepsOthers.of_grownBy (grown_of_below h none) (fun _ _ e => by cases e)

theorem find_walk' (o : Int) (A : Option Addr) (c : Nat) (zs : List Int) (x : Int) (w : World) (hI : Aside0 (Ints w.heap.size w A zs)) (hlen : zs.length ≤ 9223372036854775807) {r : Int} (h : Aside0 (findIn (tasks o zs) x = r)) :
    Calls Try.prog 24 #[.agg #[.int .i64 o, .slice A zs.length c], .int .i64 x] w fun e w' => e = .returned (.int .i64 r) ∧ Below w.heap.size w w' := by
  cases h.out
  refine (find_walk o A c zs x w hlen hI.out).mono ?_
  rintro e w' ⟨⟨rfl, hn⟩ | ⟨k, hk, rfl, he, hn⟩, hb⟩
  · exact ⟨by rw [findIn_none hn], hb⟩
  · exact ⟨by rw [findIn_some hk he hn], hb⟩

set_option maxRecDepth 100000 in
set_option maxHeartbeats 8000000 in
theorem check_walk0 (A : Option Addr) (c : Nat) (w : World) (HI : Aside0 (Ints w.heap.size w A [])) (hlen : ([] : List Int).length ≤ 9223372036854775807) :
    Calls Try.prog 10 #[.agg #[.int .i64 0, .slice A 0 c]] w fun e W' =>
      ((e = .returned (.int .i64 0) ∧ ∀ p ∈ upto (tasks 0 []) (tasks 0 []).length, goodAt (tasks 0 []) p) ∨ (e = .returned (.int .i64 8) ∧ ∃ k : Nat, k < (tasks 0 []).length ∧ ¬ goodAt (tasks 0 []) ((k : Int), (tasks 0 [])[k]?.getD 0))) ∧ Below w.heap.size w W' := by
  refine (callsIn_wide (n := 3)).1 ?_
  refine callsIn_of_wp_marks Try.func10 rfl trivial ?_ rfl
  simp only [Try.ntmps10, List.size_toArray, List.length_cons, List.length_nil, Nat.reduceAdd, Nat.reduceSub, Array.replicate_succ, Array.replicate_zero, List.push_toArray, List.append_toArray, List.nil_append, List.cons_append]
  gi_wp2_with (first | (refine ⟨trivial, ?_⟩; gi_at_call 27; refine (all_in 2 _ _ _ _ _).mono ?_; rintro e w' ⟨rfl, rfl⟩) | (refine ⟨trivial, ?_⟩))
  generalize hB : w.heap.size = B at *
  have hx1 : ((((w.alloc (.cells #[.int .i64 0, .slice A 0 c] 24)).alloc (.cells #[.int .i64 0] 25)).alloc (.cells #[.int .i64 0, .slice A 0 c] 24)).cell? ⟨B, 0, none⟩) = some (.int .i64 0) := by
    subst hB; rw [World.cell?_alloc_past _ _ _ (by simp <;> omega), World.cell?_alloc_past _ _ _ (by simp <;> omega), World.cell?_alloc_at _ _ _ _ (by simp <;> omega)]; rfl
  have hx2 : ((((w.alloc (.cells #[.int .i64 0, .slice A 0 c] 24)).alloc (.cells #[.int .i64 0] 25)).alloc (.cells #[.int .i64 0, .slice A 0 c] 24)).cell? ⟨B, 1, none⟩) = some (.slice A 0 c) := by
    subst hB; rw [World.cell?_alloc_past _ _ _ (by simp <;> omega), World.cell?_alloc_past _ _ _ (by simp <;> omega), World.cell?_alloc_at _ _ _ _ (by simp <;> omega)]; rfl
  have hx3 : ((((w.alloc (.cells #[.int .i64 0, .slice A 0 c] 24)).alloc (.cells #[.int .i64 0] 25)).alloc (.cells #[.int .i64 0, .slice A 0 c] 24)).cell? ⟨B + 1, 0, none⟩) = some (.int .i64 0) := by
    subst hB; rw [World.cell?_alloc_past _ _ _ (by simp <;> omega), World.cell?_alloc_at _ _ _ _ (by simp <;> omega)]; rfl
  have hx4 : ((((w.alloc (.cells #[.int .i64 0, .slice A 0 c] 24)).alloc (.cells #[.int .i64 0] 25)).alloc (.cells #[.int .i64 0, .slice A 0 c] 24)).cell? ⟨B + 2, 0, none⟩) = some (.int .i64 0) := by
    subst hB; rw [World.cell?_alloc_at _ _ _ _ (by simp <;> omega)]; rfl
  have hx5 : ((((w.alloc (.cells #[.int .i64 0, .slice A 0 c] 24)).alloc (.cells #[.int .i64 0] 25)).alloc (.cells #[.int .i64 0, .slice A 0 c] 24)).cell? ⟨B + 2, 1, none⟩) = some (.slice A 0 c) := by
    subst hB; rw [World.cell?_alloc_at _ _ _ _ (by simp <;> omega)]; rfl
  have hf3 : ((((w.alloc (.cells #[.int .i64 0, .slice A 0 c] 24)).alloc (.cells #[.int .i64 0] 25)).alloc (.cells #[.int .i64 0, .slice A 0 c] 24)).frozen? ⟨B + 1, 0, none⟩) = false := by
    subst hB; rw [World.frozen?_alloc_past _ _ _ (by simp <;> omega)]; exact World.frozen?_alloc_at _ _ _ _ (by simp <;> omega)
  have hsz : (((w.alloc (.cells #[.int .i64 0, .slice A 0 c] 24)).alloc (.cells #[.int .i64 0] 25)).alloc (.cells #[.int .i64 0, .slice A 0 c] 24)).heap.size = B + 3 := by subst hB; simp
  have hBw : Below B w (((w.alloc (.cells #[.int .i64 0, .slice A 0 c] 24)).alloc (.cells #[.int .i64 0] 25)).alloc (.cells #[.int .i64 0, .slice A 0 c] 24)) := by
    subst hB; exact (((Below.refl _ w).alloc (Nat.le_refl _) _).alloc (by simp <;> omega) _).alloc (by simp <;> omega) _
  have hI0 := (HI.out.below hBw).mono (show B ≤ B + 3 by omega)
  generalize (((w.alloc (.cells #[.int .i64 0, .slice A 0 c] 24)).alloc (.cells #[.int .i64 0] 25)).alloc (.cells #[.int .i64 0, .slice A 0 c] 24)) = W0 at *
  have e2 : w.heap.size + 1 + 1 = B + 2 := by omega
  have e1 : w.heap.size + 1 = B + 1 := by omega
  refine wpIn_rangeFunc_ownG rfl (by omega) (gf := 34) (lb := #[.pointer (some ⟨B + 2, 0, none⟩)]) rfl trivial (enters_of Try.func34 (by kernel_rfl) rfl)
    (all_stops 2 (by omega) (B + 2) (B + 3) A c 0 [] hlen W0 (by omega) (by omega) hx4 hx5 hI0) belowK_t (belowK_b (by omega)) (Below.refl _ _) (fun _ => rfl)
    (fun pre W => ((B + 3 ≤ W.heap.size ∧ ∀ p ∈ pre, goodAt (tasks 0 []) p) ∧ (W.cell? ⟨B + 1, 0, none⟩ = some (.int .i64 0) ∧ W.frozen? ⟨B + 1, 0, none⟩ = false) ∧ W.cell? ⟨B, 0, none⟩ = some (.int .i64 0) ∧ W.cell? ⟨B, 1, none⟩ = some (.slice A 0 c)) ∧ Below B w W)
    (fun cc pre W => (cc = .ret ∧ ∃ ini last, pre = ini ++ [last] ∧ ¬ goodAt (tasks 0 []) last ∧ W.cell? ⟨B + 1, 0, none⟩ = some (.int .i64 8)) ∧ Below B w W)
    (OwnFrom.and (Own.from (fun s W1 W2 row hs hg hr => ⟨⟨Nat.le_trans hs.1.1 hg.size, hs.1.2⟩, ⟨cell_kept hs.2.1.1 hg hr, (frozen_kept hs.2.1.1 hg hr).trans hs.2.1.2⟩, cell_kept hs.2.2.1 hg hr, cell_kept hs.2.2.2 hg hr⟩) _) (ownFrom_below (by omega) (by omega)))
    (fun cc => OwnFrom.and (Own.from (fun s W1 W2 row hs hg hr => by obtain ⟨hc, ini, last, e1, e2, e4⟩ := hs; exact ⟨hc, ini, last, e1, e2, cell_kept e4 hg hr⟩) _) (ownFrom_below (by omega) (by omega)))
    ⟨⟨⟨Nat.le_of_eq hsz.symm, by simp⟩, ⟨hx3, hf3⟩, hx1, hx2⟩, hBw⟩
    ?a₁ ?assign ?body ?done ?stop
  case assign =>
    intro l y W K hK
    gi_wp2
    exact hK
  case body =>
    rintro l pre y W ⟨⟨⟨hsW, hp⟩, ⟨hcr, hfr⟩, hc1, hc2⟩, hBW⟩ _
    have HP := Aside0.mk hp
    have hIW := Aside0.mk ((HI.out.below hBW).mono (show B ≤ W.heap.size by rw [← hB]; exact hBW.size))
    clear hx1 hx2 hx3 hx4 hx5 hf3 hI0 hp
    have hlw : B + 1 < W.heap.size := W.block_lt_of_cell? _ hcr
    by_cases hy : taskB y.2 = true
    · have HY := Aside0.mk hy
      obtain ⟨r, hr⟩ : ∃ r, findIn (tasks 0 []) y.2 = r := ⟨_, rfl⟩
      have HR := Aside0.mk hr
      clear hr
      by_cases hd : (r != y.1) = true
      · gi_wp2_with (first | (refine ⟨trivial, ?_⟩; gi_at_call 24; refine (CallsIn.inRound l (callsIn_wide.2 (find_walk' 0 A c [] y.2 W hIW hlen HR))).mono ?_; rintro e w' ⟨rfl, hb⟩; have hcr' := (hb.cell (p := ⟨B + 1, 0, none⟩) hlw).trans hcr; have hfr' := (hb.frozen (p := ⟨B + 1, 0, none⟩) hlw).trans hfr; have hc1' := (hb.cell (p := ⟨B, 0, none⟩) (by show B < _; omega)).trans hc1; have hc2' := (hb.cell (p := ⟨B, 1, none⟩) (by show B < _; omega)).trans hc2; have HB := Aside0.mk hb; clear hb) | (refine ⟨trivial, ?_⟩; gi_at_call 26; refine (CallsIn.inRound l (callsIn_wide.2 (task_walk _ _))).mono ?_; rintro e w' ⟨rfl, rfl⟩) | (refine ⟨trivial, ?_⟩))
        exact ⟨((keeps_of_below HB.out).trans (KeepsOthers.setCell _ _ _)).from _, ⟨rfl, pre, y, rfl, fun hg => absurd (HR.out.symm.trans hg.2) (by simpa using hd), World.cell?_setCell_same' _ _ _ (by rw [hcr']; rfl)⟩,
          (hBW.trans (HB.out.mono (show B ≤ W.heap.size by omega))).setCell (p := ⟨B + 1, 0, none⟩) (by show B ≤ B + 1; omega) _⟩
      · rw [Bool.not_eq_true] at hd
        gi_wp2_with (first | (refine ⟨trivial, ?_⟩; gi_at_call 24; refine (CallsIn.inRound l (callsIn_wide.2 (find_walk' 0 A c [] y.2 W hIW hlen HR))).mono ?_; rintro e w' ⟨rfl, hb⟩; have hcr' := (hb.cell (p := ⟨B + 1, 0, none⟩) hlw).trans hcr; have hfr' := (hb.frozen (p := ⟨B + 1, 0, none⟩) hlw).trans hfr; have hc1' := (hb.cell (p := ⟨B, 0, none⟩) (by show B < _; omega)).trans hc1; have hc2' := (hb.cell (p := ⟨B, 1, none⟩) (by show B < _; omega)).trans hc2; have HB := Aside0.mk hb; clear hb) | (refine ⟨trivial, ?_⟩; gi_at_call 26; refine (CallsIn.inRound l (callsIn_wide.2 (task_walk _ _))).mono ?_; rintro e w' ⟨rfl, rfl⟩) | (refine ⟨trivial, ?_⟩))
        exact ⟨(keeps_of_below HB.out).from _, HB.out.mono hsW, ⟨⟨Nat.le_trans hsW HB.out.size, fun p hp' => (List.mem_append.1 hp').elim (HP.out p) (fun e => by simp at e; subst e; exact ⟨HY.out, HR.out.trans (by simpa using hd)⟩)⟩, ⟨hcr', hfr'⟩, hc1', hc2'⟩, hBW.trans (HB.out.mono (show B ≤ W.heap.size by omega))⟩
    · rw [Bool.not_eq_true] at hy
      gi_wp2_with (first | (refine ⟨trivial, ?_⟩; gi_at_call 24; refine (CallsIn.inRound l (callsIn_wide.2 (find_walk' 0 A c [] y.2 W hIW hlen HR))).mono ?_; rintro e w' ⟨rfl, hb⟩; have hcr' := (hb.cell (p := ⟨B + 1, 0, none⟩) hlw).trans hcr; have hfr' := (hb.frozen (p := ⟨B + 1, 0, none⟩) hlw).trans hfr; have hc1' := (hb.cell (p := ⟨B, 0, none⟩) (by show B < _; omega)).trans hc1; have hc2' := (hb.cell (p := ⟨B, 1, none⟩) (by show B < _; omega)).trans hc2; have HB := Aside0.mk hb; clear hb) | (refine ⟨trivial, ?_⟩; gi_at_call 26; refine (CallsIn.inRound l (callsIn_wide.2 (task_walk _ _))).mono ?_; rintro e w' ⟨rfl, rfl⟩) | (refine ⟨trivial, ?_⟩))
      exact ⟨(KeepsOthers.setCell _ _ _).from _, ⟨rfl, pre, y, rfl, fun hg => (by have := hg.1; rw [hy] at this; cases this), World.cell?_setCell_same' _ _ _ (by rw [hcr]; rfl)⟩, hBW.setCell (p := ⟨B + 1, 0, none⟩) (by show B ≤ B + 1; omega) _⟩
  case done =>
    rintro D ys W hD rfl ⟨⟨⟨_, hne⟩, ⟨hcr, hfr⟩, hc1, hc2⟩, hBW⟩ hK
    have HNE := Aside0.mk hne
    clear hx1 hx2 hx3 hx4 hx5 hf3 hI0 hne
    gi_wp2
    have hK' := (KeepsOthers.setCell W ⟨B + 1, 0, none⟩ (.int .i64 0)).same D _ hK rfl
    refine ⟨by simp, .inl ⟨_, _, rfl, run_takeDeferred hK', ?_⟩⟩
    have hc5 := cell_kept (World.cell?_setCell_same' W ⟨B + 1, 0, none⟩ (.int .i64 0) (by rw [hcr]; rfl)) (grownBy_putObj' _ D (.deferred none)) (fun r e => by cases e; exact ⟨_, hK', rfl⟩)
    refine ⟨.int .i64 0, ?_, .inl ⟨rfl, HNE.out⟩, by rw [hB]; exact (hBW.setCell (p := ⟨B + 1, 0, none⟩) (by show B ≤ B + 1; omega) _).trans (belowK_b (w := w) (by omega) _ D _ _ (by omega) hK' rfl rfl)⟩
    simp [results, Try.f10, go_sem, hc5]
  case stop =>
    rintro D cc pre W hD ⟨k, hk, rfl⟩ ⟨⟨rfl, ini, last, q1, q2, hcr⟩, hBW⟩ hK
    have Q1 := Aside0.mk q1
    have Q2 := Aside0.mk q2
    clear hx1 hx2 hx3 hx4 hx5 hf3 hI0 q1 q2
    gi_wp2
    refine ⟨by simp, .inl ⟨_, _, rfl, run_takeDeferred hK, ?_⟩⟩
    have hc5 := cell_kept hcr (grownBy_putObj' _ D (.deferred none)) (fun r e => by cases e; exact ⟨_, hK, rfl⟩)
    obtain ⟨k', rfl⟩ : ∃ k', k = k' + 1 := by
      cases k with
      | zero => have := Q1.out; simp [upto] at this
      | succ k' => exact ⟨k', rfl⟩
    have q1 := Q1.out
    rw [upto_succ] at q1
    obtain ⟨rfl, q5⟩ := List.append_inj' q1 rfl
    obtain rfl : ((k' : Int), (tasks 0 [])[k']?.getD 0) = last := by simpa using q5
    refine ⟨.int .i64 8, ?_, .inr ⟨rfl, k', by omega, Q2.out⟩, by rw [hB]; exact hBW.trans (belowK_b (w := w) (by omega) W D _ _ (by omega) hK rfl rfl)⟩
    simp [results, Try.f10, go_sem, hc5]

set_option maxRecDepth 100000 in
set_option maxHeartbeats 8000000 in
theorem check_walk1 (o : Int) (A : Option Addr) (c : Nat) (zs : List Int) (w : World) (HI : Aside0 (Ints w.heap.size w A zs)) (hlen : zs.length ≤ 9223372036854775807) (d1 : (o == 0) = false) (h2 : taskB o = true) :
    Calls Try.prog 10 #[.agg #[.int .i64 o, .slice A zs.length c]] w fun e W' =>
      ((e = .returned (.int .i64 0) ∧ ∀ p ∈ upto (tasks o zs) (tasks o zs).length, goodAt (tasks o zs) p) ∨ (e = .returned (.int .i64 8) ∧ ∃ k : Nat, k < (tasks o zs).length ∧ ¬ goodAt (tasks o zs) ((k : Int), (tasks o zs)[k]?.getD 0))) ∧ Below w.heap.size w W' := by
  have d2 : (o != 0) = true := by simp [bne, d1]
  refine (callsIn_wide (n := 3)).1 ?_
  refine callsIn_of_wp_marks Try.func10 rfl trivial ?_ rfl
  simp only [Try.ntmps10, List.size_toArray, List.length_cons, List.length_nil, Nat.reduceAdd, Nat.reduceSub, Array.replicate_succ, Array.replicate_zero, List.push_toArray, List.append_toArray, List.nil_append, List.cons_append]
  gi_wp2_with (first | (refine ⟨trivial, ?_⟩; gi_at_call 27; refine (all_in 2 _ _ _ _ _).mono ?_; rintro e w' ⟨rfl, rfl⟩) | (refine ⟨trivial, ?_⟩; gi_at_call 26; refine (callsIn_wide.2 (task_walk _ _)).mono ?_; rintro e w' ⟨rfl, rfl⟩) | (refine ⟨trivial, ?_⟩))
  clear d1 d2 h2
  generalize hB : w.heap.size = B at *
  have hx1 : ((((w.alloc (.cells #[.int .i64 o, .slice A zs.length c] 24)).alloc (.cells #[.int .i64 0] 25)).alloc (.cells #[.int .i64 o, .slice A zs.length c] 24)).cell? ⟨B, 0, none⟩) = some (.int .i64 o) := by
    subst hB; rw [World.cell?_alloc_past _ _ _ (by simp <;> omega), World.cell?_alloc_past _ _ _ (by simp <;> omega), World.cell?_alloc_at _ _ _ _ (by simp <;> omega)]; rfl
  have hx2 : ((((w.alloc (.cells #[.int .i64 o, .slice A zs.length c] 24)).alloc (.cells #[.int .i64 0] 25)).alloc (.cells #[.int .i64 o, .slice A zs.length c] 24)).cell? ⟨B, 1, none⟩) = some (.slice A zs.length c) := by
    subst hB; rw [World.cell?_alloc_past _ _ _ (by simp <;> omega), World.cell?_alloc_past _ _ _ (by simp <;> omega), World.cell?_alloc_at _ _ _ _ (by simp <;> omega)]; rfl
  have hx3 : ((((w.alloc (.cells #[.int .i64 o, .slice A zs.length c] 24)).alloc (.cells #[.int .i64 0] 25)).alloc (.cells #[.int .i64 o, .slice A zs.length c] 24)).cell? ⟨B + 1, 0, none⟩) = some (.int .i64 0) := by
    subst hB; rw [World.cell?_alloc_past _ _ _ (by simp <;> omega), World.cell?_alloc_at _ _ _ _ (by simp <;> omega)]; rfl
  have hx4 : ((((w.alloc (.cells #[.int .i64 o, .slice A zs.length c] 24)).alloc (.cells #[.int .i64 0] 25)).alloc (.cells #[.int .i64 o, .slice A zs.length c] 24)).cell? ⟨B + 2, 0, none⟩) = some (.int .i64 o) := by
    subst hB; rw [World.cell?_alloc_at _ _ _ _ (by simp <;> omega)]; rfl
  have hx5 : ((((w.alloc (.cells #[.int .i64 o, .slice A zs.length c] 24)).alloc (.cells #[.int .i64 0] 25)).alloc (.cells #[.int .i64 o, .slice A zs.length c] 24)).cell? ⟨B + 2, 1, none⟩) = some (.slice A zs.length c) := by
    subst hB; rw [World.cell?_alloc_at _ _ _ _ (by simp <;> omega)]; rfl
  have hf3 : ((((w.alloc (.cells #[.int .i64 o, .slice A zs.length c] 24)).alloc (.cells #[.int .i64 0] 25)).alloc (.cells #[.int .i64 o, .slice A zs.length c] 24)).frozen? ⟨B + 1, 0, none⟩) = false := by
    subst hB; rw [World.frozen?_alloc_past _ _ _ (by simp <;> omega)]; exact World.frozen?_alloc_at _ _ _ _ (by simp <;> omega)
  have hsz : (((w.alloc (.cells #[.int .i64 o, .slice A zs.length c] 24)).alloc (.cells #[.int .i64 0] 25)).alloc (.cells #[.int .i64 o, .slice A zs.length c] 24)).heap.size = B + 3 := by subst hB; simp
  have hBw : Below B w (((w.alloc (.cells #[.int .i64 o, .slice A zs.length c] 24)).alloc (.cells #[.int .i64 0] 25)).alloc (.cells #[.int .i64 o, .slice A zs.length c] 24)) := by
    subst hB; exact (((Below.refl _ w).alloc (Nat.le_refl _) _).alloc (by simp <;> omega) _).alloc (by simp <;> omega) _
  have hI0 := (HI.out.below hBw).mono (show B ≤ B + 3 by omega)
  generalize (((w.alloc (.cells #[.int .i64 o, .slice A zs.length c] 24)).alloc (.cells #[.int .i64 0] 25)).alloc (.cells #[.int .i64 o, .slice A zs.length c] 24)) = W0 at *
  have e2 : w.heap.size + 1 + 1 = B + 2 := by omega
  have e1 : w.heap.size + 1 = B + 1 := by omega
  refine wpIn_rangeFunc_ownG rfl (by omega) (gf := 34) (lb := #[.pointer (some ⟨B + 2, 0, none⟩)]) rfl trivial (enters_of Try.func34 (by kernel_rfl) rfl)
    (all_stops 2 (by omega) (B + 2) (B + 3) A c o zs hlen W0 (by omega) (by omega) hx4 hx5 hI0) belowK_t (belowK_b (by omega)) (Below.refl _ _) (fun _ => rfl)
    (fun pre W => ((B + 3 ≤ W.heap.size ∧ ∀ p ∈ pre, goodAt (tasks o zs) p) ∧ (W.cell? ⟨B + 1, 0, none⟩ = some (.int .i64 0) ∧ W.frozen? ⟨B + 1, 0, none⟩ = false) ∧ W.cell? ⟨B, 0, none⟩ = some (.int .i64 o) ∧ W.cell? ⟨B, 1, none⟩ = some (.slice A zs.length c)) ∧ Below B w W)
    (fun cc pre W => (cc = .ret ∧ ∃ ini last, pre = ini ++ [last] ∧ ¬ goodAt (tasks o zs) last ∧ W.cell? ⟨B + 1, 0, none⟩ = some (.int .i64 8)) ∧ Below B w W)
    (OwnFrom.and (Own.from (fun s W1 W2 row hs hg hr => ⟨⟨Nat.le_trans hs.1.1 hg.size, hs.1.2⟩, ⟨cell_kept hs.2.1.1 hg hr, (frozen_kept hs.2.1.1 hg hr).trans hs.2.1.2⟩, cell_kept hs.2.2.1 hg hr, cell_kept hs.2.2.2 hg hr⟩) _) (ownFrom_below (by omega) (by omega)))
    (fun cc => OwnFrom.and (Own.from (fun s W1 W2 row hs hg hr => by obtain ⟨hc, ini, last, e1, e2, e4⟩ := hs; exact ⟨hc, ini, last, e1, e2, cell_kept e4 hg hr⟩) _) (ownFrom_below (by omega) (by omega)))
    ⟨⟨⟨Nat.le_of_eq hsz.symm, by simp⟩, ⟨hx3, hf3⟩, hx1, hx2⟩, hBw⟩
    ?a₁ ?assign ?body ?done ?stop
  case assign =>
    intro l y W K hK
    gi_wp2
    exact hK
  case body =>
    rintro l pre y W ⟨⟨⟨hsW, hp⟩, ⟨hcr, hfr⟩, hc1, hc2⟩, hBW⟩ _
    have HP := Aside0.mk hp
    have hIW := Aside0.mk ((HI.out.below hBW).mono (show B ≤ W.heap.size by rw [← hB]; exact hBW.size))
    clear hx1 hx2 hx3 hx4 hx5 hf3 hI0 hp
    have hlw : B + 1 < W.heap.size := W.block_lt_of_cell? _ hcr
    by_cases hy : taskB y.2 = true
    · have HY := Aside0.mk hy
      obtain ⟨r, hr⟩ : ∃ r, findIn (tasks o zs) y.2 = r := ⟨_, rfl⟩
      have HR := Aside0.mk hr
      clear hr
      by_cases hd : (r != y.1) = true
      · gi_wp2_with (first | (refine ⟨trivial, ?_⟩; gi_at_call 24; refine (CallsIn.inRound l (callsIn_wide.2 (find_walk' o A c zs y.2 W hIW hlen HR))).mono ?_; rintro e w' ⟨rfl, hb⟩; have hcr' := (hb.cell (p := ⟨B + 1, 0, none⟩) hlw).trans hcr; have hfr' := (hb.frozen (p := ⟨B + 1, 0, none⟩) hlw).trans hfr; have hc1' := (hb.cell (p := ⟨B, 0, none⟩) (by show B < _; omega)).trans hc1; have hc2' := (hb.cell (p := ⟨B, 1, none⟩) (by show B < _; omega)).trans hc2; have HB := Aside0.mk hb; clear hb) | (refine ⟨trivial, ?_⟩; gi_at_call 26; refine (CallsIn.inRound l (callsIn_wide.2 (task_walk _ _))).mono ?_; rintro e w' ⟨rfl, rfl⟩) | (refine ⟨trivial, ?_⟩))
        exact ⟨((keeps_of_below HB.out).trans (KeepsOthers.setCell _ _ _)).from _, ⟨rfl, pre, y, rfl, fun hg => absurd (HR.out.symm.trans hg.2) (by simpa using hd), World.cell?_setCell_same' _ _ _ (by rw [hcr']; rfl)⟩,
          (hBW.trans (HB.out.mono (show B ≤ W.heap.size by omega))).setCell (p := ⟨B + 1, 0, none⟩) (by show B ≤ B + 1; omega) _⟩
      · rw [Bool.not_eq_true] at hd
        gi_wp2_with (first | (refine ⟨trivial, ?_⟩; gi_at_call 24; refine (CallsIn.inRound l (callsIn_wide.2 (find_walk' o A c zs y.2 W hIW hlen HR))).mono ?_; rintro e w' ⟨rfl, hb⟩; have hcr' := (hb.cell (p := ⟨B + 1, 0, none⟩) hlw).trans hcr; have hfr' := (hb.frozen (p := ⟨B + 1, 0, none⟩) hlw).trans hfr; have hc1' := (hb.cell (p := ⟨B, 0, none⟩) (by show B < _; omega)).trans hc1; have hc2' := (hb.cell (p := ⟨B, 1, none⟩) (by show B < _; omega)).trans hc2; have HB := Aside0.mk hb; clear hb) | (refine ⟨trivial, ?_⟩; gi_at_call 26; refine (CallsIn.inRound l (callsIn_wide.2 (task_walk _ _))).mono ?_; rintro e w' ⟨rfl, rfl⟩) | (refine ⟨trivial, ?_⟩))
        exact ⟨(keeps_of_below HB.out).from _, HB.out.mono hsW, ⟨⟨Nat.le_trans hsW HB.out.size, fun p hp' => (List.mem_append.1 hp').elim (HP.out p) (fun e => by simp at e; subst e; exact ⟨HY.out, HR.out.trans (by simpa using hd)⟩)⟩, ⟨hcr', hfr'⟩, hc1', hc2'⟩, hBW.trans (HB.out.mono (show B ≤ W.heap.size by omega))⟩
    · rw [Bool.not_eq_true] at hy
      gi_wp2_with (first | (refine ⟨trivial, ?_⟩; gi_at_call 24; refine (CallsIn.inRound l (callsIn_wide.2 (find_walk' o A c zs y.2 W hIW hlen HR))).mono ?_; rintro e w' ⟨rfl, hb⟩; have hcr' := (hb.cell (p := ⟨B + 1, 0, none⟩) hlw).trans hcr; have hfr' := (hb.frozen (p := ⟨B + 1, 0, none⟩) hlw).trans hfr; have hc1' := (hb.cell (p := ⟨B, 0, none⟩) (by show B < _; omega)).trans hc1; have hc2' := (hb.cell (p := ⟨B, 1, none⟩) (by show B < _; omega)).trans hc2; have HB := Aside0.mk hb; clear hb) | (refine ⟨trivial, ?_⟩; gi_at_call 26; refine (CallsIn.inRound l (callsIn_wide.2 (task_walk _ _))).mono ?_; rintro e w' ⟨rfl, rfl⟩) | (refine ⟨trivial, ?_⟩))
      exact ⟨(KeepsOthers.setCell _ _ _).from _, ⟨rfl, pre, y, rfl, fun hg => (by have := hg.1; rw [hy] at this; cases this), World.cell?_setCell_same' _ _ _ (by rw [hcr]; rfl)⟩, hBW.setCell (p := ⟨B + 1, 0, none⟩) (by show B ≤ B + 1; omega) _⟩
  case done =>
    rintro D ys W hD rfl ⟨⟨⟨_, hne⟩, ⟨hcr, hfr⟩, hc1, hc2⟩, hBW⟩ hK
    have HNE := Aside0.mk hne
    clear hx1 hx2 hx3 hx4 hx5 hf3 hI0 hne
    gi_wp2
    have hK' := (KeepsOthers.setCell W ⟨B + 1, 0, none⟩ (.int .i64 0)).same D _ hK rfl
    refine ⟨by simp, .inl ⟨_, _, rfl, run_takeDeferred hK', ?_⟩⟩
    have hc5 := cell_kept (World.cell?_setCell_same' W ⟨B + 1, 0, none⟩ (.int .i64 0) (by rw [hcr]; rfl)) (grownBy_putObj' _ D (.deferred none)) (fun r e => by cases e; exact ⟨_, hK', rfl⟩)
    refine ⟨.int .i64 0, ?_, .inl ⟨rfl, HNE.out⟩, by rw [hB]; exact (hBW.setCell (p := ⟨B + 1, 0, none⟩) (by show B ≤ B + 1; omega) _).trans (belowK_b (w := w) (by omega) _ D _ _ (by omega) hK' rfl rfl)⟩
    simp [results, Try.f10, go_sem, hc5]
  case stop =>
    rintro D cc pre W hD ⟨k, hk, rfl⟩ ⟨⟨rfl, ini, last, q1, q2, hcr⟩, hBW⟩ hK
    have Q1 := Aside0.mk q1
    have Q2 := Aside0.mk q2
    clear hx1 hx2 hx3 hx4 hx5 hf3 hI0 q1 q2
    gi_wp2
    refine ⟨by simp, .inl ⟨_, _, rfl, run_takeDeferred hK, ?_⟩⟩
    have hc5 := cell_kept hcr (grownBy_putObj' _ D (.deferred none)) (fun r e => by cases e; exact ⟨_, hK, rfl⟩)
    obtain ⟨k', rfl⟩ : ∃ k', k = k' + 1 := by
      cases k with
      | zero => have := Q1.out; simp [upto] at this
      | succ k' => exact ⟨k', rfl⟩
    have q1 := Q1.out
    rw [upto_succ] at q1
    obtain ⟨rfl, q5⟩ := List.append_inj' q1 rfl
    obtain rfl : ((k' : Int), (tasks o zs)[k']?.getD 0) = last := by simpa using q5
    refine ⟨.int .i64 8, ?_, .inr ⟨rfl, k', by omega, Q2.out⟩, by rw [hB]; exact hBW.trans (belowK_b (w := w) (by omega) W D _ _ (by omega) hK rfl rfl)⟩
    simp [results, Try.f10, go_sem, hc5]

set_option maxHeartbeats 4000000 in
theorem check_bad0 (A : Option Addr) (c n : Nat) (w : World) (d : decide (0 < n) = true) :
    Calls Try.prog 10 #[.agg #[.int .i64 0, .slice A n c]] w fun e W' => e = .returned (.int .i64 8) ∧ Below w.heap.size w W' := by
  have HB := Aside0.mk (Below.refl w.heap.size w)
  go_enter Try.func10, Try.ntmps10
  go_wp2
  refine bodyPost_ret (v := .int .i64 8) ?_ rfl ⟨rfl, ?_⟩
  · have hc : ((w.alloc (.cells #[.int .i64 0, .slice A n c] 24)).alloc (.cells #[.int .i64 8] 25)).cell? ⟨w.heap.size + 1, 0, none⟩ = some (.int .i64 8) := by rw [World.cell?_alloc_at _ _ _ _ (by simp)]; rfl
    simp [results, Try.f10, go_sem, hc]
  · exact (HB.out.alloc (Nat.le_refl _) _).alloc (by simp) _
set_option maxHeartbeats 4000000 in
theorem check_bad1 (o : Int) (A : Option Addr) (c n : Nat) (w : World) (d1 : (o == 0) = false) (h2 : taskB o = false) :
    Calls Try.prog 10 #[.agg #[.int .i64 o, .slice A n c]] w fun e W' => e = .returned (.int .i64 8) ∧ Below w.heap.size w W' := by
  have d2 : (o != 0) = true := by simp [bne, d1]
  have HB := Aside0.mk (Below.refl w.heap.size w)
  go_enter Try.func10, Try.ntmps10
  go_wp2_with (go_at_call 26; refine (task_walk _ _).mono ?_; rintro e w' ⟨rfl, rfl⟩)
  refine bodyPost_ret (v := .int .i64 8) ?_ rfl ⟨rfl, ?_⟩
  · have hc : ((w.alloc (.cells #[.int .i64 o, .slice A n c] 24)).alloc (.cells #[.int .i64 8] 25)).cell? ⟨w.heap.size + 1, 0, none⟩ = some (.int .i64 8) := by rw [World.cell?_alloc_at _ _ _ _ (by simp)]; rfl
    simp [results, Try.f10, go_sem, hc]
  · exact (HB.out.alloc (Nat.le_refl _) _).alloc (by simp) _

/-! ### lock.Check: function 10 -/
def lock_Check.f (o : Int) (l : List Int) : Option Int := some (if o = 0 then (if l = [] then 0 else 8) else if taskB o = true then (if okTasks (o :: l) = true then 0 else 8) else 8)
theorem lock_Check.calls (a0_0 : Int) (A0_1 : Option Addr) (c0_1 : Nat) (l0_1 : List Int) (r : Int) (w : World) (hr0_1 : Kd.C (Kd.int .i64) w A0_1 l0_1.length l0_1) (hc0_1 : l0_1.length ≤ c0_1) (h : lock_Check.f a0_0 l0_1 = some r) :
    Calls Try.prog 10 #[.agg #[.int .i64 a0_0, .slice A0_1 l0_1.length c0_1]] w fun e w' => e = .returned (.int .i64 r) ∧ Below w.heap.size w w' := by
  cases h
  by_cases h0 : a0_0 = 0
  · subst h0
    rw [if_pos rfl]
    by_cases hl : l0_1 = []
    · subst hl
      refine (check_walk0 A0_1 c0_1 w ⟨Ints.of_C hr0_1⟩ (by simp)).mono ?_
      rintro e w' ⟨⟨rfl, _⟩ | ⟨rfl, k, hk, _⟩, hb⟩
      · exact ⟨by rw [if_pos rfl], hb⟩
      · simp [tasks] at hk
    · rw [if_neg hl]
      refine check_bad0 A0_1 c0_1 l0_1.length w (decide_eq_true (List.length_pos_iff.2 hl))
  · rw [if_neg h0]
    by_cases ht : taskB a0_0 = true
    · rw [if_pos ht]
      have e0 : tasks a0_0 l0_1 = a0_0 :: l0_1 := if_neg h0
      refine (check_walk1 a0_0 A0_1 c0_1 l0_1 w ⟨Ints.of_C hr0_1⟩ hr0_1.2.1 (beq_eq_false_iff_ne.2 h0) ht).mono ?_
      rw [e0]
      rintro e w' ⟨⟨rfl, hg⟩ | ⟨rfl, k, hk, hg⟩, hb⟩
      · exact ⟨by rw [if_pos (okTasks_yes hg)], hb⟩
      · exact ⟨by rw [okTasks_no hk hg]; simp, hb⟩
    · rw [if_neg ht]
      exact check_bad1 a0_0 A0_1 c0_1 l0_1.length w (beq_eq_false_iff_ne.2 h0) (by simpa using ht)

end Go.Proofs.Ytoncnjnicgfhmab.Q
