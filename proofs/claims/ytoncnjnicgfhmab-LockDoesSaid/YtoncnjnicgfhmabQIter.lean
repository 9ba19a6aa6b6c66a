/-
  The iterator over a lock's tasks: 'all' and its closure: for every loop body that keeps what lay below n₀ (after the kit's worked slices.All).
-/
import Derived.RangeFuncBox
import Derived.RangeFuncLeaves
import Derived.Shelf.Abstract
import Derived.OwnWalkIn
import Derived.TacticsInMore
import Derived.LoopNIn
import Derived.LoopIn
import Derived.Lib.Hide
import Derived.Test.YtoncnjnicgfhmabQ0
namespace Go.Proofs.Ytoncnjnicgfhmab.Q
open Go.RowKit Go.Shelf Go.Proofs.YtoncnjnicgfhmabW.PrintWords Go.Proofs.YtoncnjnicgfhmabW.PrintLast Go.Proofs.YtoncnjnicgfhmabW.PrintMore
set_option linter.unusedVariables false
set_option linter.unusedSimpArgs false
attribute [local go_sem] Oper.semAt_some

/-- What has come when k rounds are over. -/
def upto (ts : List Int) (k : Nat) : List (Int × Int) := (List.range k).map fun (j : Nat) => ((j : Int), ts[j]?.getD 0)
theorem upto_succ (ts : List Int) (k : Nat) : upto ts (k + 1) = upto ts k ++ [((k : Int), ts[k]?.getD 0)] := by simp [upto, List.range_succ]
theorem upto_length (ts : List Int) (k : Nat) : (upto ts k).length = k := by simp [upto]
/-- The tasks of a lock. -/
def tasks (o : Int) (l : List Int) : List Int := if o = 0 then [] else o :: l
/-- The slice at A holds the whole numbers l, in a block below n₀; or there are none. -/
def Ints (n₀ : Nat) (W : World) (A : Option Addr) (l : List Int) : Prop :=
  l = [] ∨ ∃ ad : Addr, A = some ad ∧ ad.block < n₀ ∧ ∀ j, j < l.length → W.cell? (ad.add j) = some (.int .i64 (l[j]?.getD 0))
theorem add_block (ad : Addr) (j : Nat) : (ad.add j).block = ad.block := by unfold Addr.add; split <;> rfl
theorem Ints.below {n₀ : Nat} {w w1 : World} {A : Option Addr} {l : List Int} (h : Ints n₀ w A l) (hb : Below n₀ w w1) : Ints n₀ w1 A l := by
  rcases h with h | ⟨ad, rfl, hlt, hc⟩
  · exact .inl h
  · exact .inr ⟨ad, rfl, hlt, fun j hj => (hb.cell (p := ad.add j) (by rw [add_block]; exact hlt)).trans (hc j hj)⟩
theorem Ints.mono {n₀ n₁ : Nat} {w : World} {A : Option Addr} {l : List Int} (h : Ints n₀ w A l) (hn : n₀ ≤ n₁) : Ints n₁ w A l := by
  rcases h with h | ⟨ad, rfl, hlt, hc⟩
  · exact .inl h
  · exact .inr ⟨ad, rfl, by omega, hc⟩
theorem Ints.of_C {w : World} {A : Option Addr} {l : List Int} (h : Kd.C (Kd.int .i64) w A l.length l) : Ints w.heap.size w A l := by
  rcases Nat.eq_zero_or_pos l.length with h0 | h0
  · exact .inl (List.eq_nil_of_length_eq_zero h0)
  · obtain ⟨ad, rfl, hx0⟩ := Kd.at_int h 0 (by omega) (by omega)
    refine .inr ⟨ad, rfl, ?_, fun j hj => ?_⟩
    · have := World.block_lt_of_cell? w _ hx0
      rwa [add_block] at this
    · obtain ⟨ad', e, hx⟩ := Kd.at_int h (j : Int) (by omega) (by omega)
      cases e
      rw [Int.toNat_natCast] at hx
      rw [hx]; simp [rd]

set_option maxRecDepth 100000 in
set_option maxHeartbeats 2000000 in
/-- The closure, at a lock whose owner is none: no round. -/
theorem all1_none (n : Nat) (l Bs : Nat) (J : List (Int × Int) → World → Prop) (W : World) (h : W.cell? ⟨Bs, 0, none⟩ = some (.int .i64 0)) (h0 : J [] W) :
    CallsIn Fence.wide n Try.prog 34 #[.func (.yield l) #[] #[], .pointer (some ⟨Bs, 0, none⟩)] W fun e W' => (∃ v, e = .returned v) ∧ J [] W' := by
  refine callsIn_of_wp Try.func34 rfl trivial ?_ rfl
  simp only [Try.ntmps34, List.size_toArray, List.length_cons, List.length_nil, Nat.reduceAdd, Nat.reduceSub, Array.replicate_succ, Array.replicate_zero, List.push_toArray, List.append_toArray, List.nil_append, List.cons_append]
  gi_wp2
  refine ⟨fun _ h => (by cases h), ?_⟩
  gi_wp2
  refine bodyPost_ret (results_none rfl _ _ _) rfl ?_
  exact ⟨⟨_, rfl⟩, h0⟩

set_option maxRecDepth 100000 in
set_option maxHeartbeats 4000000 in
/-- The closure, at a lock with an owner: its tasks, each with how many are ahead of it, in order; or a part of them. -/
theorem all1_some (n : Nat) (hn : 1 ≤ n) (l Bs n₀ : Nat) (A : Option Addr) (c : Nat) (o : Int) (zs : List Int) (ho : (o == 0) = false) (hlen : zs.length ≤ 9223372036854775807) (J Jx : List (Int × Int) → World → Prop)
    (hY : ∀ pre x W, J pre W → pre.length < zs.length + 1 → YieldAt Fence.wide (n - 1) Try.prog l #[.int .i64 x.2, .int .i64 x.1] W fun e W' =>
      (e = .returned (.bool true) ∧ J (pre ++ [x]) W' ∧ Below n₀ W W') ∨ (e = .returned (.bool false) ∧ Jx (pre ++ [x]) W'))
    (W : World) (hBs : Bs < n₀) (h1 : W.cell? ⟨Bs, 0, none⟩ = some (.int .i64 o)) (h2 : W.cell? ⟨Bs, 1, none⟩ = some (.slice A zs.length c)) (hI : Ints n₀ W A zs) (h0 : J [] W) :
    CallsIn Fence.wide n Try.prog 34 #[.func (.yield l) #[] #[], .pointer (some ⟨Bs, 0, none⟩)] W fun e W' => (∃ v, e = .returned v) ∧
      ((∃ ys, ys = upto (o :: zs) (zs.length + 1) ∧ J ys W') ∨ (∃ pre, (∃ k, k ≤ zs.length + 1 ∧ pre = upto (o :: zs) k) ∧ Jx pre W')) := by
  refine callsIn_of_wp Try.func34 rfl trivial ?_ rfl
  simp only [Try.ntmps34, List.size_toArray, List.length_cons, List.length_nil, Nat.reduceAdd, Nat.reduceSub, Array.replicate_succ, Array.replicate_zero, List.push_toArray, List.append_toArray, List.nil_append, List.cons_append]
  obtain ⟨fn, tmps, assign, body, hy, hR⟩ := hY [] (0, o) W h0 (by simp)
  dsimp only at hy
  gi_wp2
  refine hR.mono ?_
  rintro e W3 (⟨rfl, hJ3, hk3⟩ | ⟨rfl, hJx3⟩)
  · have h1u : [] ++ [((0 : Int), o)] = upto (o :: zs) 1 := by simp [upto]
    rw [h1u] at hJ3
    clear h1u
    have h23 : W3.cell? ⟨Bs, 1, none⟩ = some (.slice A zs.length c) := (hk3.cell (p := ⟨Bs, 1, none⟩) hBs).trans h2
    have hI3 := hI.below hk3
    gi_wp2
    gi_loopw [3, 4, 18] (fun _ _ i wr => ∃ k : Nat, k ≤ zs.length ∧ i = .int .i64 (k : Int) ∧ J (upto (o :: zs) (k + 1)) wr ∧ Below n₀ W wr)
      (fun _ _ i _ => zs.length - (intOf i).toNat)
    case atStart => exact ⟨0, Nat.zero_le _, rfl, hJ3, hk3⟩
    case round =>
      obtain ⟨k, hk, rfl, hJs, hnx⟩ := hrel
      by_cases hlt : k < zs.length
      · have hcx : ∃ ad, A = some ad ∧ wr.cell? (ad.add k) = some (.int .i64 (zs[k]?.getD 0)) := by
          rcases hI.below hnx with h | ⟨ad, he, _, hc⟩
          · subst h; simp at hlt
          · exact ⟨ad, he, hc k hlt⟩
        obtain ⟨ad, rfl, hcx⟩ := hcx
        obtain ⟨z, hz⟩ : ∃ z, zs[k]?.getD 0 = z := ⟨_, rfl⟩
        rw [hz] at hcx
        obtain ⟨fn2, tmps2, assign2, body2, hy2, hR2⟩ := hY _ ((k : Int) + 1, z) wr hJs (by rw [upto_length]; omega)
        dsimp only at hy2
        have hu : upto (o :: zs) (k + 1) ++ [((k : Int) + 1, z)] = upto (o :: zs) (k + 1 + 1) := by rw [upto_succ (o :: zs) (k + 1), ← hz]; simp
        rw [hu] at hR2
        clear hy hR hI3 hI h1 h2 h23 hu hz
        gi_wp2
        refine hR2.mono ?_
        rintro e W4 (⟨rfl, hJ4, hk4⟩ | ⟨rfl, hJx4⟩)
        · gi_wp2
          go_roundw
          case rel => exact ⟨k + 1, by omega, by simp, hJ4, hnx.trans hk4⟩
          case measure => simp [intOf]; omega
        · gi_wp2
          refine bodyPost_ret (results_none rfl _ _ _) rfl ?_
          exact ⟨⟨_, rfl⟩, .inr ⟨_, ⟨k + 1 + 1, by omega, rfl⟩, hJx4⟩⟩
      · obtain rfl : k = zs.length := by omega
        gi_wp2
        go_end0
        exact ⟨⟨_, rfl⟩, .inl ⟨_, rfl, hJs⟩⟩
  · gi_wp2
    refine bodyPost_ret (results_none rfl _ _ _) rfl ?_
    exact ⟨⟨_, rfl⟩, .inr ⟨_, ⟨1, by omega, by simp [upto]⟩, hJx3⟩⟩

theorem tasks_length_le (o : Int) (zs : List Int) : (tasks o zs).length ≤ zs.length + 1 := by unfold tasks; split <;> simp
/-- What 'all' hands back yields a lock's tasks, each with how many are ahead of it. -/
theorem all_stops (n : Nat) (hn : 1 ≤ n) (Bs n₀ : Nat) (A : Option Addr) (c : Nat) (o : Int) (zs : List Int) (hlen : zs.length ≤ 9223372036854775807) (w : World) (hBs : Bs < n₀) (hn₀ : n₀ ≤ w.heap.size)
    (h1 : w.cell? ⟨Bs, 0, none⟩ = some (.int .i64 o)) (h2 : w.cell? ⟨Bs, 1, none⟩ = some (.slice A zs.length c)) (hI : Ints n₀ w A zs) :
    SeqStopsK Fence.wide n Try.prog 34 #[.pointer (some ⟨Bs, 0, none⟩)] (fun x : Int × Int => #[Value.int .i64 x.2, Value.int .i64 x.1]) (Below n₀) (fun ys => ys = upto (tasks o zs) (tasks o zs).length)
      (fun pre => ∃ k, k ≤ (tasks o zs).length ∧ pre = upto (tasks o zs) k) (zs.length + 1) w := fun l J Jx W hW _ _ hY h0 => by
  have hb : Below n₀ w W := hW.mono hn₀
  have h1' := (hb.cell (p := ⟨Bs, 0, none⟩) hBs).trans h1
  have h2' := (hb.cell (p := ⟨Bs, 1, none⟩) hBs).trans h2
  by_cases ho : o = 0
  · subst ho
    exact (all1_none n l Bs J W h1' h0).mono fun e W' ⟨he, hj⟩ => ⟨he, .inl ⟨_, rfl, hj⟩⟩
  · refine (all1_some n hn l Bs n₀ A c o zs (by simpa using ho) hlen J Jx hY W hBs h1' h2' (hI.below hb) h0).mono ?_
    have ht : tasks o zs = o :: zs := if_neg ho
    rw [ht]
    rintro e W' ⟨he, ⟨ys, rfl, hj⟩ | ⟨pre, ⟨k, hk, rfl⟩, hj⟩⟩
    · exact ⟨he, .inl ⟨_, rfl, hj⟩⟩
    · exact ⟨he, .inr ⟨_, ⟨k, by simpa using hk, rfl⟩, hj⟩⟩

set_option maxHeartbeats 1000000 in
theorem all_in (n : Nat) (o : Int) (A : Option Addr) (len c : Nat) (w : World) :
    CallsIn Fence.wide n Try.prog 27 #[.agg #[.int .i64 o, .slice A len c]] w fun e w' => e = .returned (.func (.func 34) #[] #[.pointer (some ⟨w.heap.size, 0, none⟩)]) ∧ w' = w.alloc (.cells #[.int .i64 o, .slice A len c] 24) := by
  refine callsIn_of_wp Try.func27 rfl trivial ?_ rfl
  simp only [Try.ntmps27, List.size_toArray, List.length_cons, List.length_nil, Nat.reduceAdd, Nat.reduceSub, Array.replicate_succ, Array.replicate_zero, List.push_toArray, List.append_toArray, List.nil_append, List.cons_append]
  gi_wp2
  go_ret
  exact ⟨rfl, rfl⟩

/-- How many are ahead of a task; -1: it is none of them. -/
def findAt : List Int → Int → Nat → Int
  | [], _, _ => -1
  | t :: ts, x, i => if t = x then i else findAt ts x (i + 1)
def findIn (ts : List Int) (x : Int) : Int := findAt ts x 0

set_option maxRecDepth 100000 in
set_option maxHeartbeats 4000000 in
theorem find_walk (o : Int) (A : Option Addr) (c : Nat) (zs : List Int) (x : Int) (w : World) (hlen : zs.length ≤ 9223372036854775807) (hI : Ints w.heap.size w A zs) :
    Calls Try.prog 24 #[.agg #[.int .i64 o, .slice A zs.length c], .int .i64 x] w fun e W' =>
      ((e = .returned (.int .i64 (-1)) ∧ ∀ j : Nat, j < (tasks o zs).length → (tasks o zs)[j]?.getD 0 ≠ x) ∨ (∃ k : Nat, k < (tasks o zs).length ∧ e = .returned (.int .i64 k) ∧ (tasks o zs)[k]?.getD 0 = x ∧ ∀ j, j < k → (tasks o zs)[j]?.getD 0 ≠ x)) ∧ Below w.heap.size w W' := by
  refine (callsIn_wide (n := 3)).1 ?_
  refine callsIn_of_wp_marks Try.func24 rfl trivial ?_ rfl
  simp only [Try.ntmps24, List.size_toArray, List.length_cons, List.length_nil, Nat.reduceAdd, Nat.reduceSub, Array.replicate_succ, Array.replicate_zero, List.push_toArray, List.append_toArray, List.nil_append, List.cons_append]
  gi_wp2_with (refine ⟨trivial, ?_⟩; gi_at_call 27; refine (all_in 2 _ _ _ _ _).mono ?_; rintro e w' ⟨rfl, rfl⟩)
  have bN := Boxed.new w 24 (.int .i64 o)
  generalize hB : w.heap.size = B at *
  have hx1 : (((((w.alloc (.cells #[.int .i64 o, .slice A zs.length c] 24)).alloc (.cells #[.int .i64 x] 3)).alloc (.cells #[.int .i64 0] 3)).alloc (.cells #[.int .i64 o, .slice A zs.length c] 24)).cell? ⟨B + 1, 0, none⟩) = some (.int .i64 x) := by
    subst hB; rw [World.cell?_alloc_past _ _ _ (by simp), World.cell?_alloc_past _ _ _ (by simp), World.cell?_alloc_at _ _ _ _ (by simp)]; rfl
  have hx2 : (((((w.alloc (.cells #[.int .i64 o, .slice A zs.length c] 24)).alloc (.cells #[.int .i64 x] 3)).alloc (.cells #[.int .i64 0] 3)).alloc (.cells #[.int .i64 o, .slice A zs.length c] 24)).cell? ⟨B + 2, 0, none⟩) = some (.int .i64 0) := by
    subst hB; rw [World.cell?_alloc_past _ _ _ (by simp), World.cell?_alloc_at _ _ _ _ (by simp)]; rfl
  have hx3 : (((((w.alloc (.cells #[.int .i64 o, .slice A zs.length c] 24)).alloc (.cells #[.int .i64 x] 3)).alloc (.cells #[.int .i64 0] 3)).alloc (.cells #[.int .i64 o, .slice A zs.length c] 24)).cell? ⟨B + 3, 0, none⟩) = some (.int .i64 o) := by
    subst hB; rw [World.cell?_alloc_at _ _ _ _ (by simp)]; rfl
  have hx4 : (((((w.alloc (.cells #[.int .i64 o, .slice A zs.length c] 24)).alloc (.cells #[.int .i64 x] 3)).alloc (.cells #[.int .i64 0] 3)).alloc (.cells #[.int .i64 o, .slice A zs.length c] 24)).cell? ⟨B + 3, 1, none⟩) = some (.slice A zs.length c) := by
    subst hB; rw [World.cell?_alloc_at _ _ _ _ (by simp)]; rfl
  have hf2 : (((((w.alloc (.cells #[.int .i64 o, .slice A zs.length c] 24)).alloc (.cells #[.int .i64 x] 3)).alloc (.cells #[.int .i64 0] 3)).alloc (.cells #[.int .i64 o, .slice A zs.length c] 24)).frozen? ⟨B + 2, 0, none⟩) = false := by
    subst hB; rw [World.frozen?_alloc_past _ _ _ (by simp)]; exact World.frozen?_alloc_at _ _ _ _ (by simp)
  have hsz : ((((w.alloc (.cells #[.int .i64 o, .slice A zs.length c] 24)).alloc (.cells #[.int .i64 x] 3)).alloc (.cells #[.int .i64 0] 3)).alloc (.cells #[.int .i64 o, .slice A zs.length c] 24)).heap.size = B + 4 := by subst hB; simp
  have hBw : Below B w ((((w.alloc (.cells #[.int .i64 o, .slice A zs.length c] 24)).alloc (.cells #[.int .i64 x] 3)).alloc (.cells #[.int .i64 0] 3)).alloc (.cells #[.int .i64 o, .slice A zs.length c] 24)) := by
    subst hB; exact ((((Below.refl _ w).alloc (Nat.le_refl _) _).alloc (by simp) _).alloc (by simp; omega) _).alloc (by simp; omega) _
  have hI0 := (hI.below hBw).mono (show B ≤ B + 4 by omega)
  clear hI bN
  generalize ((((w.alloc (.cells #[.int .i64 o, .slice A zs.length c] 24)).alloc (.cells #[.int .i64 x] 3)).alloc (.cells #[.int .i64 0] 3)).alloc (.cells #[.int .i64 o, .slice A zs.length c] 24)) = W0 at *
  have e3 : w.heap.size + 1 + 1 + 1 = B + 3 := by omega
  have e2 : w.heap.size + 1 + 1 = B + 2 := by omega
  have e1 : w.heap.size + 1 = B + 1 := by omega
  refine wpIn_rangeFunc_ownG rfl (by omega) (gf := 34) (lb := #[.pointer (some ⟨B + 3, 0, none⟩)]) rfl trivial (enters_of Try.func34 (by kernel_rfl) rfl)
    (all_stops 2 (by omega) (B + 3) (B + 4) A c o zs hlen W0 (by omega) (by omega) hx3 hx4 hI0) belowK_t (belowK_b (by omega)) (Below.refl _ _) (fun _ => rfl)
    (fun pre W => ((∀ p ∈ pre, p.2 ≠ x) ∧ (W.cell? ⟨B + 2, 0, none⟩ = some (.int .i64 0) ∧ W.frozen? ⟨B + 2, 0, none⟩ = false) ∧ W.cell? ⟨B + 1, 0, none⟩ = some (.int .i64 x)) ∧ Below B w W)
    (fun cc pre W => (cc = .ret ∧ ∃ ini last, pre = ini ++ [last] ∧ (∀ p ∈ ini, p.2 ≠ x) ∧ last.2 = x ∧ W.cell? ⟨B + 2, 0, none⟩ = some (.int .i64 last.1)) ∧ Below B w W)
    (OwnFrom.and (Own.from (fun s W1 W2 row hs hg hr => ⟨hs.1, ⟨cell_kept hs.2.1.1 hg hr, (frozen_kept hs.2.1.1 hg hr).trans hs.2.1.2⟩, cell_kept hs.2.2 hg hr⟩) _) (ownFrom_below (by omega) (by omega)))
    (fun cc => OwnFrom.and (Own.from (fun s W1 W2 row hs hg hr => by obtain ⟨hc, ini, last, e1, e2, e3, e4⟩ := hs; exact ⟨hc, ini, last, e1, e2, e3, cell_kept e4 hg hr⟩) _) (ownFrom_below (by omega) (by omega)))
    ⟨⟨by simp, ⟨hx2, hf2⟩, hx1⟩, hBw⟩
    (fun y => { tmps := #[.agg #[.int .i64 o, .slice A zs.length c], .int .i64 x, .pointer (some ⟨B, 0, none⟩), .pointer (some ⟨B + 1, 0, none⟩), .pointer (some ⟨B + 2, 0, none⟩), .int .i64 y.2, .int .i64 y.1, .agg #[.int .i64 o, .slice A zs.length c], .func (.func 34) #[] #[.pointer (some ⟨B + 3, 0, none⟩)], .int .i64 y.2, .int .i64 y.1, undef, undef, undef, undef], defers := [] }) ?assign ?body ?done ?stop
  case assign =>
    intro l y W K hK
    gi_wp2
    exact hK
  case body =>
    rintro l pre y W ⟨⟨hp, ⟨hcr, hfr⟩, hcx⟩, hBW⟩ _
    have HP := Aside0.mk hp
    clear hx1 hx2 hx3 hx4 hf2 hI0 hp
    by_cases hy : y.2 = x
    · have hd : (y.2 == x) = true := beq_iff_eq.2 hy
      have HY := Aside0.mk hy
      clear hy
      gi_wp2
      exact ⟨(KeepsOthers.setCell _ _ _).from _, ⟨rfl, pre, y, rfl, HP.out, HY.out, World.cell?_setCell_same' _ _ _ (by rw [hcr]; rfl)⟩, hBW.setCell (p := ⟨B + 2, 0, none⟩) (by show B ≤ B + 2; omega) _⟩
    · have hd : (y.2 == x) = false := beq_eq_false_iff_ne.2 hy
      have HY := Aside0.mk hy
      clear hy
      gi_wp2
      exact ⟨KeepsFrom.refl _ _, Below.refl _ _, ⟨fun p hp' => (List.mem_append.1 hp').elim (HP.out p) (fun e => by simp at e; subst e; exact HY.out), ⟨hcr, hfr⟩, hcx⟩, hBW⟩
  case done =>
    rintro D ys W hD rfl ⟨⟨hne, ⟨hcr, hfr⟩, hcx⟩, hBW⟩ hK
    have HNE := Aside0.mk hne
    clear hx1 hx2 hx3 hx4 hf2 hI0 hne
    gi_wp2
    have hK' := (KeepsOthers.setCell W ⟨B + 2, 0, none⟩ (.int .i64 (-1))).same D _ hK rfl
    refine ⟨by simp, .inl ⟨_, _, rfl, run_takeDeferred hK', ?_⟩⟩
    have hc5 := cell_kept (World.cell?_setCell_same' W ⟨B + 2, 0, none⟩ (.int .i64 (-1)) (by rw [hcr]; rfl)) (grownBy_putObj' _ D (.deferred none)) (fun r e => by cases e; exact ⟨_, hK', rfl⟩)
    refine ⟨.int .i64 (-1), ?_, .inl ⟨rfl, fun j hj => HNE.out ((j : Int), (tasks o zs)[j]?.getD 0) (by simp only [upto, List.mem_map, List.mem_range]; exact ⟨j, hj, rfl⟩)⟩, by rw [hB]; exact (hBW.setCell (p := ⟨B + 2, 0, none⟩) (by show B ≤ B + 2; omega) _).trans (belowK_b (w := w) (by omega) _ D _ _ (by omega) hK' rfl rfl)⟩
    simp [results, Try.f24, go_sem, hc5]
  case stop =>
    rintro D cc pre W hD ⟨k, hk, rfl⟩ ⟨⟨rfl, ini, last, q1, q2, q3, hcr⟩, hBW⟩ hK
    have Q1 := Aside0.mk q1
    have Q2 := Aside0.mk q2
    have Q3 := Aside0.mk q3
    clear hx1 hx2 hx3 hx4 hf2 hI0 q1 q2 q3
    gi_wp2
    refine ⟨by simp, .inl ⟨_, _, rfl, run_takeDeferred hK, ?_⟩⟩
    have hc5 := cell_kept hcr (grownBy_putObj' _ D (.deferred none)) (fun r e => by cases e; exact ⟨_, hK, rfl⟩)
    obtain ⟨k', rfl⟩ : ∃ k', k = k' + 1 := by
      cases k with
      | zero => have := Q1.out; simp [upto] at this
      | succ k' => exact ⟨k', rfl⟩
    have q1 := Q1.out
    rw [upto_succ] at q1
    obtain ⟨rfl, q5⟩ := List.append_inj' q1 rfl
    obtain rfl : ((k' : Int), (tasks o zs)[k']?.getD 0) = last := by simpa using q5
    refine ⟨.int .i64 (k' : Int), ?_, .inr ⟨k', by omega, rfl, Q3.out, fun j hj => Q2.out ((j : Int), (tasks o zs)[j]?.getD 0) (by simp only [upto, List.mem_map, List.mem_range]; exact ⟨j, hj, rfl⟩)⟩, by rw [hB]; exact hBW.trans (belowK_b (w := w) (by omega) W D _ _ (by omega) hK rfl rfl)⟩
    simp [results, Try.f24, go_sem, hc5]

/-! ### lock.find: function 24 -/
theorem findAt_none (x : Int) : ∀ (ts : List Int) (i : Nat), (∀ j : Nat, j < ts.length → ts[j]?.getD 0 ≠ x) → findAt ts x i = -1
  | [], _, _ => rfl
  | t :: ts, i, h => by
    have h0 := h 0 (by simp)
    simp only [List.getElem?_cons_zero, Option.getD_some] at h0
    simp only [findAt]
    rw [if_neg h0]
    exact findAt_none x ts (i + 1) (fun j hj => by have := h (j + 1) (by simpa using hj); simpa using this)
theorem findAt_some (x : Int) : ∀ (ts : List Int) (i k : Nat), k < ts.length → ts[k]?.getD 0 = x → (∀ j, j < k → ts[j]?.getD 0 ≠ x) → findAt ts x i = ((i + k : Nat) : Int)
  | [], _, _, hk, _, _ => by simp at hk
  | t :: ts, i, 0, _, he, _ => by
    simp only [List.getElem?_cons_zero, Option.getD_some] at he
    simp [findAt, he]
  | t :: ts, i, k + 1, hk, he, h => by
    have h0 := h 0 (by omega)
    simp only [List.getElem?_cons_zero, Option.getD_some] at h0
    simp only [findAt]
    rw [if_neg h0, findAt_some x ts (i + 1) k (by simpa using hk) (by simpa using he) (fun j hj => by have := h (j + 1) (by omega); simpa using this)]
    congr 1
    omega
theorem findIn_none {ts : List Int} {x : Int} (h : ∀ j : Nat, j < ts.length → ts[j]?.getD 0 ≠ x) : findIn ts x = -1 := findAt_none x ts 0 h
theorem findIn_some {ts : List Int} {x : Int} {k : Nat} (hk : k < ts.length) (he : ts[k]?.getD 0 = x) (h : ∀ j, j < k → ts[j]?.getD 0 ≠ x) : findIn ts x = k := by
  have := findAt_some x ts 0 k hk he h
  simpa [findIn] using this
def lock_find.f (a0_0 : Int) (l0_1 : List Int) (a1 : Int) : Option Int := some (findIn (tasks a0_0 l0_1) a1)
theorem lock_find.calls (a0_0 : Int) (A0_1 : Option Addr) (c0_1 : Nat) (l0_1 : List Int) (a1 : Int) (r : Int) (w : World) (hr0_1 : Kd.C (Kd.int .i64) w A0_1 l0_1.length l0_1) (hc0_1 : l0_1.length ≤ c0_1) (h : lock_find.f a0_0 l0_1 a1 = some r) :
    Calls Try.prog 24 #[.agg #[.int .i64 a0_0, .slice A0_1 l0_1.length c0_1], .int .i64 a1] w fun e w' => e = .returned (.int .i64 r) ∧ Below w.heap.size w w' := by
  cases h
  refine (find_walk a0_0 A0_1 c0_1 l0_1 a1 w hr0_1.2.1 (Ints.of_C hr0_1)).mono ?_
  rintro e w' ⟨⟨rfl, hn⟩ | ⟨k, hk, rfl, he, hn⟩, hb⟩
  · exact ⟨by rw [findIn_none hn], hb⟩
  · exact ⟨by rw [findIn_some hk he hn], hb⟩

end Go.Proofs.Ytoncnjnicgfhmab.Q
