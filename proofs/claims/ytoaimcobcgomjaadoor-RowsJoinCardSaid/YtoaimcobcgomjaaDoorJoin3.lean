/- What the law reaches of these texts: RowsJoinP, RowsVals, RowsJoinW, RowsJoinL, ShaArgB, RowsArgR, ShaLaid (joined by wip/tools/prune.py). -/
import Derived.Test.YtoaimcobcgomjaaDoorJoin2
import Derived.WalkKit
import Derived.ProofKit
import Derived.OpenShut
import Derived.Lib.SmallJoins
import Derived.Deep.Slices
import Derived.Test.YtoaimcobcgomjaaDoorRows
import Derived.LaidMore
import Derived.Stop.Joined
import Derived.Lib.LaidTab
namespace Go.Proofs.YtoaimcobcgomjaaDoor.Q
open Go.RowKit Go.Proofs.YtoaimcobcgomjaaDoorW.PrintWords Go.Proofs.YtoaimcobcgomjaaDoorW.PrintLast Go.Proofs.YtoaimcobcgomjaaDoorW.PrintMore
set_option linter.unusedVariables false
set_option linter.unusedSimpArgs false
theorem front_join (n m : Nat) (hn : n = 1 ∨ n = 2 ∨ n = 4 ∨ n = 8 ∨ n = 16) (hm : 0 < m) (hmn : m ≤ n) : frontN (n + m) = n := by
  have h : ∀ m : Fin 17, (0 < m.1 → m.1 ≤ 1 → frontN (1 + m.1) = 1) ∧ (0 < m.1 → m.1 ≤ 2 → frontN (2 + m.1) = 2) ∧ (0 < m.1 → m.1 ≤ 4 → frontN (4 + m.1) = 4) ∧ (0 < m.1 → m.1 ≤ 8 → frontN (8 + m.1) = 8) ∧ (0 < m.1 → m.1 ≤ 16 → frontN (16 + m.1) = 16) := by decide +kernel
  obtain ⟨h1, h2, h4, h8, h16⟩ := h ⟨m, by omega⟩
  rcases hn with rfl | rfl | rfl | rfl | rfl
  · exact h1 hm hmn
  · exact h2 hm hmn
  · exact h4 hm hmn
  · exact h8 hm hmn
  · exact h16 hm hmn
theorem root_join (l o : List (List Int)) (hn : l.length = 1 ∨ l.length = 2 ∨ l.length = 4 ∨ l.length = 8 ∨ l.length = 16) (hm : 0 < o.length) (hmn : o.length ≤ l.length) : rootP (l ++ o) = tagOf 8 [rootP l, rootP o] := by
  have e := front_join l.length o.length hn hm hmn
  rw [rootP_two (l ++ o) (by rw [List.length_append]; omega) (by rw [List.length_append]; omega), List.length_append, e, List.take_left' rfl, List.drop_left' rfl]
theorem list_join (l o : List (List Int)) (hl : l.length ≤ 16) (ho : o.length ≤ 16) : listP (l ++ o) = (listP l && listP o) := by
  unfold listP
  rw [List.length_append, decide_eq_true (show l.length + o.length ≤ 256 by omega), decide_eq_true (show l.length ≤ 256 by omega), decide_eq_true (show o.length ≤ 256 by omega), List.any_append]
  simp
/-- Are rows more than is gone through? -/
def greatP (l : List (List Int)) (n : Int) : Bool := decide ((l.length : Int) > n) || l.any fun p => (decide (200 < p.length) && decide (p.length ≤ 4096)) || decide (5000 < p.length)
theorem great_l0 (l : List (List Int)) (hmax : l.length < 1000000000) : ∀ (d k j : Nat), j + d = l.length → d < k → (∀ i, (hi : i < l.length) → i < j → ((decide (200 < l[i].length) && decide (l[i].length ≤ 4096)) || decide (5000 < l[i].length)) = false) →
    beadrollref13_Great.l0 k l (j : Int) = some (l.any fun p => (decide (200 < p.length) && decide (p.length ≤ 4096)) || decide (5000 < p.length)) := by
  intro d
  induction d with
  | zero =>
    intro k j hj hk hall
    obtain ⟨k, rfl⟩ : ∃ q, k = q + 1 := ⟨k - 1, by omega⟩
    simp only [beadrollref13_Great.l0]
    rw [if_neg (by omega)]
    have : (l.any fun p => (decide (200 < p.length) && decide (p.length ≤ 4096)) || decide (5000 < p.length)) = false := List.any_eq_false.2 fun p hp => by
      obtain ⟨i, hi, rfl⟩ := List.mem_iff_getElem.1 hp
      rw [hall i hi (by omega)]
      simp
    rw [this]
  | succ d ih =>
    intro k j hj hk hall
    obtain ⟨k, rfl⟩ : ∃ q, k = q + 1 := ⟨k - 1, by omega⟩
    have hjl : j < l.length := by omega
    have hw : wrap64 ((j : Int) + 1) = ((j + 1 : Nat) : Int) := by unfold wrap64; omega
    have hyes : ((decide (200 < l[j].length) && decide (l[j].length ≤ 4096)) || decide (5000 < l[j].length)) = true → (l.any fun p => (decide (200 < p.length) && decide (p.length ≤ 4096)) || decide (5000 < p.length)) = true := fun h => List.any_eq_true.2 ⟨_, List.getElem_mem hjl, h⟩
    have hno : ((decide (200 < l[j].length) && decide (l[j].length ≤ 4096)) || decide (5000 < l[j].length)) = false → beadrollref13_Great.l0 k l ((j + 1 : Nat) : Int) = some (l.any fun p => (decide (200 < p.length) && decide (p.length ≤ 4096)) || decide (5000 < p.length)) := fun h => ih k (j + 1) (by omega) (by omega) (fun i hi hij => by
      by_cases e : i = j
      · subst e; exact h
      · exact hall i hi (by omega))
    simp only [beadrollref13_Great.l0]
    rw [if_pos (by omega), if_pos (by omega), rd_row l j hjl, hw]
    by_cases h1 : (l[j].length : Int) > 200
    · rw [if_pos h1]
      by_cases h2 : (l[j].length : Int) ≤ 4096
      · rw [if_pos h2, hyes (by rw [decide_eq_true (show 200 < l[j].length by omega), decide_eq_true (show l[j].length ≤ 4096 by omega)]; rfl)]
      · rw [if_neg h2]
        by_cases h3 : (l[j].length : Int) > 5000
        · rw [if_pos h3, hyes (by rw [decide_eq_true (show 5000 < l[j].length by omega)]; simp)]
        · rw [if_neg h3]
          exact hno (by rw [decide_eq_false (show ¬ l[j].length ≤ 4096 by omega), decide_eq_false (show ¬ 5000 < l[j].length by omega)]; simp)
    · rw [if_neg h1]
      by_cases h3 : (l[j].length : Int) > 5000
      · rw [if_pos h3, hyes (by rw [decide_eq_true (show 5000 < l[j].length by omega)]; simp)]
      · rw [if_neg h3]
        exact hno (by rw [decide_eq_false (show ¬ 200 < l[j].length by omega), decide_eq_false (show ¬ 5000 < l[j].length by omega)]; simp)
theorem great_f (l : List (List Int)) (n : Int) (hn : n < 1000) : beadrollref13_Great.f 1001 l n = some (greatP l n) := by
  unfold beadrollref13_Great.f greatP
  by_cases h : (l.length : Int) > n
  · rw [if_pos h, decide_eq_true h]; rfl
  · rw [if_neg h, decide_eq_false h, Bool.false_or]
    exact great_l0 l (by omega) l.length 1001 0 (by omega) (by omega) (fun i hi h => by omega)
theorem great_walk (A : Option Addr) (n c : Nat) (l : List (List Int)) (k : Int) (hk : k < 1000) (W : World) (br : Rws W A n c l) :
    Calls Tryd.prog 25 #[.slice A n c, .int .i64 k] W fun e W' => e = .returned (.bool (greatP l k)) ∧ Below W.heap.size W W' := by
  have e1 := br.len
  subst e1
  refine (beadrollref13_Great.calls 1001 A c l k (greatP l k) W br.rd_ br.le (great_f l k hk)).mono ?_
  rintro e W' ⟨rfl, nd, rfl⟩
  exact ⟨rfl, pw_below_drewN (Below.refl _ _) nd⟩
end Go.Proofs.YtoaimcobcgomjaaDoor.Q
namespace Go.Proofs.YtoaimcobcgomjaaDoor.Q
open Go.RowKit Go.Proofs.YtoaimcobcgomjaaDoorW.PrintWords Go.Proofs.YtoaimcobcgomjaaDoorW.PrintLast Go.Proofs.YtoaimcobcgomjaaDoorW.PrintMore
set_option linter.unusedVariables false
set_option linter.unusedSimpArgs false
/-- Slices' values that read as rows. -/
structure Vals (W : World) (xs : List Value) (l : List (List Int)) : Prop where
  len : xs.length = l.length
  at_ : ∀ (j : Nat) (x : Value) (p : List Int), xs[j]? = some x → l[j]? = some p → ∃ A c, x = .slice A p.length c ∧ Bts W A p.length c p
theorem Vals.below {W w : World} {xs : List Value} {l : List (List Int)} (h : Vals W xs l) (hb : Below W.heap.size W w) : Vals w xs l := ⟨h.len, fun j x p hx hp => by
  obtain ⟨A, c, e, b⟩ := h.at_ j x p hx hp
  exact ⟨A, c, e, b.below hb⟩⟩
theorem Vals.append {W : World} {xs ys : List Value} {l o : List (List Int)} (h : Vals W xs l) (k : Vals W ys o) : Vals W (xs ++ ys) (l ++ o) := ⟨by rw [List.length_append, List.length_append, h.len, k.len], fun j x p hx hp => by
  have hl := h.len
  by_cases hj : j < xs.length
  · rw [List.getElem?_append_left hj] at hx
    rw [List.getElem?_append_left (by omega)] at hp
    exact h.at_ j x p hx hp
  · rw [List.getElem?_append_right (by omega)] at hx
    rw [List.getElem?_append_right (by omega), ← hl] at hp
    exact k.at_ _ x p hx hp⟩
theorem Vals.one {W : World} {xs : List Value} {l : List (List Int)} (h : Vals W xs l) : ∀ u ∈ xs, u.oneCell' = true := fun u hu => by
  obtain ⟨j, hj, rfl⟩ := List.mem_iff_getElem.1 hu
  obtain ⟨A, c, e, _⟩ := h.at_ j xs[j] (l[j]'(by rw [← h.len]; exact hj)) (List.getElem?_eq_getElem hj) (List.getElem?_eq_getElem _)
  rw [e]
  rfl
theorem Rws.vals {W : World} {A : Option Addr} {n c : Nat} {l : List (List Int)} (h : Rws W A n c l) (hn : 0 < n) : ∃ ad xs, A = some ad ∧ xs.length = n ∧ Vals W xs l ∧ ∀ (j : Nat) (u : Value), xs[j]? = some u → W.cell? (ad.add j) = some u := by
  have hl := h.len
  obtain ⟨ad, _, _, hA, _, _⟩ := h.row 0 (by omega)
  have each : ∀ j, ∃ x : Value, ∀ hj : j < l.length, W.cell? (ad.add j) = some x ∧ ∃ A' c', x = .slice A' l[j].length c' ∧ Bts W A' l[j].length c' l[j] := fun j => by
    by_cases hj : j < l.length
    · obtain ⟨ad2, A', c', hA2, hc, hb⟩ := h.row j hj
      rw [hA] at hA2
      cases hA2
      exact ⟨_, fun _ => ⟨hc, A', c', rfl, hb⟩⟩
    · exact ⟨undef, fun h => absurd h hj⟩
  obtain ⟨f, hf⟩ := Classical.axiomOfChoice each
  refine ⟨ad, (List.range n).map f, hA, by simp, ⟨by simp [hl], fun j x p hx hp => ?_⟩, fun j u hu => ?_⟩
  · obtain ⟨hjl, rfl⟩ := List.getElem?_eq_some_iff.1 hp
    obtain ⟨hjn, rfl⟩ := List.getElem?_eq_some_iff.1 hx
    obtain ⟨_, A', c', e, hb⟩ := hf j hjl
    simp only [List.getElem_map, List.getElem_range]
    exact ⟨A', c', e, hb⟩
  · obtain ⟨hjn, rfl⟩ := List.getElem?_eq_some_iff.1 hu
    simp only [List.getElem_map, List.getElem_range]
    exact (hf j (by rw [hl]; simpa using hjn)).1
theorem Vals.rws {W : World} {base k : Nat} {v : Value} {xs : List Value} {l : List (List Int)} (h : Vals W xs l) (ho : W.ownsRow base 22 1 v (k + 1) xs) : ∃ g cap, v = .slice (some ⟨g, 0, none⟩) (k + 1) cap ∧ Rws W (some ⟨g, 0, none⟩) (k + 1) cap l := by
  have hxl : xs.length = k + 1 := by rw [ho.1]; omega
  rcases ho.2 with ⟨_, h0⟩ | ⟨g, cap, cur, rfl, hg, hh, hn, hcm, hsz, htk⟩
  · cases h0
  · have hll : l.length = k + 1 := by rw [← h.len, hxl]
    rw [Nat.mul_one] at htk
    have hcur : ∀ j : Nat, j < k + 1 → cur[j]? = xs[j]? := fun j hj => by
      rw [← htk, List.getElem?_take, if_pos hj, Array.getElem?_toList]
    refine ⟨g, cap, rfl, ⟨?_, hn, fun p hp => ?_⟩⟩
    · have hp := parts_C (ps := l) hh (by rw [hll]; simp only [maxLen] at hcm; omega) (fun j q hj => by
        have hjl := (List.getElem?_eq_some_iff.1 hj).1
        have hx : xs[j]? = some (xs[j]'(by rw [h.len]; exact hjl)) := List.getElem?_eq_getElem _
        obtain ⟨A, c, e, hb⟩ := h.at_ j _ q hx hj
        exact ⟨A, c, by rw [hcur j (by omega), hx, e], hb.le, hb.rd_⟩)
      rwa [hll] at hp
    · obtain ⟨j, hj, rfl⟩ := List.mem_iff_getElem.1 hp
      obtain ⟨A, c, _, hb⟩ := h.at_ j (xs[j]'(by rw [h.len]; exact hj)) l[j] (List.getElem?_eq_getElem _) (List.getElem?_eq_getElem _)
      exact hb.by_
end Go.Proofs.YtoaimcobcgomjaaDoor.Q
namespace Go.Proofs.YtoaimcobcgomjaaDoor.Q
open Go.RowKit Go.Proofs.YtoaimcobcgomjaaDoorW.PrintWords Go.Proofs.YtoaimcobcgomjaaDoorW.PrintLast Go.Proofs.YtoaimcobcgomjaaDoorW.PrintMore
set_option linter.unusedVariables false
set_option linter.unusedSimpArgs false
def join10_T : Bool × List (List Nat × List Nat) := (true, [([], []), ([0], [0]), ([1], [1]), ([2, 1], [1, 2]), ([1, 3], [1, 3]), ([4, 1], [4]), ([5], [5]), ([5], [5]), ([5], [5]), ([7, 8, 5, 5], [5, 7, 8]), ([6, 9, 5], [5, 6, 9]), ([5, 10], [5, 10]), ([11, 9, 0, 1, 2, 3, 4, 5, 6, 7, 8, 9, 10, 11], [11])])
def join10_B : List Nat := [0, 1, 3, 7, 15, 31, 63, 63, 63, 447, 1023, 2047, 4095]
theorem join10_tab : rtab .any (opsOf Tryd.f10 10) = join10_T := by kernel_rfl
theorem join10_bits : waitsOk join10_T.2 join10_B = true := by kernel_rfl
set_option maxHeartbeats 8000000 in
set_option maxRecDepth 100000 in
theorem join_early (A1 A2 : Option Addr) (n1 c1 n2 c2 : Nat) (l o : List (List Int)) (W : World) (b1 : Rws W A1 n1 c1 l) (b2 : Rws W A2 n2 c2 o) (hk : KT W) (h : greatP l 16 = true ∨ greatP o 16 = true ∨ ¬ (n1 = 1 ∨ n1 = 2 ∨ n1 = 4 ∨ n1 = 8 ∨ n1 = 16)) :
    Calls Tryd.prog 10 #[.slice A1 n1 c1, .slice A2 n2 c2] W fun e W' => e = .returned (.bool true) ∧ Below W.heap.size W W' := by
  have HB := Aside0.mk (Below.refl W.heap.size W)
  have HAL : Aside0 (∀ w, Below W.heap.size W w → Calls Tryd.prog 21 #[] w fun e W' => e = .returned (.bool true) ∧ Below w.heap.size w W') := ⟨fun w hw => alive13_walk w (hk.below hk.lt hw)⟩
  have HG1 : Aside0 (∀ w, Below W.heap.size W w → Calls Tryd.prog 25 #[.slice A1 n1 c1, .int .i64 16] w fun e W' => e = .returned (.bool (greatP l 16)) ∧ Below w.heap.size w W') := ⟨fun w hw => great_walk A1 n1 c1 l 16 (by omega) w (b1.below hw)⟩
  have HG2 : Aside0 (∀ w, Below W.heap.size W w → Calls Tryd.prog 25 #[.slice A2 n2 c2, .int .i64 16] w fun e W' => e = .returned (.bool (greatP o 16)) ∧ Below w.heap.size w W') := ⟨fun w hw => great_walk A2 n2 c2 o 16 (by omega) w (b2.below hw)⟩
  clear b1 b2 hk
  cases h1 : greatP l 16 with
  | true =>
    rw [h1] at HG1
    clear h h1 HG2
    go_enter Tryd.func10, Tryd.ntmps10
    go_wp2_with (
      first
      | (go_at_call 21; (with_reducible refine (HAL.out _ HB.out).mono ?_); rintro e wa ⟨rfl, hb⟩; have n0 := Aside0.mk (below_step HB.out hb); clear HB; have HB := n0; clear n0; clear hb)
      | (go_at_call 25; (with_reducible refine (HG1.out _ HB.out).mono ?_); rintro e wg ⟨rfl, hb⟩; have n0 := Aside0.mk (below_step HB.out hb); clear HB; have HB := n0; clear n0; clear hb))
    go_ret
    exact ⟨rfl, HB.out⟩
  | false =>
    cases h2 : greatP o 16 with
    | true =>
      rw [h1] at HG1
      rw [h2] at HG2
      clear h h1 h2
      go_enter Tryd.func10, Tryd.ntmps10
      go_wp2_with (
        first
        | (go_at_call 21; (with_reducible refine (HAL.out _ HB.out).mono ?_); rintro e wa ⟨rfl, hb⟩; have n0 := Aside0.mk (below_step HB.out hb); clear HB; have HB := n0; clear n0; clear hb)
        | (go_at_call 25; (with_reducible refine (HG1.out _ HB.out).mono ?_); rintro e wg ⟨rfl, hb⟩; have n0 := Aside0.mk (below_step HB.out hb); clear HB; have HB := n0; clear n0; clear hb)
        | (go_at_call 25; (with_reducible refine (HG2.out _ HB.out).mono ?_); rintro e wh ⟨rfl, hb⟩; have n0 := Aside0.mk (below_step HB.out hb); clear HB; have HB := n0; clear n0; clear hb))
      go_ret
      exact ⟨rfl, HB.out⟩
    | false =>
      have h3 : ¬ (n1 = 1 ∨ n1 = 2 ∨ n1 = 4 ∨ n1 = 8 ∨ n1 = 16) := by
        rcases h with h | h | h
        · rw [h1] at h; cases h
        · rw [h2] at h; cases h
        · exact h
      rw [h1] at HG1
      rw [h2] at HG2
      have e1 : ((n1 : Int) != 1) = true := by simp; omega
      have e2 : ((n1 : Int) != 2) = true := by simp; omega
      have e4 : ((n1 : Int) != 4) = true := by simp; omega
      have e8 : ((n1 : Int) != 8) = true := by simp; omega
      have e16 : ((n1 : Int) != 16) = true := by simp; omega
      clear h h1 h2 h3
      go_enter Tryd.func10, Tryd.ntmps10
      go_wp2_with (
        first
        | (go_at_call 21; (with_reducible refine (HAL.out _ HB.out).mono ?_); rintro e wa ⟨rfl, hb⟩; have n0 := Aside0.mk (below_step HB.out hb); clear HB; have HB := n0; clear n0; clear hb)
        | (go_at_call 25; (with_reducible refine (HG1.out _ HB.out).mono ?_); rintro e wg ⟨rfl, hb⟩; have n0 := Aside0.mk (below_step HB.out hb); clear HB; have HB := n0; clear n0; clear hb)
        | (go_at_call 25; (with_reducible refine (HG2.out _ HB.out).mono ?_); rintro e wh ⟨rfl, hb⟩; have n0 := Aside0.mk (below_step HB.out hb); clear HB; have HB := n0; clear n0; clear hb))
      go_ret
      exact ⟨rfl, HB.out⟩
set_option maxHeartbeats 16000000 in
set_option maxRecDepth 100000 in
theorem join_mid (A1 A2 : Option Addr) (n1 c1 n2 c2 : Nat) (l o : List (List Int)) (W : World) (b1 : Rws W A1 n1 c1 l) (b2 : Rws W A2 n2 c2 o) (hk : KT W) (h1 : greatP l 16 = false) (h2 : greatP o 16 = false) (h3 : n1 = 1 ∨ n1 = 2 ∨ n1 = 4 ∨ n1 = 8 ∨ n1 = 16) (h4 : n2 = 0 ∨ n1 < n2) :
    Calls Tryd.prog 10 #[.slice A1 n1 c1, .slice A2 n2 c2] W fun e W' => e = .returned (.bool true) ∧ Below W.heap.size W W' := by
  have HB := Aside0.mk (Below.refl W.heap.size W)
  have HAL : Aside0 (∀ w, Below W.heap.size W w → Calls Tryd.prog 21 #[] w fun e W' => e = .returned (.bool true) ∧ Below w.heap.size w W') := ⟨fun w hw => alive13_walk w (hk.below hk.lt hw)⟩
  have HG1 : Aside0 (∀ w, Below W.heap.size W w → Calls Tryd.prog 25 #[.slice A1 n1 c1, .int .i64 16] w fun e W' => e = .returned (.bool (greatP l 16)) ∧ Below w.heap.size w W') := ⟨fun w hw => great_walk A1 n1 c1 l 16 (by omega) w (b1.below hw)⟩
  have HG2 : Aside0 (∀ w, Below W.heap.size W w → Calls Tryd.prog 25 #[.slice A2 n2 c2, .int .i64 16] w fun e W' => e = .returned (.bool (greatP o 16)) ∧ Below w.heap.size w W') := ⟨fun w hw => great_walk A2 n2 c2 o 16 (by omega) w (b2.below hw)⟩
  rw [h1] at HG1
  rw [h2] at HG2
  clear b1 b2 hk h1 h2
  by_cases h5 : n2 = 0
  · subst h5
    clear h4
    rcases h3 with rfl | rfl | rfl | rfl | rfl
    all_goals
      go_enter Tryd.func10, Tryd.ntmps10
      go_wp2_with (
        first
        | (go_at_call 21; (with_reducible refine (HAL.out _ HB.out).mono ?_); rintro e wa ⟨rfl, hb⟩; have n0 := Aside0.mk (below_step HB.out hb); clear HB; have HB := n0; clear n0; clear hb)
        | (go_at_call 25; (with_reducible refine (HG1.out _ HB.out).mono ?_); rintro e wg ⟨rfl, hb⟩; have n0 := Aside0.mk (below_step HB.out hb); clear HB; have HB := n0; clear n0; clear hb)
        | (go_at_call 25; (with_reducible refine (HG2.out _ HB.out).mono ?_); rintro e wh ⟨rfl, hb⟩; have n0 := Aside0.mk (below_step HB.out hb); clear HB; have HB := n0; clear n0; clear hb))
      go_ret
      exact ⟨rfl, HB.out⟩
  · have e0 : ((n2 : Int) == 0) = false := by simp; omega
    have h6 : n1 < n2 := by omega
    clear h4 h5
    rcases h3 with rfl | rfl | rfl | rfl | rfl
    all_goals
      go_enter Tryd.func10, Tryd.ntmps10
      go_wp2_with (
        first
        | (go_at_call 21; (with_reducible refine (HAL.out _ HB.out).mono ?_); rintro e wa ⟨rfl, hb⟩; have n0 := Aside0.mk (below_step HB.out hb); clear HB; have HB := n0; clear n0; clear hb)
        | (go_at_call 25; (with_reducible refine (HG1.out _ HB.out).mono ?_); rintro e wg ⟨rfl, hb⟩; have n0 := Aside0.mk (below_step HB.out hb); clear HB; have HB := n0; clear n0; clear hb)
        | (go_at_call 25; (with_reducible refine (HG2.out _ HB.out).mono ?_); rintro e wh ⟨rfl, hb⟩; have n0 := Aside0.mk (below_step HB.out hb); clear HB; have HB := n0; clear n0; clear hb))
      go_ret
      exact ⟨rfl, HB.out⟩
theorem own_empty (w : World) (base : Nat) (hb : base ≤ w.heap.size) : (w.alloc (.cells #[] 22)).ownsRow base 22 1 (.slice (some ⟨w.heap.size, 0, none⟩) 0 0) 0 [] := ⟨rfl, .inr ⟨w.heap.size, 0, #[], rfl, hb, blk_new w _, Nat.le_refl _, by simp [maxLen], rfl, rfl⟩⟩
theorem keep_dig {w w' : World} {base k g : Nat} {v : Value} {xs : List Value} {d : List Int} (ho : w.ownsRow base 22 1 v k xs) (hg : w.grownBy w' v.ownBlock) (h : w.heap[g]? = some (.cells (arr d) 25 (0, 0))) : w'.heap[g]? = some (.cells (arr d) 25 (0, 0)) := by
  refine (hg.block g (blk_lt h) (fun e => ?_)).trans h
  obtain ⟨cells, hc⟩ := own_typed ho g e.symm
  rw [h] at hc
  cases hc
theorem below_own {W w w' : World} {k : Nat} {v : Value} {xs : List Value} (ho : w.ownsRow W.heap.size 22 1 v k xs) (hg : w.grownBy w' v.ownBlock) (hb : Below W.heap.size W w) : Below W.heap.size W w' := hb.grown hg hb.size (fun k hk => by
  rcases ho.2 with ⟨rfl, _⟩ | ⟨g, cap, cur, rfl, hb, _⟩
  · simp [Value.ownBlock] at hk
  · simp only [Value.ownBlock, Option.some.injEq] at hk
    omega)
set_option maxHeartbeats 16000000 in
set_option maxRecDepth 100000 in
theorem join_bad (ad1 ad2 : Addr) (n1 c1 m c2 : Nat) (l o : List (List Int)) (W : World) (b1 : Rws W (some ad1) n1 c1 l) (b2 : Rws W (some ad2) (m + 1) c2 o) (hk : KT W) (h1 : greatP l 16 = false) (h2 : greatP o 16 = false) (h3 : n1 = 1 ∨ n1 = 2 ∨ n1 = 4 ∨ n1 = 8 ∨ n1 = 16) (h4 : m + 1 ≤ n1)
    (d1 d2 dJ : List Int) (e1 e2 eJ : Int) (q1 : rootC l = (d1, e1)) (q2 : rootC o = (d2, e2)) (qJ : rootC (l ++ o) = (dJ, eJ)) (hd1 : Dig d1) (hd2 : Dig d2) (hdJ : Dig dJ) (hbad : e1 = 8 ∧ (e2 = 0 ∨ e2 = 8) ∨ e1 = 0 ∧ e2 = 8) (hJ : eJ = 8) :
    Calls Tryd.prog 10 #[.slice (some ad1) n1 c1, .slice (some ad2) (m + 1) c2] W fun e W' => e = .returned (.bool true) ∧ Below W.heap.size W W' := by
  obtain ⟨A1, hA1⟩ : ∃ A, some ad1 = A := ⟨_, rfl⟩
  obtain ⟨A2, hA2⟩ : ∃ A, some ad2 = A := ⟨_, rfl⟩
  obtain ⟨n2, hn2⟩ : ∃ n, m + 1 = n := ⟨_, rfl⟩
  have HRJ : Aside0 (∀ w g cap, Below W.heap.size W w → Rws w (some ⟨g, 0, none⟩) (0 + n1 + m + 1) cap (l ++ o) → Calls Tryd.prog 19 #[.slice (some ⟨g, 0, none⟩) (0 + n1 + m + 1) cap] w fun e W' => e = .returned (.tuple #[.agg (arr dJ), .int .i64 eJ]) ∧ Below w.heap.size w W') := ⟨fun w g cap hw hr => by
    have := rootR_walk (some ⟨g, 0, none⟩) (0 + n1 + m + 1) cap (l ++ o) w hr (hk.below hk.lt hw)
    rwa [qJ] at this⟩
  have HR1 : Aside0 (∀ w, Below W.heap.size W w → Calls Tryd.prog 19 #[.slice (some ad1) n1 c1] w fun e W' => e = .returned (.tuple #[.agg (arr d1), .int .i64 e1]) ∧ Below w.heap.size w W') := ⟨fun w hw => by
    have := rootR_walk (some ad1) n1 c1 l w (b1.below hw) (hk.below hk.lt hw)
    rwa [q1] at this⟩
  have HR2 : Aside0 (∀ w, Below W.heap.size W w → Calls Tryd.prog 19 #[.slice (some ad2) (m + 1) c2] w fun e W' => e = .returned (.tuple #[.agg (arr d2), .int .i64 e2]) ∧ Below w.heap.size w W') := ⟨fun w hw => by
    have := rootR_walk (some ad2) (m + 1) c2 o w (b2.below hw) (hk.below hk.lt hw)
    rwa [q2] at this⟩
  obtain ⟨ad1', xs, hA1', hx1, v1, k1⟩ := b1.vals (by omega)
  cases hA1'
  obtain ⟨ad2', ys, hA2', hy2, v2, k2⟩ := b2.vals (by omega)
  cases hA2'
  clear hA1 hA2 hn2 A1 A2 n2
  have HX1 := Aside0.mk hx1
  have HY2 := Aside0.mk hy2
  have V1 := Aside0.mk v1
  have V2 := Aside0.mk v2
  have C1 := Aside0.mk k1
  have C2 := Aside0.mk k2
  have L1 : Aside0 (d1.length = 32) := ⟨hd1.1⟩
  have L2 : Aside0 (d2.length = 32) := ⟨hd2.1⟩
  have LJ : Aside0 (dJ.length = 32) := ⟨hdJ.1⟩
  have D1 := Aside0.mk hd1
  have D2 := Aside0.mk hd2
  have DJ := Aside0.mk hdJ
  have HK := Aside0.mk hk
  have HN1 : Aside0 (n1 ≤ 16) := ⟨by omega⟩
  have HM1 : Aside0 (m + 1 ≤ 16) := ⟨by omega⟩
  obtain ⟨i0, hi0, hz0, hz1, hz2⟩ := info_parts info22
  have HB := Aside0.mk (Below.refl W.heap.size W)
  have HAL : Aside0 (∀ w, Below W.heap.size W w → Calls Tryd.prog 21 #[] w fun e W' => e = .returned (.bool true) ∧ Below w.heap.size w W') := ⟨fun w hw => alive13_walk w (hk.below hk.lt hw)⟩
  have HG1 : Aside0 (∀ w, Below W.heap.size W w → Calls Tryd.prog 25 #[.slice (some ad1) n1 c1, .int .i64 16] w fun e W' => e = .returned (.bool (greatP l 16)) ∧ Below w.heap.size w W') := ⟨fun w hw => great_walk (some ad1) n1 c1 l 16 (by omega) w (b1.below hw)⟩
  have HG2 : Aside0 (∀ w, Below W.heap.size W w → Calls Tryd.prog 25 #[.slice (some ad2) (m + 1) c2, .int .i64 16] w fun e W' => e = .returned (.bool (greatP o 16)) ∧ Below w.heap.size w W') := ⟨fun w hw => great_walk (some ad2) (m + 1) c2 o 16 (by omega) w (b2.below hw)⟩
  rw [h1] at HG1
  rw [h2] at HG2
  have g0 : (((m + 1 : Nat) : Int) == 0) = false := by simp; omega
  have g1 : decide ((n1 : Int) < ((m + 1 : Nat) : Int)) = false := decide_eq_false (by omega)
  clear b1 b2 hk h1 h2 q1 q2 qJ hx1 hy2 v1 v2 k1 k2 hd1 hd2 hdJ h4
  subst hJ
  rcases hbad with ⟨rfl, rfl | rfl⟩ | ⟨rfl, rfl⟩
  all_goals
    rcases h3 with rfl | rfl | rfl | rfl | rfl
    all_goals
      go_enter Tryd.func10, Tryd.ntmps10
      go_wp2_with (
        first
        | (go_at_call 21; (with_reducible refine (HAL.out _ HB.out).mono ?_); rintro e wa ⟨rfl, hb⟩; have n0 := Aside0.mk (below_step HB.out hb); clear HB; have HB := n0; clear n0; clear hb)
        | (go_at_call 25; (with_reducible refine (HG1.out _ HB.out).mono ?_); rintro e wg ⟨rfl, hb⟩; have n0 := Aside0.mk (below_step HB.out hb); clear HB; have HB := n0; clear n0; clear hb)
        | (go_at_call 25; (with_reducible refine (HG2.out _ HB.out).mono ?_); rintro e wh ⟨rfl, hb⟩; have n0 := Aside0.mk (below_step HB.out hb); clear HB; have HB := n0; clear n0; clear hb)
        | ((with_reducible refine gate_dst (N := 7) rfl ?_); refine box_event ?hg (N := 7) ?hd (cs := arr zeros32) (t := 25) ?hr ?_; (case hd => rfl); (case hg => rfl); (case hr => first | (go_simp; done) | (go_simp; rfl));
                               intro g7 hg w7 hbox hb; have BK7 := Aside0.mk hbox; have G7 := Aside0.mk (show W.heap.size ≤ g7 by rw [hg]; exact below_size HB.out); have n0 := Aside0.mk (below_step HB.out hb); clear HB; have HB := n0; clear n0; clear hb hbox hg)
        | ((with_reducible refine gate_store (p := 7) rfl ?_); refine dig_store rfl (.tmp 7) (.tmp 61) rfl g7 (d1) (zeros32) rfl rfl BK7.out (L1.out) (rfl) ?_; intro ws7 bk hoth hbel; have nn := Aside0.mk bk; have n0 := Aside0.mk (hbel _ _ HB.out G7.out); clear HB; have HB := n0; clear n0; clear BK7 bk hoth hbel; have BK7 := nn; clear nn)
        | ((with_reducible refine gate_dst (N := 9) rfl ?_); refine box_event ?hg (N := 9) ?hd (cs := arr zeros32) (t := 25) ?hr ?_; (case hd => rfl); (case hg => rfl); (case hr => first | (go_simp; done) | (go_simp; rfl));
                               intro g9 hg w9 hbox hb; have BK9 := Aside0.mk hbox; have G9 := Aside0.mk (show W.heap.size ≤ g9 by rw [hg]; exact below_size HB.out); have N7_9 := Aside0.mk (show g7 ≠ g9 by rw [hg]; exact Nat.ne_of_lt (blk_lt BK7.out)); have n0 := Aside0.mk (blk_below BK7.out hb); have n1 := Aside0.mk (below_step HB.out hb); clear BK7 HB; have BK7 := n0; have HB := n1; clear n0 n1; clear hb hbox hg)
        | ((with_reducible refine gate_store (p := 9) rfl ?_); refine dig_store rfl (.tmp 9) (.tmp 66) rfl g9 (d2) (zeros32) rfl rfl BK9.out (L2.out) (rfl) ?_; intro ws9 bk hoth hbel; have nn := Aside0.mk bk; have n0 := Aside0.mk ((hoth g7 N7_9.out).trans BK7.out); have n1 := Aside0.mk (hbel _ _ HB.out G9.out); clear BK7 HB; have BK7 := n0; have HB := n1; clear n0 n1; clear BK9 bk hoth hbel; have BK9 := nn; clear nn)
        | ((with_reducible refine gate_dst (N := 71) rfl ?_); refine wpList_append_own _ rfl (.tmp 69) (.tmp 70) 29 rfl W.heap.size 22 i0 (.slice none 0 0) 1 24 Tryd.underlying29 hi0 hz0 hz1 hz2 rfl (by decide) _ 0 [] rfl (own_empty ws9 W.heap.size (below_size HB.out)) ad1 _ c1 xs rfl (by rw [Nat.mul_one]; exact HX1.out) (fun j u hu => cell_below (C1.out j u hu) (below_alloc HB.out _)) V1.out.one (by have := HN1.out; simp only [maxLen]; omega) (by have := HN1.out; omega) (below_size (below_alloc HB.out _)) ?_; intro v1 wv1 ho hg _; have E0 := own_empty ws9 W.heap.size (below_size HB.out); have n0 := Aside0.mk (keep_dig E0 hg (blk_alloc BK7.out _)); have n1' := Aside0.mk (keep_dig E0 hg (blk_alloc BK9.out _)); have n2' := Aside0.mk (below_own E0 hg (below_alloc HB.out _)); have O1 := Aside0.mk ho; clear BK7 BK9 HB E0 ho hg; have BK7 := n0; have BK9 := n1'; have HB := n2'; clear n0 n1' n2')
        | ((with_reducible refine gate_dst (N := 73) rfl ?_); refine wpList_append_own _ rfl (.tmp 71) (.tmp 72) 29 rfl W.heap.size 22 i0 (.slice none 0 0) 1 24 Tryd.underlying29 hi0 hz0 hz1 hz2 rfl (by decide) _ (0 + _) ([] ++ xs) rfl O1.out ad2 (m + 1) c2 ys rfl (by rw [Nat.mul_one]; exact HY2.out) (fun j u hu => cell_below (C2.out j u hu) HB.out) V2.out.one (by have := HN1.out; have := HM1.out; simp only [maxLen]; omega) (by have := HN1.out; have := HM1.out; omega) (below_size HB.out) ?_; intro v2 wv2 ho hg _; have n0 := Aside0.mk (keep_dig O1.out hg BK7.out); have n1' := Aside0.mk (keep_dig O1.out hg BK9.out); have n2' := Aside0.mk (below_own O1.out hg HB.out); clear BK7 BK9 HB O1 hg; have BK7 := n0; have BK9 := n1'; have HB := n2'; clear n0 n1' n2'; obtain ⟨gj, capj, rfl, hrj⟩ := Vals.rws (k := _) ((V1.out.append V2.out).below HB.out) ho; have RJ := Aside0.mk hrj; clear hrj ho)
        | ((with_reducible refine gate_dst (N := 11) rfl ?_); refine box_event ?hg (N := 11) ?hd (cs := arr zeros32) (t := 25) ?hr ?_; (case hd => rfl); (case hg => rfl); (case hr => first | (go_simp; done) | (go_simp; rfl));
                               intro g11 hg w11 hbox hb; have BK11 := Aside0.mk hbox; have G11 := Aside0.mk (show W.heap.size ≤ g11 by rw [hg]; exact below_size HB.out); have N7_11 := Aside0.mk (show g7 ≠ g11 by rw [hg]; exact Nat.ne_of_lt (blk_lt BK7.out)); have N9_11 := Aside0.mk (show g9 ≠ g11 by rw [hg]; exact Nat.ne_of_lt (blk_lt BK9.out)); have n0 := Aside0.mk (blk_below BK7.out hb); have n1 := Aside0.mk (blk_below BK9.out hb); have n2 := Aside0.mk (below_step HB.out hb); clear BK7 BK9 HB; have BK7 := n0; have BK9 := n1; have HB := n2; clear n0 n1 n2; clear hb hbox hg)
        | ((with_reducible refine gate_store (p := 11) rfl ?_); refine dig_store rfl (.tmp 11) (.tmp 75) rfl g11 (dJ) (zeros32) rfl rfl BK11.out (LJ.out) (rfl) ?_; intro ws11 bk hoth hbel; have nn := Aside0.mk bk; have n0 := Aside0.mk ((hoth g7 N7_11.out).trans BK7.out); have n1 := Aside0.mk ((hoth g9 N9_11.out).trans BK9.out); have n2 := Aside0.mk (hbel _ _ HB.out G11.out); clear BK7 BK9 HB; have BK7 := n0; have BK9 := n1; have HB := n2; clear n0 n1 n2; clear BK11 bk hoth hbel; have BK11 := nn; clear nn)
        | (go_at_call 19; (with_reducible refine (HRJ.out _ _ _ HB.out RJ.out).mono ?_); rintro e wr3 ⟨rfl, hb⟩; have n0 := Aside0.mk (blk_below BK7.out hb); have n1 := Aside0.mk (blk_below BK9.out hb); have n2 := Aside0.mk (below_step HB.out hb); clear BK7 BK9 HB; have BK7 := n0; have BK9 := n1; have HB := n2; clear n0 n1 n2; clear hb)
        | (go_at_call 19; (with_reducible refine (HR2.out _ HB.out).mono ?_); rintro e wr2 ⟨rfl, hb⟩; have n0 := Aside0.mk (blk_below BK7.out hb); have n1 := Aside0.mk (below_step HB.out hb); clear BK7 HB; have BK7 := n0; have HB := n1; clear n0 n1; clear hb)
        | (go_at_call 19; (with_reducible refine (HR1.out _ HB.out).mono ?_); rintro e wr1 ⟨rfl, hb⟩; have n0 := Aside0.mk (below_step HB.out hb); clear HB; have HB := n0; clear n0; clear hb))
      all_goals (go_ret; exact ⟨rfl, HB.out⟩)
set_option maxHeartbeats 16000000 in
set_option maxRecDepth 100000 in
theorem join_good (ad1 ad2 : Addr) (n1 c1 m c2 : Nat) (l o : List (List Int)) (W : World) (b1 : Rws W (some ad1) n1 c1 l) (b2 : Rws W (some ad2) (m + 1) c2 o) (hk : KT W) (h1 : greatP l 16 = false) (h2 : greatP o 16 = false) (h3 : n1 = 1 ∨ n1 = 2 ∨ n1 = 4 ∨ n1 = 8 ∨ n1 = 16) (h4 : m + 1 ≤ n1)
    (d1 d2 dJ : List Int) (e1 e2 eJ : Int) (q1 : rootC l = (d1, e1)) (q2 : rootC o = (d2, e2)) (qJ : rootC (l ++ o) = (dJ, eJ)) (hd1 : Dig d1) (hd2 : Dig d2) (hdJ : Dig dJ) (h8 : e1 = 0) (h9 : e2 = 0) (hJ : eJ = 0) (hJ2 : dJ = tagOf 8 [d1, d2]) :
    Calls Tryd.prog 10 #[.slice (some ad1) n1 c1, .slice (some ad2) (m + 1) c2] W fun e W' => e = .returned (.bool true) ∧ Below W.heap.size W W' := by
  obtain ⟨A1, hA1⟩ : ∃ A, some ad1 = A := ⟨_, rfl⟩
  obtain ⟨A2, hA2⟩ : ∃ A, some ad2 = A := ⟨_, rfl⟩
  obtain ⟨n2, hn2⟩ : ∃ n, m + 1 = n := ⟨_, rfl⟩
  have HRJ : Aside0 (∀ w g cap, Below W.heap.size W w → Rws w (some ⟨g, 0, none⟩) (0 + n1 + m + 1) cap (l ++ o) → Calls Tryd.prog 19 #[.slice (some ⟨g, 0, none⟩) (0 + n1 + m + 1) cap] w fun e W' => e = .returned (.tuple #[.agg (arr dJ), .int .i64 eJ]) ∧ Below w.heap.size w W') := ⟨fun w g cap hw hr => by
    have := rootR_walk (some ⟨g, 0, none⟩) (0 + n1 + m + 1) cap (l ++ o) w hr (hk.below hk.lt hw)
    rwa [qJ] at this⟩
  have HR1 : Aside0 (∀ w, Below W.heap.size W w → Calls Tryd.prog 19 #[.slice (some ad1) n1 c1] w fun e W' => e = .returned (.tuple #[.agg (arr d1), .int .i64 e1]) ∧ Below w.heap.size w W') := ⟨fun w hw => by
    have := rootR_walk (some ad1) n1 c1 l w (b1.below hw) (hk.below hk.lt hw)
    rwa [q1] at this⟩
  have HR2 : Aside0 (∀ w, Below W.heap.size W w → Calls Tryd.prog 19 #[.slice (some ad2) (m + 1) c2] w fun e W' => e = .returned (.tuple #[.agg (arr d2), .int .i64 e2]) ∧ Below w.heap.size w W') := ⟨fun w hw => by
    have := rootR_walk (some ad2) (m + 1) c2 o w (b2.below hw) (hk.below hk.lt hw)
    rwa [q2] at this⟩
  obtain ⟨ad1', xs, hA1', hx1, v1, k1⟩ := b1.vals (by omega)
  cases hA1'
  obtain ⟨ad2', ys, hA2', hy2, v2, k2⟩ := b2.vals (by omega)
  cases hA2'
  clear hA1 hA2 hn2 A1 A2 n2
  have HX1 := Aside0.mk hx1
  have HY2 := Aside0.mk hy2
  have V1 := Aside0.mk v1
  have V2 := Aside0.mk v2
  have C1 := Aside0.mk k1
  have C2 := Aside0.mk k2
  have L1 : Aside0 (d1.length = 32) := ⟨hd1.1⟩
  have L2 : Aside0 (d2.length = 32) := ⟨hd2.1⟩
  have LJ : Aside0 (dJ.length = 32) := ⟨hdJ.1⟩
  have D1 := Aside0.mk hd1
  have D2 := Aside0.mk hd2
  have DJ := Aside0.mk hdJ
  have HK := Aside0.mk hk
  have HN1 : Aside0 (n1 ≤ 16) := ⟨by omega⟩
  have HM1 : Aside0 (m + 1 ≤ 16) := ⟨by omega⟩
  obtain ⟨i0, hi0, hz0, hz1, hz2⟩ := info_parts info22
  have HB := Aside0.mk (Below.refl W.heap.size W)
  have HAL : Aside0 (∀ w, Below W.heap.size W w → Calls Tryd.prog 21 #[] w fun e W' => e = .returned (.bool true) ∧ Below w.heap.size w W') := ⟨fun w hw => alive13_walk w (hk.below hk.lt hw)⟩
  have HG1 : Aside0 (∀ w, Below W.heap.size W w → Calls Tryd.prog 25 #[.slice (some ad1) n1 c1, .int .i64 16] w fun e W' => e = .returned (.bool (greatP l 16)) ∧ Below w.heap.size w W') := ⟨fun w hw => great_walk (some ad1) n1 c1 l 16 (by omega) w (b1.below hw)⟩
  have HG2 : Aside0 (∀ w, Below W.heap.size W w → Calls Tryd.prog 25 #[.slice (some ad2) (m + 1) c2, .int .i64 16] w fun e W' => e = .returned (.bool (greatP o 16)) ∧ Below w.heap.size w W') := ⟨fun w hw => great_walk (some ad2) (m + 1) c2 o 16 (by omega) w (b2.below hw)⟩
  rw [h1] at HG1
  rw [h2] at HG2
  have g0 : (((m + 1 : Nat) : Int) == 0) = false := by simp; omega
  have g1 : decide ((n1 : Int) < ((m + 1 : Nat) : Int)) = false := decide_eq_false (by omega)
  clear b1 b2 hk h1 h2 q1 q2 qJ hx1 hy2 v1 v2 k1 k2 hd1 hd2 hdJ h4
  subst h8
  subst h9
  subst hJ
  have HFK : Aside0 (∀ w, Below W.heap.size W w → Calls Tryd.prog 24 #[.agg (arr d1), .agg (arr d2)] w fun e W' => e = .returned (.agg (arr dJ)) ∧ Below w.heap.size w W') := ⟨fun w hw => by
    have := fork_walk d1 d2 D1.out D2.out w (HK.out.below HK.out.lt hw)
    rwa [← hJ2] at this⟩
  clear hJ2
  rcases h3 with rfl | rfl | rfl | rfl | rfl
  all_goals
    go_enter Tryd.func10, Tryd.ntmps10
    go_wp2_with (
      first
      | (go_at_call 21; (with_reducible refine (HAL.out _ HB.out).mono ?_); rintro e wa ⟨rfl, hb⟩; have n0 := Aside0.mk (below_step HB.out hb); clear HB; have HB := n0; clear n0; clear hb)
      | (go_at_call 25; (with_reducible refine (HG1.out _ HB.out).mono ?_); rintro e wg ⟨rfl, hb⟩; have n0 := Aside0.mk (below_step HB.out hb); clear HB; have HB := n0; clear n0; clear hb)
      | (go_at_call 25; (with_reducible refine (HG2.out _ HB.out).mono ?_); rintro e wh ⟨rfl, hb⟩; have n0 := Aside0.mk (below_step HB.out hb); clear HB; have HB := n0; clear n0; clear hb)
      | ((with_reducible refine gate_dst (N := 7) rfl ?_); refine box_event ?hg (N := 7) ?hd (cs := arr zeros32) (t := 25) ?hr ?_; (case hd => rfl); (case hg => rfl); (case hr => first | (go_simp; done) | (go_simp; rfl));
                             intro g7 hg w7 hbox hb; have BK7 := Aside0.mk hbox; have G7 := Aside0.mk (show W.heap.size ≤ g7 by rw [hg]; exact below_size HB.out); have n0 := Aside0.mk (below_step HB.out hb); clear HB; have HB := n0; clear n0; clear hb hbox hg)
      | ((with_reducible refine gate_store (p := 7) rfl ?_); refine dig_store rfl (.tmp 7) (.tmp 61) rfl g7 (d1) (zeros32) rfl rfl BK7.out (L1.out) (rfl) ?_; intro ws7 bk hoth hbel; have nn := Aside0.mk bk; have n0 := Aside0.mk (hbel _ _ HB.out G7.out); clear HB; have HB := n0; clear n0; clear BK7 bk hoth hbel; have BK7 := nn; clear nn)
      | ((with_reducible refine gate_dst (N := 9) rfl ?_); refine box_event ?hg (N := 9) ?hd (cs := arr zeros32) (t := 25) ?hr ?_; (case hd => rfl); (case hg => rfl); (case hr => first | (go_simp; done) | (go_simp; rfl));
                             intro g9 hg w9 hbox hb; have BK9 := Aside0.mk hbox; have G9 := Aside0.mk (show W.heap.size ≤ g9 by rw [hg]; exact below_size HB.out); have N7_9 := Aside0.mk (show g7 ≠ g9 by rw [hg]; exact Nat.ne_of_lt (blk_lt BK7.out)); have n0 := Aside0.mk (blk_below BK7.out hb); have n1 := Aside0.mk (below_step HB.out hb); clear BK7 HB; have BK7 := n0; have HB := n1; clear n0 n1; clear hb hbox hg)
      | ((with_reducible refine gate_store (p := 9) rfl ?_); refine dig_store rfl (.tmp 9) (.tmp 66) rfl g9 (d2) (zeros32) rfl rfl BK9.out (L2.out) (rfl) ?_; intro ws9 bk hoth hbel; have nn := Aside0.mk bk; have n0 := Aside0.mk ((hoth g7 N7_9.out).trans BK7.out); have n1 := Aside0.mk (hbel _ _ HB.out G9.out); clear BK7 HB; have BK7 := n0; have HB := n1; clear n0 n1; clear BK9 bk hoth hbel; have BK9 := nn; clear nn)
      | ((with_reducible refine gate_dst (N := 71) rfl ?_); refine wpList_append_own _ rfl (.tmp 69) (.tmp 70) 29 rfl W.heap.size 22 i0 (.slice none 0 0) 1 24 Tryd.underlying29 hi0 hz0 hz1 hz2 rfl (by decide) _ 0 [] rfl (own_empty ws9 W.heap.size (below_size HB.out)) ad1 _ c1 xs rfl (by rw [Nat.mul_one]; exact HX1.out) (fun j u hu => cell_below (C1.out j u hu) (below_alloc HB.out _)) V1.out.one (by have := HN1.out; simp only [maxLen]; omega) (by have := HN1.out; omega) (below_size (below_alloc HB.out _)) ?_; intro v1 wv1 ho hg _; have E0 := own_empty ws9 W.heap.size (below_size HB.out); have n0 := Aside0.mk (keep_dig E0 hg (blk_alloc BK7.out _)); have n1' := Aside0.mk (keep_dig E0 hg (blk_alloc BK9.out _)); have n2' := Aside0.mk (below_own E0 hg (below_alloc HB.out _)); have O1 := Aside0.mk ho; clear BK7 BK9 HB E0 ho hg; have BK7 := n0; have BK9 := n1'; have HB := n2'; clear n0 n1' n2')
      | ((with_reducible refine gate_dst (N := 73) rfl ?_); refine wpList_append_own _ rfl (.tmp 71) (.tmp 72) 29 rfl W.heap.size 22 i0 (.slice none 0 0) 1 24 Tryd.underlying29 hi0 hz0 hz1 hz2 rfl (by decide) _ (0 + _) ([] ++ xs) rfl O1.out ad2 (m + 1) c2 ys rfl (by rw [Nat.mul_one]; exact HY2.out) (fun j u hu => cell_below (C2.out j u hu) HB.out) V2.out.one (by have := HN1.out; have := HM1.out; simp only [maxLen]; omega) (by have := HN1.out; have := HM1.out; omega) (below_size HB.out) ?_; intro v2 wv2 ho hg _; have n0 := Aside0.mk (keep_dig O1.out hg BK7.out); have n1' := Aside0.mk (keep_dig O1.out hg BK9.out); have n2' := Aside0.mk (below_own O1.out hg HB.out); clear BK7 BK9 HB O1 hg; have BK7 := n0; have BK9 := n1'; have HB := n2'; clear n0 n1' n2'; obtain ⟨gj, capj, rfl, hrj⟩ := Vals.rws (k := _) ((V1.out.append V2.out).below HB.out) ho; have RJ := Aside0.mk hrj; clear hrj ho)
      | ((with_reducible refine gate_dst (N := 11) rfl ?_); refine box_event ?hg (N := 11) ?hd (cs := arr zeros32) (t := 25) ?hr ?_; (case hd => rfl); (case hg => rfl); (case hr => first | (go_simp; done) | (go_simp; rfl));
                             intro g11 hg w11 hbox hb; have BK11 := Aside0.mk hbox; have G11 := Aside0.mk (show W.heap.size ≤ g11 by rw [hg]; exact below_size HB.out); have N7_11 := Aside0.mk (show g7 ≠ g11 by rw [hg]; exact Nat.ne_of_lt (blk_lt BK7.out)); have N9_11 := Aside0.mk (show g9 ≠ g11 by rw [hg]; exact Nat.ne_of_lt (blk_lt BK9.out)); have n0 := Aside0.mk (blk_below BK7.out hb); have n1 := Aside0.mk (blk_below BK9.out hb); have n2 := Aside0.mk (below_step HB.out hb); clear BK7 BK9 HB; have BK7 := n0; have BK9 := n1; have HB := n2; clear n0 n1 n2; clear hb hbox hg)
      | ((with_reducible refine gate_store (p := 11) rfl ?_); refine dig_store rfl (.tmp 11) (.tmp 75) rfl g11 (dJ) (zeros32) rfl rfl BK11.out (LJ.out) (rfl) ?_; intro ws11 bk hoth hbel; have nn := Aside0.mk bk; have n0 := Aside0.mk ((hoth g7 N7_11.out).trans BK7.out); have n1 := Aside0.mk ((hoth g9 N9_11.out).trans BK9.out); have n2 := Aside0.mk (hbel _ _ HB.out G11.out); clear BK7 BK9 HB; have BK7 := n0; have BK9 := n1; have HB := n2; clear n0 n1 n2; clear BK11 bk hoth hbel; have BK11 := nn; clear nn)
      | (go_at_call 19; (with_reducible refine (HRJ.out _ _ _ HB.out RJ.out).mono ?_); rintro e wr3 ⟨rfl, hb⟩; have n0 := Aside0.mk (blk_below BK7.out hb); have n1 := Aside0.mk (blk_below BK9.out hb); have n2 := Aside0.mk (below_step HB.out hb); clear BK7 BK9 HB; have BK7 := n0; have BK9 := n1; have HB := n2; clear n0 n1 n2; clear hb)
      | (go_at_call 19; (with_reducible refine (HR2.out _ HB.out).mono ?_); rintro e wr2 ⟨rfl, hb⟩; have n0 := Aside0.mk (blk_below BK7.out hb); have n1 := Aside0.mk (below_step HB.out hb); clear BK7 HB; have BK7 := n0; have HB := n1; clear n0 n1; clear hb)
      | (go_at_call 19; (with_reducible refine (HR1.out _ HB.out).mono ?_); rintro e wr1 ⟨rfl, hb⟩; have n0 := Aside0.mk (below_step HB.out hb); clear HB; have HB := n0; clear n0; clear hb))
    all_goals try (go_ret; exact ⟨rfl, HB.out⟩)
    all_goals
      have hb : Below ws11.heap.size ws11 ws11.drew := below_drew (Below.refl _ _)
      refine start_ (n := 13) (S := fun w' => w'.heap[g7]? = some (.cells (arr d1) 25 (0, 0)) ∧ w'.heap[g9]? = some (.cells (arr d2) 25 (0, 0)) ∧ w'.heap[g11]? = some (.cells (arr dJ) 25 (0, 0))) (ds := []) #[false, false, false, false, false, false, false, false, false, false, false, false, false] (by kernel_rfl) rfl rfl ⟨blk_below BK7.out hb, blk_below BK9.out hb, blk_below BK11.out hb⟩ (fun hHeld => ?_)
      refine with_tabW join10_tab join10_bits (fun HT_ HW_ => ?_)
      have n0 := Aside0.mk (blk_below BK7.out hb)
      have n1 := Aside0.mk (blk_below BK9.out hb)
      have n2 := Aside0.mk (blk_below BK11.out hb)
      have n3 := Aside0.mk (below_step HB.out hb)
      clear BK7 BK9 BK11 HB
      have BK7 := n0
      have BK9 := n1
      have BK11 := n2
      have HB := n3
      clear n0 n1 n2 n3
      clear hb
      generalize ws11.drew = wa at BK7 BK9 BK11 HB hHeld ⊢
      refine pure_ (i := 0) (N := (some 88)) (v := ?_) (a' := ?_) #[true, false, false, false, false, false, false, false, false, false, false, false, false] rfl rfl (any_of HT_.out (by kernel_rfl)) (fun _ _ _ h => h) (Or.inl ⟨by rfl, ?_⟩) ?_ ?_
      rotate_left
      · intro w'
        go_simp
        first | with_reducible rfl | (simp; done) | rfl
      rotate_left
      · simp only [Act.put, List.setIfInBounds_toArray, List.set_cons_zero, List.set_cons_succ, i64_w, i32_w]
        rfl
      refine pure_ (i := 1) (N := (some 89)) (v := ?_) (a' := ?_) #[true, true, false, false, false, false, false, false, false, false, false, false, false] rfl rfl (any_of HT_.out (by kernel_rfl)) (fun _ _ _ h => h) (Or.inl ⟨by rfl, ?_⟩) ?_ ?_
      rotate_left
      · intro w'
        go_simp
        first | with_reducible rfl | (simp; done) | rfl
      rotate_left
      · simp only [Act.put, List.setIfInBounds_toArray, List.set_cons_zero, List.set_cons_succ, i64_w, i32_w]
        rfl
      refine pure_ (i := 2) (N := (some 90)) (v := ?_) (a' := ?_) #[true, true, true, false, false, false, false, false, false, false, false, false, false] rfl rfl (any_of HT_.out (by kernel_rfl)) (fun _ _ _ h => h) (Or.inl ⟨by rfl, ?_⟩) ?_ ?_
      rotate_left
      · intro w'
        go_simp
        first | with_reducible rfl | (simp; done) | rfl
      rotate_left
      · simp only [Act.put, List.setIfInBounds_toArray, List.set_cons_zero, List.set_cons_succ, i64_w, i32_w]
        rfl
      refine pure_ (i := 3) (N := (some 91)) (v := ?_) (a' := ?_) #[true, true, true, true, false, false, false, false, false, false, false, false, false] rfl rfl (any_of HT_.out (by kernel_rfl)) (fun _ _ _ h => h) (Or.inl ⟨by rfl, ?_⟩) ?_ ?_
      rotate_left
      · intro w'
        go_simp
        first | with_reducible rfl | (simp; done) | rfl
      rotate_left
      · simp only [Act.put, List.setIfInBounds_toArray, List.set_cons_zero, List.set_cons_succ, i64_w, i32_w]
        rfl
      refine pure_ (i := 4) (N := (some 92)) (v := ?_) (a' := ?_) #[true, true, true, true, true, false, false, false, false, false, false, false, false] rfl rfl (any_of HT_.out (by kernel_rfl)) (fun _ _ _ h => h) (Or.inl ⟨by rfl, ?_⟩) ?_ ?_
      rotate_left
      · intro w'
        go_simp
        first | with_reducible rfl | (simp; done) | rfl
      rotate_left
      · simp only [Act.put, List.setIfInBounds_toArray, List.set_cons_zero, List.set_cons_succ, i64_w, i32_w]
        rfl
      refine pure_ (i := 5) (N := (some 93)) (v := ?_) (a' := ?_) #[true, true, true, true, true, true, false, false, false, false, false, false, false] rfl rfl (any_of HT_.out (by kernel_rfl)) (fun _ _ _ h => h) (Or.inl ⟨by rfl, ?_⟩) ?_ ?_
      rotate_left
      · intro w'
        go_simp
        first | with_reducible rfl | (simp; done) | rfl
      rotate_left
      · simp only [Act.put, List.setIfInBounds_toArray, List.set_cons_zero, List.set_cons_succ, i64_w, i32_w]
        rfl
      refine take_ (i := 6) (N := (some 94)) (v := ?_) (a' := ?_) #[true, true, true, true, true, true, true, false, false, false, false, false, false] rfl rfl (take_ofW HT_.out HW_.out (by kernel_rfl)) (fun _ _ _ h => h) (Or.inl ⟨by rfl, ?_⟩) hHeld ?_ ?_
      rotate_left
      · rintro w' ⟨s7, s9, s11⟩
        refine dig_load (x := .tmp 11) ?_ ?_ s11 LJ.out <;> rfl
      rotate_left
      · simp only [Act.put, List.setIfInBounds_toArray, List.set_cons_zero, List.set_cons_succ, i64_w, i32_w]
        rfl
      refine take_ (i := 7) (N := (some 95)) (v := ?_) (a' := ?_) #[true, true, true, true, true, true, true, true, false, false, false, false, false] rfl rfl (take_ofW HT_.out HW_.out (by kernel_rfl)) (fun _ _ _ h => h) (Or.inl ⟨by rfl, ?_⟩) hHeld ?_ ?_
      rotate_left
      · rintro w' ⟨s7, s9, s11⟩
        refine dig_load (x := .tmp 7) ?_ ?_ s7 L1.out <;> rfl
      rotate_left
      · simp only [Act.put, List.setIfInBounds_toArray, List.set_cons_zero, List.set_cons_succ, i64_w, i32_w]
        rfl
      refine take_ (i := 8) (N := (some 96)) (v := ?_) (a' := ?_) #[true, true, true, true, true, true, true, true, true, false, false, false, false] rfl rfl (take_ofW HT_.out HW_.out (by kernel_rfl)) (fun _ _ _ h => h) (Or.inl ⟨by rfl, ?_⟩) hHeld ?_ ?_
      rotate_left
      · rintro w' ⟨s7, s9, s11⟩
        refine dig_load (x := .tmp 9) ?_ ?_ s9 L2.out <;> rfl
      rotate_left
      · simp only [Act.put, List.setIfInBounds_toArray, List.set_cons_zero, List.set_cons_succ, i64_w, i32_w]
        rfl
      refine one_ (i := 9) (N := (some 97)) #[true, true, true, true, true, true, true, true, true, true, false, false, false] rfl rfl (one_of HT_.out (by kernel_rfl)) (by decide) (fun K hK => ?_)
      refine goes_ Tryd.func24 (by kernel_rfl) rfl #[.agg (arr d1), .agg (arr d2)] (by rfl) rfl rfl (by (try simp only [List.map_toArray, List.map_cons, List.map_nil]); first | done | rfl) ?_
      with_reducible refine (HFK.out _ HB.out).mono ?_
      rintro e0 wk ⟨rfl, hb⟩
      refine ⟨_, rfl, ?_⟩
      have n0 := Aside0.mk (blk_below BK7.out hb)
      have n1 := Aside0.mk (blk_below BK9.out hb)
      have n2 := Aside0.mk (blk_below BK11.out hb)
      have n3 := Aside0.mk (below_step HB.out hb)
      clear BK7 BK9 BK11 HB
      have BK7 := n0
      have BK9 := n1
      have BK11 := n2
      have HB := n3
      clear n0 n1 n2 n3
      clear hb
      refine hK.out _ _ ⟨BK7.out, BK9.out, BK11.out⟩ (fun hHeld => ?_)
      clear hK K
      refine norm_ (a' := ?_) ?_ ?_
      rotate_left
      · show Act.put _ (some 97) _ = _
        simp only [Act.put, List.setIfInBounds_toArray, List.set_cons_zero, List.set_cons_succ, i64_w, i32_w]
        rfl
      refine pure_ (i := 10) (N := (some 98)) (v := ?_) (a' := ?_) #[true, true, true, true, true, true, true, true, true, true, true, false, false] rfl rfl (any_of HT_.out (by kernel_rfl)) (fun _ _ _ h => h) (Or.inl ⟨by rfl, ?_⟩) ?_ ?_
      rotate_left
      · intro w'
        refine dig_eql (x := .tmp 94) (y := .tmp 97) ?_ ?_ ?_ DJ.out <;> rfl
      rotate_left
      · simp only [Act.put, List.setIfInBounds_toArray, List.set_cons_zero, List.set_cons_succ, i64_w, i32_w]
        rfl
      refine pure_ (i := 11) (N := (some 99)) (v := ?_) (a' := ?_) #[true, true, true, true, true, true, true, true, true, true, true, true, false] rfl rfl (any_of HT_.out (by kernel_rfl)) (fun _ _ _ h => h) (Or.inl ⟨by rfl, ?_⟩) ?_ ?_
      rotate_left
      · intro w'
        go_simp
        first | with_reducible rfl | (simp; done) | rfl
      rotate_left
      · simp only [Act.put, List.setIfInBounds_toArray, List.set_cons_zero, List.set_cons_succ, i64_w, i32_w]
        rfl
      refine pure_ (i := 12) (N := (some 4)) (v := ?_) (a' := ?_) #[true, true, true, true, true, true, true, true, true, true, true, true, true] rfl rfl (any_of HT_.out (by kernel_rfl)) (fun _ _ _ h => h) (Or.inl ⟨by rfl, ?_⟩) ?_ ?_
      rotate_left
      · intro w'
        go_simp
        first | with_reducible rfl | (simp; done) | rfl
      rotate_left
      · simp only [Act.put, List.setIfInBounds_toArray, List.set_cons_zero, List.set_cons_succ, i64_w, i32_w]
        rfl
      refine done_ (done_of HT_.out (by kernel_rfl)) ?_
      go_wp2
      go_ret
      exact ⟨rfl, HB.out⟩
end Go.Proofs.YtoaimcobcgomjaaDoor.Q
namespace Go.Proofs.YtoaimcobcgomjaaDoor.Q
open Go.RowKit Go.Proofs.YtoaimcobcgomjaaDoorW.PrintWords
theorem rootC_dig (l : List (List Int)) : Dig (rootC l).1 := by
  unfold rootC
  split
  · exact rootP_dig l
  · exact zeros32_dig
theorem rowsJoin_walk (A1 A2 : Option Addr) (n1 c1 n2 c2 : Nat) (l o : List (List Int)) (W : World) (b1 : Rws W A1 n1 c1 l) (b2 : Rws W A2 n2 c2 o) (hk : KT W) :
    Calls Tryd.prog 10 #[.slice A1 n1 c1, .slice A2 n2 c2] W fun e W' => e = .returned (.bool true) ∧ Below W.heap.size W W' := by
  by_cases h1 : greatP l 16 = true
  · exact join_early A1 A2 n1 c1 n2 c2 l o W b1 b2 hk (.inl h1)
  by_cases h2 : greatP o 16 = true
  · exact join_early A1 A2 n1 c1 n2 c2 l o W b1 b2 hk (.inr (.inl h2))
  by_cases h3 : n1 = 1 ∨ n1 = 2 ∨ n1 = 4 ∨ n1 = 8 ∨ n1 = 16
  rotate_left
  · exact join_early A1 A2 n1 c1 n2 c2 l o W b1 b2 hk (.inr (.inr h3))
  rw [Bool.not_eq_true] at h1 h2
  by_cases h4 : n2 = 0 ∨ n1 < n2
  · exact join_mid A1 A2 n1 c1 n2 c2 l o W b1 b2 hk h1 h2 h3 h4
  obtain ⟨m, rfl⟩ : ∃ m, n2 = m + 1 := ⟨n2 - 1, by omega⟩
  have hl := b1.len
  have ho := b2.len
  obtain ⟨a1, _, rfl, _⟩ := b1.vals (by omega)
  obtain ⟨a2, _, rfl, _⟩ := b2.vals (by omega)
  have hj := list_join l o (by omega) (by omega)
  have q : ∀ x : List (List Int), rootC x = ((rootC x).1, (rootC x).2) := fun x => rfl
  have r2 : ∀ x : List (List Int), (rootC x).2 = if listP x = true then 0 else 8 := fun x => by unfold rootC; split <;> rfl
  by_cases g : listP l = true ∧ listP o = true
  · have e : rootC (l ++ o) = (tagOf 8 [rootP l, rootP o], 0) := by unfold rootC; rw [if_pos (by rw [hj, g.1, g.2]; rfl), root_join l o (by rw [hl]; exact h3) (by omega) (by omega)]
    exact join_good a1 a2 n1 c1 m c2 l o W b1 b2 hk h1 h2 h3 (by omega) (rootP l) (rootP o) _ 0 0 0 (by unfold rootC; rw [if_pos g.1]) (by unfold rootC; rw [if_pos g.2]) e (rootP_dig l) (rootP_dig o) (tagOf_dig _ _) rfl rfl rfl rfl
  · refine join_bad a1 a2 n1 c1 m c2 l o W b1 b2 hk h1 h2 h3 (by omega) _ _ _ _ _ _ (q l) (q o) (q (l ++ o)) (rootC_dig _) (rootC_dig _) (rootC_dig _) ?_ ?_
    · rw [r2, r2]
      revert g
      cases listP l <;> cases listP o <;> simp
    · rw [r2, hj]
      revert g
      cases listP l <;> cases listP o <;> simp
end Go.Proofs.YtoaimcobcgomjaaDoor.Q
namespace Go.Proofs.YtoaimcobcgomjaaDoor.Q
open Go.ChangeShapes Go.WideShapes Go.ChangeAt Go.RowKit Go.Joins Go.Proofs.YtoaimcobcgomjaaDoorW.PrintWords
theorem bts_of {W : World} {A : Addr} {len cap : Nat} {zs : List Int} (hl : len ≤ cap) (hm : cap ≤ maxLen) (hz : len ≤ zs.length) (hcell : ∀ i, i < zs.length → W.cell? (A.add i) = some (.int .u8 (zs.getD i 0))) (hw : ∀ n ∈ zs, (Lit.int .u8 n).wf = true) : Bts W (some A) len cap (zs.take len) := by
  refine ⟨⟨by rw [List.length_take]; omega, by unfold maxLen at hm; omega, fun _ => ⟨A, rfl, fun j p hj => ⟨[.int .u8 p], rfl, rfl, fun i u hu => ?_⟩⟩⟩, hl, fun x hx => ?_⟩
  · cases i with
    | succ i => simp at hu
    | zero =>
      simp only [List.getElem?_cons_zero, Option.some.injEq] at hu
      subst hu
      show W.cell? (A.add (j * 1 + 0)) = _
      rw [Nat.mul_one, Nat.add_zero]
      rw [List.getElem?_take] at hj
      split at hj
      · obtain ⟨h1, rfl⟩ := List.getElem?_eq_some_iff.1 hj
        rw [hcell j h1]
        simp [h1]
      · cases hj
  · have := bounds_u8 (hw x (List.mem_of_mem_take hx))
    omega
end Go.Proofs.YtoaimcobcgomjaaDoor.Q
namespace Go.Proofs.YtoaimcobcgomjaaDoor.Q
open Go.RowKit Go.ChangeShapes Go.WideShapes Go.ChangeAt Go.Deep Go.Joins Go.Proofs.YtoaimcobcgomjaaDoorW.PrintWords
set_option maxRecDepth 100000 in
theorem open_row_cells {H : Type} {enc : TypeId × Value → H} {W : World} {base : Nat} {sp : Nat → Bool} {held : Bool} {fuel : Nat} {cs : List Value} {x : DataW H × List MemPlace} (hf : DataW.trod enc Tryd.prog W base sp held fuel 22 cs = some x) :
    ∃ A l c n, cs = [.slice A n c] ∧ Bts W A n c l := by
  rcases open_ints Tryd.underlying22 Tryd.underlying5 (by kernel_rfl) hf with ⟨hcs, _⟩ | ⟨x, l, cap, zs, hcs, _, hl, hm, hz, _, hcell, hwz⟩
  · exact ⟨none, [], 0, 0, hcs, Bts.none W⟩
  · exact ⟨some x, zs.take l, cap, l, hcs, bts_of hl hm (by rw [hz]; split <;> omega) hcell hwz⟩
set_option maxRecDepth 100000 in
theorem open_rows {H : Type} {enc : TypeId × Value → H} {W : World} {r : Reach} {b0 base : Nat} {sp : Nat → Bool} {held : Bool} {v : Value} {d : DataW H} {p : List MemPlace} (ho : Value.okWide Tryd.prog W r b0 29 v) (h : DataW.Trod enc Tryd.prog W base sp held 29 v d p) :
    ∃ A l c n, v = .slice A n c ∧ Rws W A n c l := by
  obtain ⟨fuel, hf⟩ := h
  simp only [Value.okWide, Tryd.underlying29] at ho
  obtain ⟨A, n, c, hv⟩ := slice_form Tryd.underlying29 hf
  have hc : Tryd.prog.cellsOf 22 = 1 := by kernel_rfl
  rcases open_slice Tryd.underlying29 hf with ⟨hcs, _⟩ | ⟨x, len, cap, m, k, D, Pl, hcs, _, hl, hm, hme, _, hel⟩
  · obtain rfl : v = .slice none 0 0 := by
      cases v <;> simp [Value.cells] at hcs hv ⊢
      all_goals first | exact hcs | (simp [Cell.okWide, Cell.ok, Tryd.underlying29] at ho)
    exact ⟨none, [], 0, 0, rfl, ⟨none_C W, Nat.le_refl _, fun d hd => by cases hd⟩⟩
  · obtain rfl : v = .slice (some x) len cap := by
      cases v <;> simp [Value.cells] at hcs hv ⊢
      all_goals first | exact hcs | (simp [Cell.okWide, Cell.ok, Tryd.underlying29] at ho)
    have hlm : len ≤ m := by rw [hme]; split <;> omega
    have each : ∀ i, ∃ l : List Int, i < len → ∃ A' c', W.cell? (x.add i) = some (.slice A' l.length c') ∧ Bts W A' l.length c' l := fun i => by
      by_cases hi : i < len
      · obtain ⟨cs', hcc, ht⟩ := hel i (by omega)
        rw [hc, Nat.mul_one] at hcc
        obtain ⟨A', l, c', n', rfl, hb⟩ := open_row_cells ht
        have e := hb.len
        subst e
        exact ⟨l, fun _ => ⟨A', c', cell_of_cells?_one hcc, hb⟩⟩
      · exact ⟨[], fun h => absurd h hi⟩
    obtain ⟨f, hf2⟩ := Classical.axiomOfChoice each
    refine ⟨some x, (List.range len).map f, cap, len, rfl, ⟨⟨by simp, by unfold maxLen at hm; omega, fun _ => ⟨x, rfl, fun j q hj => ?_⟩⟩, hl, fun q hq => ?_⟩⟩
    · rw [List.getElem?_map] at hj
      obtain ⟨i, hi, rfl⟩ := Option.map_eq_some_iff.1 hj
      obtain ⟨hil, rfl⟩ := List.getElem?_eq_some_iff.1 hi
      have hjl : j < len := by simpa using hil
      simp only [List.getElem_range]
      obtain ⟨A', c', hcell, hb⟩ := hf2 j hjl
      refine ⟨[.slice A' (f j).length c'], rfl, ⟨A', c', rfl, hb.le, hb.rd_⟩, fun i u hu => ?_⟩
      cases i with
      | succ i => simp at hu
      | zero =>
        simp only [List.getElem?_cons_zero, Option.some.injEq] at hu
        subst hu
        show W.cell? (x.add (j * 1 + 0)) = _
        rw [Nat.mul_one, Nat.add_zero, hcell]
    · obtain ⟨j, hj, rfl⟩ := List.mem_map.1 hq
      obtain ⟨A', c', _, hb⟩ := hf2 j (by simpa using hj)
      exact hb.by_
end Go.Proofs.YtoaimcobcgomjaaDoor.Q
namespace Go.Proofs.YtoaimcobcgomjaaDoor.Q
open Go.ChangeShapes Go.WideShapes Go.ChangeAt Go.RowKit
theorem own : ownKnob Tryd.prog.godebug = none := by kernel_rfl
theorem laidOut : laidOutB Tryd.prog = true := by kernel_rfl
theorem gK : Tryd.prog.globalNamed "beadroll/sha.k" = some 0 := by kernel_rfl
theorem tK : (Tryd.prog.globals[0]?).map (·.type) = some 59 := by kernel_rfl
/-- The rows' condition. -/
def laidK : List (String × DataW Unit) := [("beadroll/sha.k", Rows.laid_beadroll_sha_k)]
set_option maxRecDepth 100000 in
theorem laidK_tab : laidK = [("beadroll/sha.k", Lib.tabData .u32 K64)] := rfl
/-- The door's own heap meets the condition. -/
theorem door_met (os : Os) (args : Array Value) : laidMetH Tryd.prog laidK ((World.doorLaid Tryd.prog 14 os).forCall (fun _ _ => 0) ⟨#[], args, []⟩).memory :=
  laidMetH_of_parts3 (fuel := 8) (laidMet_of_run' 8 (by kernel_rfl) (by kernel_rfl)) (by kernel_rfl) (by kernel_rfl)
theorem of_laid {W : World} (h : laidMetH Tryd.prog laidK W) : KT W := by
  rw [MakeChecks.laidMetH_plain _ _ _ (by kernel_rfl), laidK_tab] at h
  have hT := Lib.tabIs_of_head gK tK Tryd.underlying59 Tryd.underlying54 (by kernel_rfl) (by kernel_rfl) h
  intro j hj
  have := hT.cell gK j (by exact hj)
  rw [this]
  simp [at_, Go.Proofs.YtoaimcobcgomjaaDoorW.PrintWords.rd]
end Go.Proofs.YtoaimcobcgomjaaDoor.Q
