/- What the law reaches of these texts: Q2, Q3, RowsOne, RowsTwo, RowsList, RowsRoot, RowsSideP, RowsSideM, RowsBeside, RowsHalves, RegionIn, RowsMem, RowsRootW (joined by wip/tools/prune.py). -/
import Derived.Test.YtoaimcobcgomjaaDoorNames1
import Derived.WalkKit
import Derived.ProofKit
import Derived.OpenShut
import Derived.Deep.Slices
import Derived.Lib.SmallJoins
import Derived.Great.BuildSlice
import Derived.RangeFuncBox
import Derived.RangeFuncLeaves
import Derived.RangeFuncCalls
import Derived.Shelf.Abstract
import Derived.OwnWalkIn
import Derived.TacticsInMore
import Derived.LoopNIn
import Derived.LoopIn
import Derived.Lib.Hide
import Derived.Maps.AppendAt
import Derived.OrdersIn
namespace Go.Proofs.YtoaimcobcgomjaaDoor.Q
open Go.RowKit Go.Proofs.YtoaimcobcgomjaaDoorW.PrintWords Go.Proofs.YtoaimcobcgomjaaDoorW.PrintLast Go.Proofs.YtoaimcobcgomjaaDoorW.PrintMore
attribute [local go_sem] max2_int min2_int max_two min_two max_three min_three max_four min_four   -- for this text's walks alone
set_option linter.unusedVariables false
set_option linter.unusedSimpArgs false
def slices_Reverse_bool_bool.l0 : Nat → List Bool → Int → Int → Option (List Bool)
  | 0, _, _, _ => none
  | k + 1, x0, x2, x3 => if x2 < x3 then (if 0 ≤ x3 then (if x3 < (x0.length : Int) then (if 0 ≤ x2 then (if x2 < (x0.length : Int) then (slices_Reverse_bool_bool.l0 k ((x0.set (x2 : Int).toNat (rdOf false x0 x3)).set (x3 : Int).toNat (rdOf false x0 x2)) (wrap64 (x2 + 1)) (wrap64 (x3 - 1))) else (none)) else (none)) else (none)) else (none)) else (some x0)
def slices_Reverse_bool_bool.f (k : Nat) (l0 : List Bool) : Option (List Bool) := slices_Reverse_bool_bool.l0 k l0 0 (wrap64 ((l0.length : Int) - 1))
theorem slices_Reverse_bool_bool.mono_l : ∀ k, (∀ y0 y1 y2, LeO (slices_Reverse_bool_bool.l0 k y0 y1 y2) (slices_Reverse_bool_bool.l0 (k + 1) y0 y1 y2))
  | 0 => fun _ _ _ r h => by simp [slices_Reverse_bool_bool.l0] at h
  | k + 1 => by
    have ih0 := slices_Reverse_bool_bool.mono_l k
    · intro y0 y1 y2
      unfold slices_Reverse_bool_bool.l0
      repeat' first
      | (with_reducible exact ih0 _ _ _)
      | (with_reducible exact LeO.refl _)
      | (with_reducible exact LeO.none _)
      | (with_reducible refine LeO.ite ?_ ?_)
      | (with_reducible refine LeO.bind ?_ (fun _ => ?_))
      | exact ih0 _ _ _
      | exact LeO.none _
      | refine LeO.ite ?_ ?_
      | refine LeO.bind ?_ (fun _ => ?_)
theorem slices_Reverse_bool_bool.mono : ∀ a0 k, LeO (slices_Reverse_bool_bool.f k a0) (slices_Reverse_bool_bool.f (k + 1) a0) := by
  intro a0 k
  have ih0 := slices_Reverse_bool_bool.mono_l k
  unfold slices_Reverse_bool_bool.f
  repeat' first
      | (with_reducible exact ih0 _ _ _)
      | (with_reducible exact LeO.refl _)
      | (with_reducible exact LeO.none _)
      | (with_reducible refine LeO.ite ?_ ?_)
      | (with_reducible refine LeO.bind ?_ (fun _ => ?_))
      | exact ih0 _ _ _
      | exact LeO.none _
      | refine LeO.ite ?_ ?_
      | refine LeO.bind ?_ (fun _ => ?_)
def slices_Reverse_bool_bool.T3 : Bool × List (List Nat × List Nat) := (true, [([], []), ([], []), ([], []), ([], []), ([], []), ([], []), ([4, 5], [4, 5]), ([6], [6]), ([], []), ([], []), ([8, 9], [8, 9]), ([10], [10]), ([0, 1, 0, 1, 4, 5, 6, 7, 11], [0, 1]), ([12, 7, 0, 1, 4, 5, 6, 7, 11], [7, 12]), ([2, 3, 0, 1, 2, 3, 4, 5, 6, 7, 8, 9, 10, 11, 12, 13], [2, 3]), ([14, 11, 13, 0, 1, 2, 3, 4, 5, 6, 7, 8, 9, 10, 11, 12, 13], [11, 14])])
def slices_Reverse_bool_bool.B3 : List Nat := [0, 0, 0, 0, 0, 0, 48, 112, 0, 0, 768, 1792, 4083, 8179, 16383, 32767]
theorem slices_Reverse_bool_bool.tab3 : rtab .any (opsOf Tryd.f59 3) = slices_Reverse_bool_bool.T3 := by kernel_rfl
theorem slices_Reverse_bool_bool.bits3 : waitsOk slices_Reverse_bool_bool.T3.2 slices_Reverse_bool_bool.B3 = true := by kernel_rfl
set_option maxHeartbeats 8000000 in
set_option maxRecDepth 100000 in
theorem slices_Reverse_bool_bool.calls (k : Nat) (P0_ : Nat → Prop) (u9000_ : Value) (l0 : List Bool) (r : List Bool) (w0 w : World) (hB : Below w0.heap.size w0 w) (ho0 : Kd.R Kd.bool 4 w w0.heap.size P0_ u9000_ l0) (h : slices_Reverse_bool_bool.f k l0 = some r) :
    Calls Tryd.prog 59 #[u9000_] w fun e w' => e = .returned (.tuple #[]) ∧ Kd.R Kd.bool 4 w' w0.heap.size (fun k_ => (P0_ k_ ∨ w.heap.size ≤ k_)) u9000_ r ∧ Below w0.heap.size w0 w' ∧ Kept w w' (fun k_ => P0_ k_) := by
  have HO0 := Aside0.mk (show Kd.R Kd.bool 4 w w0.heap.size (fun k_ => (P0_ k_ ∨ w.heap.size ≤ k_)) u9000_ l0 from Kd.R_mono ho0 (fun k_ hk => (.inl hk)))
  have HK := Aside0.mk (Kept.refl w (fun k_ => P0_ k_))
  have HW0 := Aside0.mk hB.size
  have HB := Aside0.mk hB
  clear hB
  have H : (slices_Reverse_bool_bool.l0 k l0 0 (wrap64 ((l0.length : Int) - 1))) = some r := h
  clear h
  have H' := Aside0.mk H
  clear H
  obtain ⟨Ao2, co2, eo2⟩ := Kd.R_slice HO0.out
  subst eo2
  go_enter Tryd.func59, Tryd.ntmps59
  go_wp2
  go_loopg [2, 3] k (fun kq v2 v3 w' => ∃ (x0_1 : List Bool) (x2_1 : Int) (x3_1 : Int), v2 = .int .i64 x2_1 ∧ v3 = .int .i64 x3_1 ∧ Aside0 (slices_Reverse_bool_bool.l0 kq x0_1 x2_1 x3_1 = some r) ∧ Aside0 (kq ≤ k) ∧ Aside0 (Kd.R Kd.bool 4 w' w0.heap.size (fun k_ => (P0_ k_ ∨ w.heap.size ≤ k_)) (.slice Ao2 l0.length co2) x0_1) ∧ Aside0 (Kept w w' (fun k_ => P0_ k_)) ∧ Aside0 (Below w0.heap.size w0 w'))
  case atStart => exact ⟨(l0), (0), (wrap64 ((l0.length : Int) - 1)), (by first | rfl | (simp; done) | (simp [*]; done)), (by first | rfl | (simp; done) | (simp [*]; done)), H', ⟨Nat.le_refl _⟩, ⟨by (with_reducible repeat (first | apply Kd.R_alloc | apply Kd.R_drewN | apply Kd.R_drew)); exact HO0.out⟩, ⟨by repeat (first | (with_reducible first | exact HK.out | apply Kept.alloc | apply Kept.drewN | apply Kept.drew) | exact HK.out)⟩, ⟨by repeat (first | (with_reducible first | exact HB.out | apply below_alloc | apply pw_below_drewN | apply below_drew1) | exact HB.out)⟩⟩
  case round =>
    clear H'
    try clear p2
    obtain ⟨x0_1, x2_1, x3_1, rfl, rfl, HA, HK1, HO_0, HK, HB⟩ := hrel
    have hl0_1 := (Kd.R_reads' HO_0.out).1
    rw [hl0_1] at HO_0
    (try simp only [hl0_1])
    cases gk with
    | zero => exact absurd HA.out (by simp [slices_Reverse_bool_bool.l0])
    | succ k1 =>
      have H := HA.out
      clear HA
      simp only [slices_Reverse_bool_bool.l0] at H
      by_cases c3 : x2_1 < x3_1
      · rw [if_pos c3] at H
        have c3b0 : decide (x2_1 < x3_1) = true := decide_eq_true c3
        clear c3
        by_cases c4 : 0 ≤ x3_1
        · rw [if_pos c4] at H
          have c4b0 : decide (0 ≤ x3_1) = true := decide_eq_true c4
          clear c4
          by_cases c5 : x3_1 < (x0_1.length : Int)
          · rw [if_pos c5] at H
            have c5b0 : decide (x3_1 < (x0_1.length : Int)) = true := decide_eq_true c5
            clear c5
            by_cases c6 : 0 ≤ x2_1
            · rw [if_pos c6] at H
              have c6b0 : decide (0 ≤ x2_1) = true := decide_eq_true c6
              clear c6
              by_cases c7 : x2_1 < (x0_1.length : Int)
              · rw [if_pos c7] at H
                have c7b0 : decide (x2_1 < (x0_1.length : Int)) = true := decide_eq_true c7
                clear c7
                obtain ⟨y147, hy147⟩ : ∃ y_ : List Bool, y_ = (x0_1.set (x2_1 : Int).toNat (rdOf false x0_1 x3_1)) := ⟨_, rfl⟩
                replace H : (slices_Reverse_bool_bool.l0 k1 (y147.set (x3_1 : Int).toNat (rdOf false x0_1 x2_1)) (wrap64 (x2_1 + 1)) (wrap64 (x3_1 - 1))) = some r := by first | (rw [hy147]; with_reducible exact H) | (have H2_ := (Option.bind_some _ _).symm.trans H; rw [hy147]; with_reducible exact H2_) | (have H2_ := (Option.bind_some _ _).symm.trans H; with_reducible exact H2_) | with_reducible exact H | (rw [hy147]; exact H) | exact H
                have Ny147 := Aside0.mk hy147
                clear hy147
                obtain ⟨y148, hy148⟩ : ∃ y_ : List Bool, y_ = (y147.set (x3_1 : Int).toNat (rdOf false x0_1 x2_1)) := ⟨_, rfl⟩
                replace H : (slices_Reverse_bool_bool.l0 k1 y148 (wrap64 (x2_1 + 1)) (wrap64 (x3_1 - 1))) = some r := by first | (rw [hy148]; with_reducible exact H) | (have H2_ := (Option.bind_some _ _).symm.trans H; rw [hy148]; with_reducible exact H2_) | (have H2_ := (Option.bind_some _ _).symm.trans H; with_reducible exact H2_) | with_reducible exact H | (rw [hy148]; exact H) | exact H
                have Ny148 := Aside0.mk hy148
                clear hy148
                have H' := Aside0.mk H
                clear H
                try go_wp2
                have n0_ := Aside0.mk (Kd.R_drew HO_0.out)
                have n1_ := Aside0.mk (Kept.drew HK.out)
                have n2_ := Aside0.mk (below_drew1 HB.out)
                clear HO_0
                clear HK
                clear HB
                have HO_0 := n0_
                have HK := n1_
                have HB := n2_
                clear n0_ n1_ n2_
                have p145 : 0 ≤ (x3_1 : Int) := of_decide_eq_true (by first | (with_reducible assumption) | assumption)
                have q145 : x3_1 < (x0_1.length : Int) := of_decide_eq_true (by first | (with_reducible assumption) | assumption)
                obtain ⟨ad145, e145, hx145_0⟩ := Kd.at_bool (Kd.R_reads' HO_0.out).2.2 x3_1 p145 q145
                cases e145
                replace p145 := eq_true p145
                replace q145 := eq_true q145
                have p146 : 0 ≤ (x2_1 : Int) := of_decide_eq_true (by first | (with_reducible assumption) | assumption)
                have q146 : x2_1 < (x0_1.length : Int) := of_decide_eq_true (by first | (with_reducible assumption) | assumption)
                obtain ⟨ad146, e146, hx146_0⟩ := Kd.at_bool (Kd.R_reads' HO_0.out).2.2 x2_1 p146 q146
                obtain rfl : ad145 = ad146 := (by injection e146)
                replace p146 := eq_true p146
                replace q146 := eq_true q146
                have p8 : 0 ≤ (x2_1 : Int) := of_decide_eq_true (by first | (with_reducible assumption) | assumption)
                have q8 : (x2_1 : Int) < ((x0_1.length : Int) : Int) := of_decide_eq_true (by first | (with_reducible assumption) | assumption)
                obtain ⟨go8, co8, eo8, gb8, gl8, cl8, HG8⟩ := Kd.R_form HO_0.out (by omega)
                (first | cases eo8 | (injection eo8 with ea_ en_ ec_; (first | subst ea_ | (injection ea_ with ea_; subst ea_)); subst ec_; clear en_))
                have GB8 := Aside0.mk gb8
                have GG8 := Aside0.mk HG8
                clear gb8 gl8 HG8
                have HMgo8 := Aside0.mk (show (P0_ go8 ∨ w.heap.size ≤ go8) from (HO_0.out.1 _ rfl))
                (first | simp only [add_plain] at hx145_0 | skip)
                (first | simp only [add_plain] at hx146_0 | skip)
                obtain ⟨hx8_0, hf8_0⟩ := Kd.R_celln false HO_0.out (x2_1 : Int) p8 q8
                replace p8 := eq_true p8
                replace q8 := eq_true q8
                have HP11 := Kd.R_putn HO_0.out (x2_1 : Int) (rdOf false x0_1 x3_1)
                rw [← Ny147.out] at HP11
                have HQ11 := Aside0.mk HP11
                clear HP11
                have p9 : 0 ≤ (x3_1 : Int) := of_decide_eq_true (by first | (with_reducible assumption) | assumption)
                have q9 : (x3_1 : Int) < ((x0_1.length : Int) : Int) := of_decide_eq_true (by first | (with_reducible assumption) | assumption)
                obtain ⟨hx9_0, hf9_0⟩ := Kd.R_celln false HQ11.out (x3_1 : Int) p9 q9
                replace p9 := eq_true p9
                replace q9 := eq_true q9
                have HP12 := Kd.R_putn HQ11.out (x3_1 : Int) (rdOf false x0_1 x2_1)
                rw [← Ny148.out] at HP12
                have HQ12 := Aside0.mk HP12
                clear HP12
                refine start_ (n := 16) (S := fun w' => w'.cell? ⟨go8, (x3_1).toNat, none⟩ = some (.bool (rdOf false x0_1 x3_1)) ∧ w'.cell? ⟨go8, (x2_1).toNat, none⟩ = some (.bool (rdOf false x0_1 x2_1))) (ds := [13, 15]) #[false, false, false, false, false, false, false, false, false, false, false, false, false, false, false, false] (by kernel_rfl) rfl rfl ⟨hx145_0, hx146_0⟩ (fun hHeld => ?_); refine with_tabW slices_Reverse_bool_bool.tab3 slices_Reverse_bool_bool.bits3 (fun HT_ HW_ => ?_)
                generalize wr.drew = w10 at HO_0 HK HB GG8 HQ11 HQ12 hf8_0 hf9_0 hx145_0 hx146_0 hx8_0 hx9_0 hHeld ⊢
                refine pure_ (i := 0) (N := some 14) (v := ?_) (a' := ?_) #[true, false, false, false, false, false, false, false, false, false, false, false, false, false, false, false] rfl rfl (any_of HT_.out (by kernel_rfl)) (fun _ _ _ h => h) (Or.inl ⟨by rfl, ?_⟩) ?_ ?_
                rotate_left
                · intro w'
                  go_simp
                  with_reducible rfl
                rotate_left
                · simp only [Act.put, List.setIfInBounds_toArray, List.set_cons_zero, List.set_cons_succ, i64_w, i32_w]
                  rfl
                refine pure_ (i := 1) (N := some 15) (v := ?_) (a' := ?_) #[true, true, false, false, false, false, false, false, false, false, false, false, false, false, false, false] rfl rfl (any_of HT_.out (by kernel_rfl)) (fun _ _ _ h => h) (Or.inl ⟨by rfl, ?_⟩) ?_ ?_
                rotate_left
                · intro w'
                  go_simp
                  with_reducible rfl
                rotate_left
                · simp only [Act.put, List.setIfInBounds_toArray, List.set_cons_zero, List.set_cons_succ, i64_w, i32_w]
                  rfl
                refine pure_ (i := 2) (N := some 16) (v := ?_) (a' := ?_) #[true, true, true, false, false, false, false, false, false, false, false, false, false, false, false, false] rfl rfl (any_of HT_.out (by kernel_rfl)) (fun _ _ _ h => h) (Or.inl ⟨by rfl, ?_⟩) ?_ ?_
                rotate_left
                · intro w'
                  go_simp
                  with_reducible rfl
                rotate_left
                · simp only [Act.put, List.setIfInBounds_toArray, List.set_cons_zero, List.set_cons_succ, i64_w, i32_w]
                  rfl
                refine pure_ (i := 3) (N := some 17) (v := ?_) (a' := ?_) #[true, true, true, true, false, false, false, false, false, false, false, false, false, false, false, false] rfl rfl (any_of HT_.out (by kernel_rfl)) (fun _ _ _ h => h) (Or.inl ⟨by rfl, ?_⟩) ?_ ?_
                rotate_left
                · intro w'
                  go_simp
                  with_reducible rfl
                rotate_left
                · simp only [Act.put, List.setIfInBounds_toArray, List.set_cons_zero, List.set_cons_succ, i64_w, i32_w]
                  rfl
                refine pure_ (i := 4) (N := some 18) (v := ?_) (a' := ?_) #[true, true, true, true, true, false, false, false, false, false, false, false, false, false, false, false] rfl rfl (any_of HT_.out (by kernel_rfl)) (fun _ _ _ h => h) (Or.inl ⟨by rfl, ?_⟩) ?_ ?_
                rotate_left
                · intro w'
                  go_simp
                  with_reducible rfl
                rotate_left
                · simp only [Act.put, List.setIfInBounds_toArray, List.set_cons_zero, List.set_cons_succ, i64_w, i32_w]
                  rfl
                refine pure_ (i := 5) (N := some 19) (v := ?_) (a' := ?_) #[true, true, true, true, true, true, false, false, false, false, false, false, false, false, false, false] rfl rfl (any_of HT_.out (by kernel_rfl)) (fun _ _ _ h => h) (Or.inl ⟨by rfl, ?_⟩) ?_ ?_
                rotate_left
                · intro w'
                  go_simp
                  with_reducible rfl
                rotate_left
                · simp only [Act.put, List.setIfInBounds_toArray, List.set_cons_zero, List.set_cons_succ, i64_w, i32_w]
                  rfl
                refine pure_ (i := 6) (N := some 20) (v := ?_) (a' := ?_) #[true, true, true, true, true, true, true, false, false, false, false, false, false, false, false, false] rfl rfl (any_of HT_.out (by kernel_rfl)) (fun _ _ _ h => h) (Or.inl ⟨by rfl, ?_⟩) ?_ ?_
                rotate_left
                · intro w'
                  go_simp
                  with_reducible rfl
                rotate_left
                · simp only [Act.put, List.setIfInBounds_toArray, List.set_cons_zero, List.set_cons_succ, i64_w, i32_w]
                  rfl
                refine pure_ (i := 8) (N := some 22) (v := ?_) (a' := ?_) #[true, true, true, true, true, true, true, false, true, false, false, false, false, false, false, false] rfl rfl (any_of HT_.out (by kernel_rfl)) (fun _ _ _ h => h) (Or.inl ⟨by rfl, ?_⟩) ?_ ?_
                rotate_left
                · intro w'
                  go_simp
                  with_reducible rfl
                rotate_left
                · simp only [Act.put, List.setIfInBounds_toArray, List.set_cons_zero, List.set_cons_succ, i64_w, i32_w]
                  rfl
                refine pure_ (i := 9) (N := some 23) (v := ?_) (a' := ?_) #[true, true, true, true, true, true, true, false, true, true, false, false, false, false, false, false] rfl rfl (any_of HT_.out (by kernel_rfl)) (fun _ _ _ h => h) (Or.inl ⟨by rfl, ?_⟩) ?_ ?_
                rotate_left
                · intro w'
                  go_simp
                  with_reducible rfl
                rotate_left
                · simp only [Act.put, List.setIfInBounds_toArray, List.set_cons_zero, List.set_cons_succ, i64_w, i32_w]
                  rfl
                refine pure_ (i := 10) (N := some 24) (v := ?_) (a' := ?_) #[true, true, true, true, true, true, true, false, true, true, true, false, false, false, false, false] rfl rfl (any_of HT_.out (by kernel_rfl)) (fun _ _ _ h => h) (Or.inl ⟨by rfl, ?_⟩) ?_ ?_
                rotate_left
                · intro w'
                  go_simp
                  with_reducible rfl
                rotate_left
                · simp only [Act.put, List.setIfInBounds_toArray, List.set_cons_zero, List.set_cons_succ, i64_w, i32_w]
                  rfl
                refine take_ (i := 7) (N := some 21) (v := ?_) (a' := ?_) #[true, true, true, true, true, true, true, true, true, true, true, false, false, false, false, false] rfl rfl (take_ofW HT_.out HW_.out (by kernel_rfl)) (fun _ _ _ h => h) (Or.inl ⟨by rfl, ?_⟩) hHeld ?_ ?_
                rotate_left
                · rintro w' ⟨s0, s1⟩
                  go_simp
                  with_reducible rfl
                rotate_left
                · simp only [Act.put, List.setIfInBounds_toArray, List.set_cons_zero, List.set_cons_succ, i64_w, i32_w]
                  rfl
                refine take_ (i := 11) (N := some 25) (v := ?_) (a' := ?_) #[true, true, true, true, true, true, true, true, true, true, true, true, false, false, false, false] rfl rfl (take_ofW HT_.out HW_.out (by kernel_rfl)) (fun _ _ _ h => h) (Or.inl ⟨by rfl, ?_⟩) hHeld ?_ ?_
                rotate_left
                · rintro w' ⟨s0, s1⟩
                  go_simp
                  with_reducible rfl
                rotate_left
                · simp only [Act.put, List.setIfInBounds_toArray, List.set_cons_zero, List.set_cons_succ, i64_w, i32_w]
                  rfl
                refine pure_ (i := 12) (N := some 26) (v := ?_) (a' := ?_) #[true, true, true, true, true, true, true, true, true, true, true, true, true, false, false, false] rfl rfl (any_of HT_.out (by kernel_rfl)) (fun _ _ _ h => h) (Or.inl ⟨by rfl, ?_⟩) ?_ ?_
                rotate_left
                · intro w'
                  go_simp
                  with_reducible rfl
                rotate_left
                · simp only [Act.put, List.setIfInBounds_toArray, List.set_cons_zero, List.set_cons_succ, i64_w, i32_w]
                  rfl
                refine last_ (i := 13) (N := none) #[true, true, true, true, true, true, true, true, true, true, true, true, true, true, false, false] rfl rfl (one_of HT_.out (by kernel_rfl)) (by decide) (fun K hK => ?_)
                refine skip_ (w1 := ?_) (by rfl) rfl ?_ ?_
                rotate_left
                · go_simp
                  rfl
                refine hK.out _ _ ?_
                clear hK K
                refine pure_ (i := 14) (N := some 27) (v := ?_) (a' := ?_) #[true, true, true, true, true, true, true, true, true, true, true, true, true, true, true, false] rfl rfl (any_of HT_.out (by kernel_rfl)) (fun _ _ _ h => h) (Or.inl ⟨by rfl, ?_⟩) ?_ ?_
                rotate_left
                · intro w'
                  go_simp
                  with_reducible rfl
                rotate_left
                · simp only [Act.put, List.setIfInBounds_toArray, List.set_cons_zero, List.set_cons_succ, i64_w, i32_w]
                  rfl
                refine last_ (i := 15) (N := none) #[true, true, true, true, true, true, true, true, true, true, true, true, true, true, true, true] rfl rfl (one_of HT_.out (by kernel_rfl)) (by decide) (fun K hK => ?_)
                refine skip_ (w1 := ?_) (by rfl) rfl ?_ ?_
                rotate_left
                · go_simp
                  rfl
                refine hK.out _ _ ?_
                clear hK K
                refine done_ (done_of HT_.out (by kernel_rfl)) ?_
                try go_wp2
                (try simp only [← hl0_1])
                go_roundg k1
                case measure => have := HK1.out; omega
                case rel => exact ⟨(y148), (wrap64 (x2_1 + 1)), (wrap64 (x3_1 - 1)), (by first | rfl | (simp; done) | (simp [*]; done)), (by first | rfl | (simp; done) | (simp [*]; done)), H', ⟨by have := HK1.out; omega⟩, ⟨by (try simp only [hl0_1]); (with_reducible repeat (first | apply Kd.R_alloc | apply Kd.R_drewN | apply Kd.R_drew)); exact HQ12.out⟩, ⟨by repeat (first | (with_reducible first | exact HK.out | apply Kept.alloc | apply Kept.drewN | apply Kept.drew | refine Kept.setCell ?_ HMgo8.out _ | refine Kept.setCell ?_ HMgo8.out _) | exact HK.out)⟩, ⟨by repeat (first | (with_reducible first | exact HB.out | apply below_alloc | apply pw_below_drewN | apply below_drew1 | refine below_set ?_ GB8.out | refine below_set ?_ GB8.out) | exact HB.out)⟩⟩
              · rw [if_neg c7] at H
                exact absurd H (by simp)
            · rw [if_neg c6] at H
              exact absurd H (by simp)
          · rw [if_neg c5] at H
            exact absurd H (by simp)
        · rw [if_neg c4] at H
          exact absurd H (by simp)
      · rw [if_neg c3] at H
        have c3b0 : decide (x2_1 < x3_1) = false := decide_eq_false c3
        clear c3
        obtain rfl := Option.some.inj H
        go_wp2
        first | go_end0 | ((try simp only [Exit.inBlock, Exit.then]); refine bodyPost_ret (results_none rfl _ _ _) rfl ?_)
        exact ⟨by first | rfl | (simp [errW_none, errW_some] <;> rfl) | (simp [*, errW_none, errW_some] <;> rfl), (by first | exact (by (with_reducible repeat (first | apply Kd.R_alloc | apply Kd.R_drewN | apply Kd.R_drew)); exact HO_0.out) | (simp only [hl0_1]; exact (by (with_reducible repeat (first | apply Kd.R_alloc | apply Kd.R_drewN | apply Kd.R_drew)); exact HO_0.out))), by repeat (first | (with_reducible first | exact HB.out | apply below_alloc | apply pw_below_drewN | apply below_drew1) | exact HB.out), by repeat (first | (with_reducible first | exact HK.out | apply Kept.alloc | apply Kept.drewN | apply Kept.drew) | exact HK.out)⟩
-- NOT PRINTED: function 20 (rows_Fits)
-- NOT PRINTED: function 23 (beadrolllaw13_leaf)
-- NOT PRINTED: function 24 (beadrolllaw13_fork)
-- NOT PRINTED: function 21 (beadrolllaw13_alive)
-- NOT PRINTED: function 22 (beadrollref06_SameDigests)
-- NOT PRINTED: function 4 (beadrolllaw13_RowsNames)
def beadrollref13_Great.l0 : Nat → List (List Int) → Int → Option (Bool)
  | 0, _, _ => none
  | k + 1, x0, x5 => if x5 < (x0.length : Int) then (if 0 ≤ x5 then (if ((rd_L1 x0 x5).length : Int) > 200 then (if ((rd_L1 x0 x5).length : Int) ≤ 4096 then (some true) else (if ((rd_L1 x0 x5).length : Int) > 5000 then (some true) else (beadrollref13_Great.l0 k x0 (wrap64 (x5 + 1))))) else (if ((rd_L1 x0 x5).length : Int) > 5000 then (some true) else (beadrollref13_Great.l0 k x0 (wrap64 (x5 + 1))))) else (none)) else (some false)
def beadrollref13_Great.f (k : Nat) (l0 : List (List Int)) (a1 : Int) : Option (Bool) := if (l0.length : Int) > a1 then (some true) else (beadrollref13_Great.l0 k l0 0)
theorem beadrollref13_Great.mono_l : ∀ k, (∀ y0 y1, LeO (beadrollref13_Great.l0 k y0 y1) (beadrollref13_Great.l0 (k + 1) y0 y1))
  | 0 => fun _ _ r h => by simp [beadrollref13_Great.l0] at h
  | k + 1 => by
    have ih0 := beadrollref13_Great.mono_l k
    · intro y0 y1
      unfold beadrollref13_Great.l0
      repeat' first
      | (with_reducible exact ih0 _ _)
      | (with_reducible exact LeO.refl _)
      | (with_reducible exact LeO.none _)
      | (with_reducible refine LeO.ite ?_ ?_)
      | (with_reducible refine LeO.bind ?_ (fun _ => ?_))
      | exact ih0 _ _
      | exact LeO.none _
      | refine LeO.ite ?_ ?_
      | refine LeO.bind ?_ (fun _ => ?_)
theorem beadrollref13_Great.mono : ∀ a0 a1 k, LeO (beadrollref13_Great.f k a0 a1) (beadrollref13_Great.f (k + 1) a0 a1) := by
  intro a0 a1 k
  have ih0 := beadrollref13_Great.mono_l k
  unfold beadrollref13_Great.f
  repeat' first
      | (with_reducible exact ih0 _ _)
      | (with_reducible exact LeO.refl _)
      | (with_reducible exact LeO.none _)
      | (with_reducible refine LeO.ite ?_ ?_)
      | (with_reducible refine LeO.bind ?_ (fun _ => ?_))
      | exact ih0 _ _
      | exact LeO.none _
      | refine LeO.ite ?_ ?_
      | refine LeO.bind ?_ (fun _ => ?_)
set_option maxHeartbeats 8000000 in
set_option maxRecDepth 100000 in
theorem beadrollref13_Great.calls (k : Nat) (A0 : Option Addr) (c0 : Nat) (l0 : List (List Int)) (a1 : Int) (r : Bool) (w : World) (hr0 : Kd.C (Kd.slice 5 (Kd.int .u8)) w A0 l0.length l0) (hc0 : l0.length ≤ c0) (h : beadrollref13_Great.f k l0 a1 = some r) :
    Calls Tryd.prog 25 #[.slice A0 l0.length c0, .int .i64 a1] w fun e w' => e = .returned (.bool r) ∧ Drawn0 w w' := by
  have HR0 := Aside0.mk hr0
  have HC0 := Aside0.mk hc0
  clear hr0 hc0
  have H : (if (l0.length : Int) > a1 then (some true) else (beadrollref13_Great.l0 k l0 0)) = some r := h
  clear h
  by_cases c3 : (l0.length : Int) > a1
  · rw [if_pos c3] at H
    have c3b0 : decide (a1 < (l0.length : Int)) = true := decide_eq_true c3
    clear c3
    obtain rfl := Option.some.inj H
    go_enter Tryd.func25, Tryd.ntmps25
    go_wp2
    go_ret
    exact ⟨by first | rfl | (simp; done) | (simp [*]; done), by repeat (first | exact Drawn0.refl _ | apply Drawn0.step)⟩
  · rw [if_neg c3] at H
    have c3b0 : decide (a1 < (l0.length : Int)) = false := decide_eq_false c3
    clear c3
    have H' := Aside0.mk H
    clear H
    go_enter Tryd.func25, Tryd.ntmps25
    go_wp2
    go_loopg [5] k (fun kq v5 w' => ∃ (x5_1 : Int), v5 = .int .i64 x5_1 ∧ Aside0 (beadrollref13_Great.l0 kq l0 x5_1 = some r) ∧ Aside0 (kq ≤ k) ∧ Drawn0 w w')
    case atStart => exact ⟨(0), (by first | rfl | (simp; done) | (simp [*]; done)), H', ⟨Nat.le_refl _⟩, by repeat (first | exact Drawn0.refl _ | apply Drawn0.step)⟩
    case round =>
      clear H'
      try clear c2
      try clear p2
      try clear c3
      try clear c3b0
      obtain ⟨x5_1, rfl, HA, HK1, ⟨m1, rfl⟩⟩ := hrel
      cases gk with
      | zero => exact absurd HA.out (by simp [beadrollref13_Great.l0])
      | succ k1 =>
        have H := HA.out
        clear HA
        simp only [beadrollref13_Great.l0] at H
        by_cases c4 : x5_1 < (l0.length : Int)
        · rw [if_pos c4] at H
          have c4b0 : decide (x5_1 < (l0.length : Int)) = true := decide_eq_true c4
          clear c4
          by_cases c5 : 0 ≤ x5_1
          · rw [if_pos c5] at H
            have c5b0 : decide (0 ≤ x5_1) = true := decide_eq_true c5
            clear c5
            by_cases c6 : ((rd_L1 l0 x5_1).length : Int) > 200
            · rw [if_pos c6] at H
              have c6b0 : decide (200 < ((rd_L1 l0 x5_1).length : Int)) = true := decide_eq_true c6
              have c6b1 : decide (200 < (rd_L1 l0 x5_1).length) = true := decide_eq_true (by omega)
              clear c6
              by_cases c7 : ((rd_L1 l0 x5_1).length : Int) ≤ 4096
              · rw [if_pos c7] at H
                have c7b0 : decide (((rd_L1 l0 x5_1).length : Int) ≤ 4096) = true := decide_eq_true c7
                have c7b1 : decide ((rd_L1 l0 x5_1).length ≤ 4096) = true := decide_eq_true (by omega)
                clear c7
                obtain rfl := Option.some.inj H
                have p149 : 0 ≤ (x5_1 : Int) := of_decide_eq_true (by first | (with_reducible assumption) | assumption)
                have q149 : x5_1 < (l0.length : Int) := of_decide_eq_true (by first | (with_reducible assumption) | assumption)
                obtain ⟨ad149, A149_0, c149_0, e149, hx149_0, hl149_0, hi149_0⟩ := at_L1 HR0.out x5_1 p149 q149
                cases e149
                have HR149_0 := Aside0.mk hi149_0
                have HC149_0 := Aside0.mk hl149_0
                clear hi149_0 hl149_0
                replace p149 := eq_true p149
                replace q149 := eq_true q149
                have p150 : 0 ≤ (x5_1 : Int) := of_decide_eq_true (by first | (with_reducible assumption) | assumption)
                have q150 : x5_1 < (l0.length : Int) := of_decide_eq_true (by first | (with_reducible assumption) | assumption)
                obtain ⟨ad150, A150_0, c150_0, e150, hx150_0, hl150_0, hi150_0⟩ := at_L1 HR0.out x5_1 p150 q150
                obtain rfl : ad149 = ad150 := (by injection e150)
                have HR150_0 := Aside0.mk hi150_0
                have HC150_0 := Aside0.mk hl150_0
                clear hi150_0 hl150_0
                replace p150 := eq_true p150
                replace q150 := eq_true q150
                have ea_ := Option.some.inj (hx149_0.symm.trans hx150_0)
                injection ea_ with ea_ en_ ec_
                subst ea_
                subst ec_
                clear en_
                go_wp2
                go_ret
                exact ⟨by first | rfl | (simp; done) | (simp [*]; done), by repeat (first | exact Drawn0.refl _ | apply Drawn0.step)⟩
              · rw [if_neg c7] at H
                have c7b0 : decide (((rd_L1 l0 x5_1).length : Int) ≤ 4096) = false := decide_eq_false c7
                have c7b1 : decide ((rd_L1 l0 x5_1).length ≤ 4096) = false := decide_eq_false (by omega)
                clear c7
                by_cases c8 : ((rd_L1 l0 x5_1).length : Int) > 5000
                · rw [if_pos c8] at H
                  have c8b0 : decide (5000 < ((rd_L1 l0 x5_1).length : Int)) = true := decide_eq_true c8
                  have c8b1 : decide (5000 < (rd_L1 l0 x5_1).length) = true := decide_eq_true (by omega)
                  clear c8
                  obtain rfl := Option.some.inj H
                  have p149 : 0 ≤ (x5_1 : Int) := of_decide_eq_true (by first | (with_reducible assumption) | assumption)
                  have q149 : x5_1 < (l0.length : Int) := of_decide_eq_true (by first | (with_reducible assumption) | assumption)
                  obtain ⟨ad149, A149_0, c149_0, e149, hx149_0, hl149_0, hi149_0⟩ := at_L1 HR0.out x5_1 p149 q149
                  cases e149
                  have HR149_0 := Aside0.mk hi149_0
                  have HC149_0 := Aside0.mk hl149_0
                  clear hi149_0 hl149_0
                  replace p149 := eq_true p149
                  replace q149 := eq_true q149
                  have p150 : 0 ≤ (x5_1 : Int) := of_decide_eq_true (by first | (with_reducible assumption) | assumption)
                  have q150 : x5_1 < (l0.length : Int) := of_decide_eq_true (by first | (with_reducible assumption) | assumption)
                  obtain ⟨ad150, A150_0, c150_0, e150, hx150_0, hl150_0, hi150_0⟩ := at_L1 HR0.out x5_1 p150 q150
                  obtain rfl : ad149 = ad150 := (by injection e150)
                  have HR150_0 := Aside0.mk hi150_0
                  have HC150_0 := Aside0.mk hl150_0
                  clear hi150_0 hl150_0
                  replace p150 := eq_true p150
                  replace q150 := eq_true q150
                  have ea_ := Option.some.inj (hx149_0.symm.trans hx150_0)
                  injection ea_ with ea_ en_ ec_
                  subst ea_
                  subst ec_
                  clear en_
                  have p151 : 0 ≤ (x5_1 : Int) := of_decide_eq_true (by first | (with_reducible assumption) | assumption)
                  have q151 : x5_1 < (l0.length : Int) := of_decide_eq_true (by first | (with_reducible assumption) | assumption)
                  obtain ⟨ad151, A151_0, c151_0, e151, hx151_0, hl151_0, hi151_0⟩ := at_L1 HR0.out x5_1 p151 q151
                  obtain rfl : ad149 = ad151 := (by injection e151)
                  have HR151_0 := Aside0.mk hi151_0
                  have HC151_0 := Aside0.mk hl151_0
                  clear hi151_0 hl151_0
                  replace p151 := eq_true p151
                  replace q151 := eq_true q151
                  have ea_ := Option.some.inj (hx149_0.symm.trans hx151_0)
                  injection ea_ with ea_ en_ ec_
                  subst ea_
                  subst ec_
                  clear en_
                  go_wp2
                  go_ret
                  exact ⟨by first | rfl | (simp; done) | (simp [*]; done), by repeat (first | exact Drawn0.refl _ | apply Drawn0.step)⟩
                · rw [if_neg c8] at H
                  have c8b0 : decide (5000 < ((rd_L1 l0 x5_1).length : Int)) = false := decide_eq_false c8
                  have c8b1 : decide (5000 < (rd_L1 l0 x5_1).length) = false := decide_eq_false (by omega)
                  clear c8
                  have H' := Aside0.mk H
                  clear H
                  have p149 : 0 ≤ (x5_1 : Int) := of_decide_eq_true (by first | (with_reducible assumption) | assumption)
                  have q149 : x5_1 < (l0.length : Int) := of_decide_eq_true (by first | (with_reducible assumption) | assumption)
                  obtain ⟨ad149, A149_0, c149_0, e149, hx149_0, hl149_0, hi149_0⟩ := at_L1 HR0.out x5_1 p149 q149
                  cases e149
                  have HR149_0 := Aside0.mk hi149_0
                  have HC149_0 := Aside0.mk hl149_0
                  clear hi149_0 hl149_0
                  replace p149 := eq_true p149
                  replace q149 := eq_true q149
                  have p150 : 0 ≤ (x5_1 : Int) := of_decide_eq_true (by first | (with_reducible assumption) | assumption)
                  have q150 : x5_1 < (l0.length : Int) := of_decide_eq_true (by first | (with_reducible assumption) | assumption)
                  obtain ⟨ad150, A150_0, c150_0, e150, hx150_0, hl150_0, hi150_0⟩ := at_L1 HR0.out x5_1 p150 q150
                  obtain rfl : ad149 = ad150 := (by injection e150)
                  have HR150_0 := Aside0.mk hi150_0
                  have HC150_0 := Aside0.mk hl150_0
                  clear hi150_0 hl150_0
                  replace p150 := eq_true p150
                  replace q150 := eq_true q150
                  have ea_ := Option.some.inj (hx149_0.symm.trans hx150_0)
                  injection ea_ with ea_ en_ ec_
                  subst ea_
                  subst ec_
                  clear en_
                  have p151 : 0 ≤ (x5_1 : Int) := of_decide_eq_true (by first | (with_reducible assumption) | assumption)
                  have q151 : x5_1 < (l0.length : Int) := of_decide_eq_true (by first | (with_reducible assumption) | assumption)
                  obtain ⟨ad151, A151_0, c151_0, e151, hx151_0, hl151_0, hi151_0⟩ := at_L1 HR0.out x5_1 p151 q151
                  obtain rfl : ad149 = ad151 := (by injection e151)
                  have HR151_0 := Aside0.mk hi151_0
                  have HC151_0 := Aside0.mk hl151_0
                  clear hi151_0 hl151_0
                  replace p151 := eq_true p151
                  replace q151 := eq_true q151
                  have ea_ := Option.some.inj (hx149_0.symm.trans hx151_0)
                  injection ea_ with ea_ en_ ec_
                  subst ea_
                  subst ec_
                  clear en_
                  go_wp2
                  go_roundg k1
                  case measure => have := HK1.out; omega
                  case rel => exact ⟨(wrap64 (x5_1 + 1)), (by first | rfl | (simp; done) | (simp [*]; done)), H', ⟨by have := HK1.out; omega⟩, by repeat (first | exact Drawn0.refl _ | apply Drawn0.step)⟩
            · rw [if_neg c6] at H
              have c6b0 : decide (200 < ((rd_L1 l0 x5_1).length : Int)) = false := decide_eq_false c6
              have c6b1 : decide (200 < (rd_L1 l0 x5_1).length) = false := decide_eq_false (by omega)
              clear c6
              by_cases c9 : ((rd_L1 l0 x5_1).length : Int) > 5000
              · rw [if_pos c9] at H
                have c9b0 : decide (5000 < ((rd_L1 l0 x5_1).length : Int)) = true := decide_eq_true c9
                have c9b1 : decide (5000 < (rd_L1 l0 x5_1).length) = true := decide_eq_true (by omega)
                clear c9
                obtain rfl := Option.some.inj H
                have p149 : 0 ≤ (x5_1 : Int) := of_decide_eq_true (by first | (with_reducible assumption) | assumption)
                have q149 : x5_1 < (l0.length : Int) := of_decide_eq_true (by first | (with_reducible assumption) | assumption)
                obtain ⟨ad149, A149_0, c149_0, e149, hx149_0, hl149_0, hi149_0⟩ := at_L1 HR0.out x5_1 p149 q149
                cases e149
                have HR149_0 := Aside0.mk hi149_0
                have HC149_0 := Aside0.mk hl149_0
                clear hi149_0 hl149_0
                replace p149 := eq_true p149
                replace q149 := eq_true q149
                have p152 : 0 ≤ (x5_1 : Int) := of_decide_eq_true (by first | (with_reducible assumption) | assumption)
                have q152 : x5_1 < (l0.length : Int) := of_decide_eq_true (by first | (with_reducible assumption) | assumption)
                obtain ⟨ad152, A152_0, c152_0, e152, hx152_0, hl152_0, hi152_0⟩ := at_L1 HR0.out x5_1 p152 q152
                obtain rfl : ad149 = ad152 := (by injection e152)
                have HR152_0 := Aside0.mk hi152_0
                have HC152_0 := Aside0.mk hl152_0
                clear hi152_0 hl152_0
                replace p152 := eq_true p152
                replace q152 := eq_true q152
                have ea_ := Option.some.inj (hx149_0.symm.trans hx152_0)
                injection ea_ with ea_ en_ ec_
                subst ea_
                subst ec_
                clear en_
                go_wp2
                go_ret
                exact ⟨by first | rfl | (simp; done) | (simp [*]; done), by repeat (first | exact Drawn0.refl _ | apply Drawn0.step)⟩
              · rw [if_neg c9] at H
                have c9b0 : decide (5000 < ((rd_L1 l0 x5_1).length : Int)) = false := decide_eq_false c9
                have c9b1 : decide (5000 < (rd_L1 l0 x5_1).length) = false := decide_eq_false (by omega)
                clear c9
                have H' := Aside0.mk H
                clear H
                have p149 : 0 ≤ (x5_1 : Int) := of_decide_eq_true (by first | (with_reducible assumption) | assumption)
                have q149 : x5_1 < (l0.length : Int) := of_decide_eq_true (by first | (with_reducible assumption) | assumption)
                obtain ⟨ad149, A149_0, c149_0, e149, hx149_0, hl149_0, hi149_0⟩ := at_L1 HR0.out x5_1 p149 q149
                cases e149
                have HR149_0 := Aside0.mk hi149_0
                have HC149_0 := Aside0.mk hl149_0
                clear hi149_0 hl149_0
                replace p149 := eq_true p149
                replace q149 := eq_true q149
                have p152 : 0 ≤ (x5_1 : Int) := of_decide_eq_true (by first | (with_reducible assumption) | assumption)
                have q152 : x5_1 < (l0.length : Int) := of_decide_eq_true (by first | (with_reducible assumption) | assumption)
                obtain ⟨ad152, A152_0, c152_0, e152, hx152_0, hl152_0, hi152_0⟩ := at_L1 HR0.out x5_1 p152 q152
                obtain rfl : ad149 = ad152 := (by injection e152)
                have HR152_0 := Aside0.mk hi152_0
                have HC152_0 := Aside0.mk hl152_0
                clear hi152_0 hl152_0
                replace p152 := eq_true p152
                replace q152 := eq_true q152
                have ea_ := Option.some.inj (hx149_0.symm.trans hx152_0)
                injection ea_ with ea_ en_ ec_
                subst ea_
                subst ec_
                clear en_
                go_wp2
                go_roundg k1
                case measure => have := HK1.out; omega
                case rel => exact ⟨(wrap64 (x5_1 + 1)), (by first | rfl | (simp; done) | (simp [*]; done)), H', ⟨by have := HK1.out; omega⟩, by repeat (first | exact Drawn0.refl _ | apply Drawn0.step)⟩
          · rw [if_neg c5] at H
            exact absurd H (by simp)
        · rw [if_neg c4] at H
          have c4b0 : decide (x5_1 < (l0.length : Int)) = false := decide_eq_false c4
          clear c4
          obtain rfl := Option.some.inj H
          go_wp2
          go_ret
          exact ⟨by first | rfl | (simp; done) | (simp [*]; done), by repeat (first | exact Drawn0.refl _ | apply Drawn0.step)⟩
-- NOT PRINTED: function 5 (beadrolllaw13_RowsTrue)
-- NOT PRINTED: function 74 (abi_NoEscape)
-- NOT PRINTED: function 62 (strings_Builder_copyCheck)
-- NOT PRINTED: function 47 (strings_Builder_WriteByte)
-- NOT PRINTED: function 48 (strings_Builder_String)
-- NOT PRINTED: function 28 (sha_Hex)
-- NOT PRINTED: function 26 (beadrolllaw02_alive)
-- NOT PRINTED: function 6 (beadrolllaw02_ShaParts)
-- NOT PRINTED: function 73 (bytealg_IndexByteString)
-- NOT PRINTED: function 61 (stringslite_IndexByte)
-- NOT PRINTED: function 46 (strings_IndexByte)
-- NOT PRINTED: function 27 (sha_Read)
-- NOT PRINTED: function 7 (beadrolllaw02_ShaNames)
-- NOT PRINTED: function 8 (beadrolllaw02_ShaBack)
def beadrollref01_Digits.l0 : Nat → Int → List Int → Int → Option (List Int × Bool)
  | 0, _, _, _ => none
  | k + 1, x0, x6, x7 => if x7 ≥ 0 then (if 0 ≤ x7 then (if x7 < (x6.length : Int) then (beadrollref01_Digits.l0 k (IntKind.u64.wrap (Int.tdiv x0 256)) (x6.set (x7 : Int).toNat ((Int.tmod x0 256) % 256)) (wrap64 (x7 - 1))) else (none)) else (none)) else (some (x6, (x0 == 0)))
def beadrollref01_Digits.f (k : Nat) (a0 : Int) (a1 : Int) : Option (List Int × Bool) := if 0 ≤ a1 then (if (a1 : Int).toNat ≤ 281474976710656 then (beadrollref01_Digits.l0 k a0 (List.replicate (a1 : Int).toNat 0) (wrap64 (a1 - 1))) else (none)) else (none)
theorem beadrollref01_Digits.mono_l : ∀ k, (∀ y0 y1 y2, LeO (beadrollref01_Digits.l0 k y0 y1 y2) (beadrollref01_Digits.l0 (k + 1) y0 y1 y2))
  | 0 => fun _ _ _ r h => by simp [beadrollref01_Digits.l0] at h
  | k + 1 => by
    have ih0 := beadrollref01_Digits.mono_l k
    · intro y0 y1 y2
      unfold beadrollref01_Digits.l0
      repeat' first
      | (with_reducible exact ih0 _ _ _)
      | (with_reducible exact LeO.refl _)
      | (with_reducible exact LeO.none _)
      | (with_reducible refine LeO.ite ?_ ?_)
      | (with_reducible refine LeO.bind ?_ (fun _ => ?_))
      | exact ih0 _ _ _
      | exact LeO.none _
      | refine LeO.ite ?_ ?_
      | refine LeO.bind ?_ (fun _ => ?_)
theorem beadrollref01_Digits.mono : ∀ a0 a1 k, LeO (beadrollref01_Digits.f k a0 a1) (beadrollref01_Digits.f (k + 1) a0 a1) := by
  intro a0 a1 k
  have ih0 := beadrollref01_Digits.mono_l k
  unfold beadrollref01_Digits.f
  repeat' first
      | (with_reducible exact ih0 _ _ _)
      | (with_reducible exact LeO.refl _)
      | (with_reducible exact LeO.none _)
      | (with_reducible refine LeO.ite ?_ ?_)
      | (with_reducible refine LeO.bind ?_ (fun _ => ?_))
      | exact ih0 _ _ _
      | exact LeO.none _
      | refine LeO.ite ?_ ?_
      | refine LeO.bind ?_ (fun _ => ?_)
set_option maxHeartbeats 8000000 in
set_option maxRecDepth 100000 in
theorem beadrollref01_Digits.calls (k : Nat) (a0 : Int) (a1 : Int) (r1 : List Int) (r2 : Bool) (w : World) (h : beadrollref01_Digits.f k a0 a1 = some (r1, r2)) :
    Calls Tryd.prog 77 #[.int .u64 a0, .int .i64 a1] w fun e w' => ∃ v0_ : Value, e = .returned (.tuple #[v0_, .bool r2]) ∧ Kd.R (Kd.int .u8) 5 w' w.heap.size (fun _ => True) v0_ r1 ∧ Below w.heap.size w w' := by
  have HB := Aside0.mk (Below.refl w.heap.size w)
  have H : (if 0 ≤ a1 then (if (a1 : Int).toNat ≤ 281474976710656 then (beadrollref01_Digits.l0 k a0 (List.replicate (a1 : Int).toNat 0) (wrap64 (a1 - 1))) else (none)) else (none)) = some (r1, r2) := h
  clear h
  by_cases c3 : 0 ≤ a1
  · rw [if_pos c3] at H
    have c3b0 := eq_true c3
    have c3b1 : decide (0 ≤ a1) = true := decide_eq_true c3
    clear c3
    by_cases c4 : (a1 : Int).toNat ≤ 281474976710656
    · rw [if_pos c4] at H
      have c4b0 := eq_true c4
      have c4b1 : decide ((a1 : Int).toNat ≤ 281474976710656) = true := decide_eq_true c4
      clear c4
      obtain ⟨y159, hy159⟩ : ∃ y_ : List Int, y_ = (List.replicate (a1 : Int).toNat 0) := ⟨_, rfl⟩
      replace H : (beadrollref01_Digits.l0 k a0 y159 (wrap64 (a1 - 1))) = some (r1, r2) := by first | (rw [hy159]; with_reducible exact H) | (have H2_ := (Option.bind_some _ _).symm.trans H; rw [hy159]; with_reducible exact H2_) | (have H2_ := (Option.bind_some _ _).symm.trans H; with_reducible exact H2_) | with_reducible exact H | (rw [hy159]; exact H) | exact H
      have Ny159 := Aside0.mk hy159
      clear hy159
      have H' := Aside0.mk H
      clear H
      go_enter Tryd.func77, Tryd.ntmps77
      go_wp2_with (first | ((with_reducible refine gate_dst (N := 9) rfl ?_); refine Kd.R_make (Kd.int .u8) _ 5 rfl (N := 9) rfl 22 _ _ rfl a1 rfl rfl Tryd.underlying22 (.int .u8 0) 1 info5 rfl (by decide) (by omega) 0 (ok := fun _ => True) (okp := fun _ => True) rfl (fun _ hk => hk) trivial (of_decide_eq_true (by first | (with_reducible assumption) | assumption)) (Nat.le_trans (Nat.mul_le_mul_right _ (of_decide_eq_true (by first | (with_reducible assumption) | assumption) : a1.toNat ≤ 281474976710656)) (by omega)) (Below.refl _ _) (Nat.le_refl _) ?_; intro v160 w5 ho6 hb hg_ hnew_; clear hg_ hnew_; (first | rw [← Ny159.out] at ho6 | (simp only [Int.reduceToNat] at ho6; rw [← Ny159.out] at ho6)); have n0_ := Aside0.mk (Kd.R_lower ho6 (below_size (by repeat (first | (with_reducible first | exact HB.out | apply below_alloc | apply pw_below_drewN | apply below_drew1) | exact HB.out)))); have n1_ := Aside0.mk (below_step (by repeat (first | (with_reducible first | exact HB.out | apply below_alloc | apply pw_below_drewN | apply below_drew1) | exact HB.out)) hb); clear HB; have HO161 := n0_; have HB := n1_; clear n0_ n1_; clear hb ho6))
      go_loopg [0, 7] k (fun kq v0 v7 w' => ∃ (x0_1 : Int) (x6_1 : List Int) (x7_1 : Int), v0 = .int .u64 x0_1 ∧ v7 = .int .i64 x7_1 ∧ Aside0 (beadrollref01_Digits.l0 kq x0_1 x6_1 x7_1 = some (r1, r2)) ∧ Aside0 (kq ≤ k) ∧ Aside0 (Kd.R (Kd.int .u8) 5 w' w.heap.size (fun _ => True) v160 x6_1) ∧ Aside0 (Below w.heap.size w w'))
      case atStart => exact ⟨(a0), (y159), (wrap64 (a1 - 1)), (by first | rfl | (simp; done) | (simp [*]; done)), (by first | rfl | (simp; done) | (simp [*]; done)), H', ⟨Nat.le_refl _⟩, ⟨by (with_reducible repeat (first | apply Kd.R_alloc | apply Kd.R_drewN | apply Kd.R_drew)); exact HO161.out⟩, ⟨by repeat (first | (with_reducible first | exact HB.out | apply below_alloc | apply pw_below_drewN | apply below_drew1) | exact HB.out)⟩⟩
      case round =>
        clear H'
        try clear p2
        try clear c3
        try clear c3b0
        try clear c3b1
        try clear c4
        try clear c4b0
        try clear c4b1
        try clear p6
        obtain ⟨x0_1, x6_1, x7_1, rfl, rfl, HA, HK1, HO_6, HB⟩ := hrel
        cases gk with
        | zero => exact absurd HA.out (by simp [beadrollref01_Digits.l0])
        | succ k1 =>
          have H := HA.out
          clear HA
          simp only [beadrollref01_Digits.l0] at H
          by_cases c7 : x7_1 ≥ 0
          · rw [if_pos c7] at H
            have c7b0 : decide (0 ≤ x7_1) = true := decide_eq_true c7
            clear c7
            by_cases c8 : 0 ≤ x7_1
            · rw [if_pos c8] at H
              have c8b0 : decide (0 ≤ x7_1) = true := decide_eq_true c8
              clear c8
              by_cases c9 : x7_1 < (x6_1.length : Int)
              · rw [if_pos c9] at H
                have c9b0 : decide (x7_1 < (x6_1.length : Int)) = true := decide_eq_true c9
                clear c9
                obtain ⟨y162, hy162⟩ : ∃ y_ : List Int, y_ = (x6_1.set (x7_1 : Int).toNat ((Int.tmod x0_1 256) % 256)) := ⟨_, rfl⟩
                replace H : (beadrollref01_Digits.l0 k1 (IntKind.u64.wrap (Int.tdiv x0_1 256)) y162 (wrap64 (x7_1 - 1))) = some (r1, r2) := by first | (rw [hy162]; with_reducible exact H) | (have H2_ := (Option.bind_some _ _).symm.trans H; rw [hy162]; with_reducible exact H2_) | (have H2_ := (Option.bind_some _ _).symm.trans H; with_reducible exact H2_) | with_reducible exact H | (rw [hy162]; exact H) | exact H
                have Ny162 := Aside0.mk hy162
                clear hy162
                have H' := Aside0.mk H
                clear H
                have p10 : 0 ≤ (x7_1 : Int) := of_decide_eq_true (by first | (with_reducible assumption) | assumption)
                have q10 : (x7_1 : Int) < ((x6_1.length : Int) : Int) := of_decide_eq_true (by first | (with_reducible assumption) | assumption)
                obtain ⟨go10, co10, eo10, gb10, gl10, cl10, HG10⟩ := Kd.R_form HO_6.out (by omega)
                (first | cases eo10 | (injection eo10 with ea_ en_ ec_; (first | subst ea_ | (injection ea_ with ea_; subst ea_)); subst ec_; clear en_))
                have GB10 := Aside0.mk gb10
                have GG10 := Aside0.mk HG10
                clear gb10 gl10 HG10
                obtain ⟨hx10_0, hf10_0⟩ := Kd.R_celln 0 HO_6.out (x7_1 : Int) p10 q10
                replace p10 := eq_true p10
                replace q10 := eq_true q10
                have HP11 := Kd.R_putg HO_6.out (x7_1 : Int) ((Int.tmod x0_1 256) % 256)
                go_wp2_with (first | ((with_reducible refine gate_store (t := 5) (p := 21) rfl ?_); refine store_event (t := 5) (p := 21) (v := ?vo_w12) (w1 := (wr.setCell ⟨go10, (x7_1 : Int).toNat, none⟩ (.int .u8 ((Int.tmod x0_1 256) % 256)))) ?hg ?ho ?hn ?hr ?_; (case ho => rfl); (case hg => rfl); (case hn => rfl); (case hr => first | (go_simp; done) | (go_simp; rfl)); intro w12 hw; have hg : wr.grownBy w12 (some go10) := (by rw [hw]; exact HP11.2); have hp_ : Kd.R (Kd.int .u8) 5 w12 w.heap.size (fun _ => True) (.slice (some ⟨go10, 0, none⟩) x6_1.length co10) y162 := (by rw [hw, Ny162.out]; exact HP11.1); clear HP11; have n0_ := Aside0.mk (hp_); have n1_ := Aside0.mk ((by rw [hw]; exact below_set (HB.out) GB10.out : Below w.heap.size w w12)); clear HO_6; clear HB; have HO_6 := n0_; have HB := n1_; clear n0_ n1_; clear hg hw hp_))
                go_roundg k1
                case measure => have := HK1.out; omega
                case rel => exact ⟨(IntKind.u64.wrap (Int.tdiv x0_1 256)), (y162), (wrap64 (x7_1 - 1)), (by first | rfl | (simp; done) | (simp [*]; done)), (by first | rfl | (simp; done) | (simp [*]; done)), H', ⟨by have := HK1.out; omega⟩, ⟨by (with_reducible repeat (first | apply Kd.R_alloc | apply Kd.R_drewN | apply Kd.R_drew)); exact HO_6.out⟩, ⟨by repeat (first | (with_reducible first | exact HB.out | apply below_alloc | apply pw_below_drewN | apply below_drew1) | exact HB.out)⟩⟩
              · rw [if_neg c9] at H
                exact absurd H (by simp)
            · rw [if_neg c8] at H
              exact absurd H (by simp)
          · rw [if_neg c7] at H
            have c7b0 : decide (0 ≤ x7_1) = false := decide_eq_false c7
            clear c7
            simp only [Option.some.injEq, Prod.mk.injEq] at H
            obtain ⟨rfl, rfl⟩ := H
            go_wp2
            go_ret2
            exact ⟨_, by first | rfl | (simp [errW_none, errW_some] <;> rfl) | (simp [*, errW_none, errW_some] <;> rfl), by (with_reducible repeat (first | apply Kd.R_alloc | apply Kd.R_drewN | apply Kd.R_drew)); exact HO_6.out, by repeat (first | (with_reducible first | exact HB.out | apply below_alloc | apply pw_below_drewN | apply below_drew1) | exact HB.out)⟩
    · rw [if_neg c4] at H
      exact absurd H (by simp)
  · rw [if_neg c3] at H
    exact absurd H (by simp)
def beadrollref03_Bytes.l0 : Nat → List (List Int) → List Int → Int → Option (List Int)
  | 0, _, _, _ => none
  | k + 1, x1, x5, x6 => if x6 < (x1.length : Int) then (if 0 ≤ x6 then ((beadrollref01_Digits.f k (Int.tmod (IntKind.u64.wrap (((rd_L1 x1 x6).length : Int))) 4294967296) 4).bind fun bt167 => (if x5.length + bt167.1.length < 140737488355328 then ((some (x5 ++ bt167.1 : List Int)).bind fun y171 => (if y171.length + (rd_L1 x1 x6).length < 140737488355328 then (beadrollref03_Bytes.l0 k x1 (y171 ++ (rd_L1 x1 x6)) (wrap64 (x6 + 1))) else (none))) else (none))) else (none)) else (some x5)
def beadrollref03_Bytes.f (k : Nat) (a0 : Int) (l1 : List (List Int)) : Option (List Int) := beadrollref03_Bytes.l0 k l1 (([a0] : List Int)) 0
theorem beadrollref03_Bytes.mono_l : ∀ k, (∀ y0 y1 y2, LeO (beadrollref03_Bytes.l0 k y0 y1 y2) (beadrollref03_Bytes.l0 (k + 1) y0 y1 y2))
  | 0 => fun _ _ _ r h => by simp [beadrollref03_Bytes.l0] at h
  | k + 1 => by
    have ih0 := beadrollref03_Bytes.mono_l k
    · intro y0 y1 y2
      unfold beadrollref03_Bytes.l0
      repeat' first
      | (with_reducible exact ih0 _ _ _)
      | (with_reducible exact beadrollref01_Digits.mono _ _ _)
      | (with_reducible exact LeO.refl _)
      | (with_reducible exact LeO.none _)
      | (with_reducible refine LeO.ite ?_ ?_)
      | (with_reducible refine LeO.bind ?_ (fun _ => ?_))
      | exact ih0 _ _ _
      | exact beadrollref01_Digits.mono _ _ _
      | exact LeO.none _
      | refine LeO.ite ?_ ?_
      | refine LeO.bind ?_ (fun _ => ?_)
theorem beadrollref03_Bytes.mono : ∀ a0 a1 k, LeO (beadrollref03_Bytes.f k a0 a1) (beadrollref03_Bytes.f (k + 1) a0 a1) := by
  intro a0 a1 k
  have ih0 := beadrollref03_Bytes.mono_l k
  unfold beadrollref03_Bytes.f
  repeat' first
      | (with_reducible exact ih0 _ _ _)
      | (with_reducible exact beadrollref01_Digits.mono _ _ _)
      | (with_reducible exact LeO.refl _)
      | (with_reducible exact LeO.none _)
      | (with_reducible refine LeO.ite ?_ ?_)
      | (with_reducible refine LeO.bind ?_ (fun _ => ?_))
      | exact ih0 _ _ _
      | exact beadrollref01_Digits.mono _ _ _
      | exact LeO.none _
      | refine LeO.ite ?_ ?_
      | refine LeO.bind ?_ (fun _ => ?_)
set_option maxHeartbeats 8000000 in
set_option maxRecDepth 100000 in
theorem beadrollref03_Bytes.calls (k : Nat) (a0 : Int) (A1 : Option Addr) (c1 : Nat) (l1 : List (List Int)) (r : List Int) (w : World) (hr1 : Kd.C (Kd.slice 5 (Kd.int .u8)) w A1 l1.length l1) (hc1 : l1.length ≤ c1) (h : beadrollref03_Bytes.f k a0 l1 = some r) :
    Calls Tryd.prog 76 #[.int .u8 a0, .slice A1 l1.length c1] w fun e w' => ∃ v0_ : Value, e = .returned (v0_) ∧ Kd.R (Kd.int .u8) 5 w' w.heap.size (fun _ => True) v0_ r ∧ Below w.heap.size w w' := by
  have HR1 := Aside0.mk hr1
  have HC1 := Aside0.mk hc1
  clear hr1 hc1
  have HB := Aside0.mk (Below.refl w.heap.size w)
  have H : (beadrollref03_Bytes.l0 k l1 (([a0] : List Int)) 0) = some r := h
  clear h
  obtain ⟨y163, hy163⟩ : ∃ y_ : List Int, y_ = (([a0] : List Int)) := ⟨_, rfl⟩
  replace H : (beadrollref03_Bytes.l0 k l1 y163 0) = some r := by first | (rw [hy163]; with_reducible exact H) | (have H2_ := (Option.bind_some _ _).symm.trans H; rw [hy163]; with_reducible exact H2_) | (have H2_ := (Option.bind_some _ _).symm.trans H; with_reducible exact H2_) | with_reducible exact H | (rw [hy163]; exact H) | exact H
  have Ny163 := Aside0.mk hy163
  clear hy163
  have H' := Aside0.mk H
  clear H
  go_enter Tryd.func76, Tryd.ntmps76
  go_wp2_with (first | ((with_reducible refine gate_dst (N := 10) rfl ?_); refine Kd.R_lit (Kd.int .u8) _ 5 ?hg (N := 10) ?hd (xs := ([a0] : List Int)) (inner := [.int .u8 a0]) (ok := fun _ => True) (okp := fun _ => True) ?hr ?hp (fun _ hk => hk) trivial (Below.refl _ _) (Nat.le_refl _) (by simp) ?_; (case hd => rfl); (case hg => rfl); (case hr => first | (go_simp; done) | (go_simp; rfl)); (case hp => exact (Reps.one (show Kd.M (Kd.int .u8) _ _ _ a0 [.int .u8 a0] from rfl) (Reps.none _ _))); intro v164 w3 ho4 hb hg_ hnew_; clear hg_ hnew_; (first | rw [← Ny163.out] at ho4 | (simp only [Int.reduceToNat] at ho4; rw [← Ny163.out] at ho4)); have n0_ := Aside0.mk (Kd.R_lower ho4 (below_size (by repeat (first | (with_reducible first | exact HB.out | apply below_alloc | apply pw_below_drewN | apply below_drew1) | exact HB.out)))); have n1_ := Aside0.mk (below_step (by repeat (first | (with_reducible first | exact HB.out | apply below_alloc | apply pw_below_drewN | apply below_drew1) | exact HB.out)) hb); clear HB; have HO165 := n0_; have HB := n1_; clear n0_ n1_; clear hb ho4))
  go_loopg [5, 6] k (fun kq v5 v6 w' => ∃ (x5_1 : List Int) (x6_1 : Int), v6 = .int .i64 x6_1 ∧ Aside0 (beadrollref03_Bytes.l0 kq l1 x5_1 x6_1 = some r) ∧ Aside0 (kq ≤ k) ∧ Aside0 (Kd.R (Kd.int .u8) 5 w' w.heap.size (fun _ => True) v5 x5_1) ∧ Aside0 (Below w.heap.size w w'))
  case atStart => exact ⟨(y163), (0), (by first | rfl | (simp; done) | (simp [*]; done)), H', ⟨Nat.le_refl _⟩, ⟨by (with_reducible repeat (first | apply Kd.R_alloc | apply Kd.R_drewN | apply Kd.R_drew)); exact HO165.out⟩, ⟨by repeat (first | (with_reducible first | exact HB.out | apply below_alloc | apply pw_below_drewN | apply below_drew1) | exact HB.out)⟩⟩
  case round =>
    clear H'
    try clear c1
    try clear p2
    obtain ⟨x5_1, x6_1, rfl, HA, HK1, HO_5, HB⟩ := hrel
    cases gk with
    | zero => exact absurd HA.out (by simp [beadrollref03_Bytes.l0])
    | succ k1 =>
      have H := HA.out
      clear HA
      simp only [beadrollref03_Bytes.l0] at H
      by_cases c5 : x6_1 < (l1.length : Int)
      · rw [if_pos c5] at H
        have c5b0 : decide (x6_1 < (l1.length : Int)) = true := decide_eq_true c5
        clear c5
        by_cases c6 : 0 ≤ x6_1
        · rw [if_pos c6] at H
          have c6b0 : decide (0 ≤ x6_1) = true := decide_eq_true c6
          clear c6
          replace H := Option.bind_eq_some_iff.mp H
          obtain ⟨⟨t167, t168⟩, A70, H⟩ := H
          replace H : (if x5_1.length + t167.length < 140737488355328 then ((some (x5_1 ++ t167 : List Int)).bind fun y171 => (if y171.length + (rd_L1 l1 x6_1).length < 140737488355328 then (beadrollref03_Bytes.l0 k1 l1 (y171 ++ (rd_L1 l1 x6_1)) (wrap64 (x6_1 + 1))) else (none))) else (none)) = some r := H
          have A7 := Aside0.mk A70
          clear A70
          by_cases c8 : x5_1.length + t167.length < 140737488355328
          · rw [if_pos c8] at H
            have LMc8 := Aside0.mk c8
            clear c8
            obtain ⟨y171, hy171⟩ : ∃ y_ : List Int, y_ = (x5_1 ++ t167) := ⟨_, rfl⟩
            replace H : (if y171.length + (rd_L1 l1 x6_1).length < 140737488355328 then (beadrollref03_Bytes.l0 k1 l1 (y171 ++ (rd_L1 l1 x6_1)) (wrap64 (x6_1 + 1))) else (none)) = some r := by first | (rw [hy171]; with_reducible exact H) | (have H2_ := (Option.bind_some _ _).symm.trans H; rw [hy171]; with_reducible exact H2_) | (have H2_ := (Option.bind_some _ _).symm.trans H; with_reducible exact H2_) | with_reducible exact H | (rw [hy171]; exact H) | exact H
            have Ny171 := Aside0.mk hy171
            clear hy171
            by_cases c9 : y171.length + (rd_L1 l1 x6_1).length < 140737488355328
            · rw [if_pos c9] at H
              have LMc9 := Aside0.mk c9
              clear c9
              obtain ⟨y175, hy175⟩ : ∃ y_ : List Int, y_ = (y171 ++ (rd_L1 l1 x6_1)) := ⟨_, rfl⟩
              replace H : (beadrollref03_Bytes.l0 k1 l1 y175 (wrap64 (x6_1 + 1))) = some r := by first | (rw [hy175]; with_reducible exact H) | (have H2_ := (Option.bind_some _ _).symm.trans H; rw [hy175]; with_reducible exact H2_) | (have H2_ := (Option.bind_some _ _).symm.trans H; with_reducible exact H2_) | with_reducible exact H | (rw [hy175]; exact H) | exact H
              have Ny175 := Aside0.mk hy175
              clear hy175
              have H' := Aside0.mk H
              clear H
              have p166 : 0 ≤ (x6_1 : Int) := of_decide_eq_true (by first | (with_reducible assumption) | assumption)
              have q166 : x6_1 < (l1.length : Int) := of_decide_eq_true (by first | (with_reducible assumption) | assumption)
              obtain ⟨ad166, A166_0, c166_0, e166, hx166_0, hl166_0, hi166_0⟩ := at_L1 HR1.out x6_1 p166 q166
              cases e166
              replace hx166_0 := (HB.out.cell (World.block_lt_of_cell? w _ hx166_0)).trans hx166_0
              have HR166_0 := Aside0.mk hi166_0
              have HC166_0 := Aside0.mk hl166_0
              clear hi166_0 hl166_0
              replace p166 := eq_true p166
              replace q166 := eq_true q166
              go_wp2_with (first | ((with_reducible refine gate_callee (f := 77) rfl ?_); refine goesL_ (some 25) rfl rfl Tryd.func77 (by kernel_rfl) rfl #[.int .u64 (Int.tmod (IntKind.u64.wrap (((rd_L1 l1 x6_1).length : Int))) 4294967296), .int .i64 4] rfl (by (try simp only [List.map_toArray, List.map_cons, List.map_nil]); first | done | rfl | (simp only [List.length_drop, List.length_take]; rfl)) ?_; (with_reducible refine (beadrollref01_Digits.calls k1 (Int.tmod (IntKind.u64.wrap (((rd_L1 l1 x6_1).length : Int))) 4294967296) 4 t167 t168 _ A7.out).mono ?_); rintro e w10 ⟨v169, rfl, ho0, hb⟩; refine ⟨_, rfl, ?_⟩; have n0_ := Aside0.mk (Kd.R_elder' (by (with_reducible repeat (first | apply Kd.R_alloc | apply Kd.R_drewN | apply Kd.R_drew)); exact HO_5.out) (Kd.R_base ho0) hb); have n1_ := Aside0.mk (Kd.R_lower (Kd.R_new' ho0 (Kd.R_lt (by (with_reducible repeat (first | apply Kd.R_alloc | apply Kd.R_drewN | apply Kd.R_drew)); exact HO_5.out))) (below_size (by repeat (first | (with_reducible first | exact HB.out | apply below_alloc | apply pw_below_drewN | apply below_drew1) | exact HB.out)))); have n2_ := Aside0.mk (below_step (by repeat (first | (with_reducible first | exact HB.out | apply below_alloc | apply pw_below_drewN | apply below_drew1) | exact HB.out)) hb); clear HO_5; clear HB; have HO_5 := n0_; have HO170 := n1_; have HB := n2_; clear n0_ n1_ n2_; (try clear hb); (try clear hb2); (try clear hk); (try clear hi); (try clear ho0); obtain ⟨Ao12, co12, eo12⟩ := Kd.R_slice HO170.out; subst eo12) | ((with_reducible refine gate_builtin (b := .append) (xs := #[.tmp 28, .tmp 29]) rfl ?_); at_builtin; refine Kd.R_append_rows (Kd.int .u8) (w0 := w) w.heap.size rfl (.tmp 28) (.tmp 29) 22 5 (.int .u8 0) 1 rfl Tryd.underlying22 info5 rfl (by decide) (by omega) u5 x5_1 t167 _ _ _ (fun k_ => some k_ ≠ (.slice Ao12 t167.length co12 : Value).ownBlock) (fun _ => False) rfl rfl ?aO ?aR (fun _ _ h => h) (fun _ h => h.elim) ?aF ?aB ?aS ?aL ?_; (case aR => repeat (first | exact (Kd.R_reads' HO170.out).2.2 | (with_reducible refine Kd.C_alloc ?_ _) | (with_reducible refine Kd.C_drewN ?_ _) | (with_reducible refine Kd.C_drew ?_))); (case aB => exact (by repeat (first | (with_reducible first | exact HB.out | apply below_alloc | apply pw_below_drewN | apply below_drew1) | exact HB.out))); (case aF => exact (fun k_ hk => Kd.fresh' (Kd.R_lt (by (with_reducible repeat (first | apply Kd.R_alloc | apply Kd.R_drewN | apply Kd.R_drew)); exact HO170.out)) k_ hk)); (case aO => exact (by (with_reducible repeat (first | apply Kd.R_alloc | apply Kd.R_drewN | apply Kd.R_drew)); exact Kd.R_mono HO_5.out (fun _ hk => hk.2))); (case aS => exact (below_size (by repeat (first | (with_reducible first | exact HB.out | apply below_alloc | apply pw_below_drewN | apply below_drew1) | exact HB.out)))); (case aL => have := LMc8.out; omega); intro v172 w11 ho hb hg hat; rw [← Ny171.out] at ho; have n0_ := Aside0.mk (Kd.R_after (ok := (fun _ => True)) (by (with_reducible repeat (first | apply Kd.R_alloc | apply Kd.R_drewN | apply Kd.R_drew)); exact HO170.out) hg hat); have n1_ := Aside0.mk (hb); have n2_ := Aside0.mk (ho); clear HO170; clear HB; clear HO_5; have HO170 := n0_; have HB := n1_; have HO173 := n2_; clear n0_ n1_ n2_; clear ho hb hg hat; have p174 : 0 ≤ (x6_1 : Int) := of_decide_eq_true (by first | (with_reducible assumption) | assumption); have q174 : x6_1 < (l1.length : Int) := of_decide_eq_true (by first | (with_reducible assumption) | assumption); obtain ⟨ad174, A174_0, c174_0, e174, hx174_0, hl174_0, hi174_0⟩ := at_L1 HR1.out x6_1 p174 q174; obtain rfl : ad166 = ad174 := (by injection e174); replace hx174_0 := (HB.out.cell (World.block_lt_of_cell? w _ hx174_0)).trans hx174_0; have HR174_0 := Aside0.mk hi174_0; have HC174_0 := Aside0.mk hl174_0; clear hi174_0 hl174_0; replace p174 := eq_true p174; replace q174 := eq_true q174) | ((with_reducible refine gate_builtin (b := .append) (xs := #[.tmp 31, .tmp 35]) rfl ?_); at_builtin; refine Kd.R_append_rows (Kd.int .u8) (w0 := w) w.heap.size rfl (.tmp 31) (.tmp 35) 22 5 (.int .u8 0) 1 rfl Tryd.underlying22 info5 rfl (by decide) (by omega) v172 y171 (rd_L1 l1 x6_1) _ _ _ (fun k_ => some k_ ≠ (.slice Ao12 t167.length co12 : Value).ownBlock) (fun _ => False) rfl rfl ?aO ?aR (fun _ _ h => h) (fun _ h => h.elim) ?aF ?aB ?aS ?aL ?_; (case aR => repeat (first | exact (Kd.C_below HR174_0.out HB.out) | (with_reducible refine Kd.C_alloc ?_ _) | (with_reducible refine Kd.C_drewN ?_ _) | (with_reducible refine Kd.C_drew ?_))); (case aB => exact (by repeat (first | (with_reducible first | exact HB.out | apply below_alloc | apply pw_below_drewN | apply below_drew1) | exact HB.out))); (case aF => exact (fun k_ hk => Kd.fresh' (Kd.R_lt (by (with_reducible repeat (first | apply Kd.R_alloc | apply Kd.R_drewN | apply Kd.R_drew)); exact HO170.out)) k_ hk)); (case aO => exact (by (with_reducible repeat (first | apply Kd.R_alloc | apply Kd.R_drewN | apply Kd.R_drew)); exact HO173.out)); (case aS => exact (below_size (by repeat (first | (with_reducible first | exact HB.out | apply below_alloc | apply pw_below_drewN | apply below_drew1) | exact HB.out)))); (case aL => have := LMc9.out; omega); intro v176 w13 ho hb hg hat; rw [← Ny175.out] at ho; have n0_ := Aside0.mk (Kd.R_after (ok := (fun _ => True)) (by (with_reducible repeat (first | apply Kd.R_alloc | apply Kd.R_drewN | apply Kd.R_drew)); exact HO170.out) hg hat); have n1_ := Aside0.mk (hb); have n2_ := Aside0.mk (ho); clear HO170; clear HB; clear HO173; have HO170 := n0_; have HB := n1_; have HO177 := n2_; clear n0_ n1_ n2_; clear ho hb hg hat))
              go_roundg k1
              case measure => have := HK1.out; omega
              case rel => exact ⟨(y175), (wrap64 (x6_1 + 1)), (by first | rfl | (simp; done) | (simp [*]; done)), H', ⟨by have := HK1.out; omega⟩, ⟨by (with_reducible repeat (first | apply Kd.R_alloc | apply Kd.R_drewN | apply Kd.R_drew)); exact Kd.R_mono HO177.out (fun _ hk => trivial)⟩, ⟨by repeat (first | (with_reducible first | exact HB.out | apply below_alloc | apply pw_below_drewN | apply below_drew1) | exact HB.out)⟩⟩
            · rw [if_neg c9] at H
              exact absurd H (by simp)
          · rw [if_neg c8] at H
            exact absurd H (by simp)
        · rw [if_neg c6] at H
          exact absurd H (by simp)
      · rw [if_neg c5] at H
        have c5b0 : decide (x6_1 < (l1.length : Int)) = false := decide_eq_false c5
        clear c5
        obtain rfl := Option.some.inj H
        go_wp2
        go_ret
        exact ⟨_, by first | rfl | (simp [errW_none, errW_some] <;> rfl) | (simp [*, errW_none, errW_some] <;> rfl), by (with_reducible repeat (first | apply Kd.R_alloc | apply Kd.R_drewN | apply Kd.R_drew)); exact HO_5.out, by repeat (first | (with_reducible first | exact HB.out | apply below_alloc | apply pw_below_drewN | apply below_drew1) | exact HB.out)⟩
-- NOT PRINTED: function 75 (beadrollref03_Of)
-- NOT PRINTED: function 63 (beadrollref03_One)
end Go.Proofs.YtoaimcobcgomjaaDoor.Q
namespace Go.Proofs.YtoaimcobcgomjaaDoor.Q
open Go.RowKit Go.Proofs.YtoaimcobcgomjaaDoorW.PrintWords Go.Proofs.YtoaimcobcgomjaaDoorW.PrintLast Go.Proofs.YtoaimcobcgomjaaDoorW.PrintMore
attribute [local go_sem] max2_int min2_int max_two min_two max_three min_three max_four min_four   -- for this text's walks alone
set_option linter.unusedVariables false
set_option linter.unusedSimpArgs false
def beadrollref13_First.l0 : Nat → Int → Int → Option (Int)
  | 0, _, _ => none
  | k + 1, x0, x3 => if (wrap64 (2 * x3)) < x0 then (beadrollref13_First.l0 k x0 (wrap64 (2 * x3))) else (some x3)
def beadrollref13_First.f (k : Nat) (a0 : Int) : Option (Int) := beadrollref13_First.l0 k a0 1
theorem beadrollref13_First.mono_l : ∀ k, (∀ y0 y1, LeO (beadrollref13_First.l0 k y0 y1) (beadrollref13_First.l0 (k + 1) y0 y1))
  | 0 => fun _ _ r h => by simp [beadrollref13_First.l0] at h
  | k + 1 => by
    have ih0 := beadrollref13_First.mono_l k
    · intro y0 y1
      unfold beadrollref13_First.l0
      repeat' first
      | (with_reducible exact ih0 _ _)
      | (with_reducible exact LeO.refl _)
      | (with_reducible exact LeO.none _)
      | (with_reducible refine LeO.ite ?_ ?_)
      | (with_reducible refine LeO.bind ?_ (fun _ => ?_))
      | exact ih0 _ _
      | exact LeO.none _
      | refine LeO.ite ?_ ?_
      | refine LeO.bind ?_ (fun _ => ?_)
theorem beadrollref13_First.mono : ∀ a0 k, LeO (beadrollref13_First.f k a0) (beadrollref13_First.f (k + 1) a0) := by
  intro a0 k
  have ih0 := beadrollref13_First.mono_l k
  unfold beadrollref13_First.f
  repeat' first
      | (with_reducible exact ih0 _ _)
      | (with_reducible exact LeO.refl _)
      | (with_reducible exact LeO.none _)
      | (with_reducible refine LeO.ite ?_ ?_)
      | (with_reducible refine LeO.bind ?_ (fun _ => ?_))
      | exact ih0 _ _
      | exact LeO.none _
      | refine LeO.ite ?_ ?_
      | refine LeO.bind ?_ (fun _ => ?_)
set_option maxHeartbeats 8000000 in
set_option maxRecDepth 100000 in
theorem beadrollref13_First.calls (k : Nat) (a0 : Int) (r : Int) (w : World) (h : beadrollref13_First.f k a0 = some r) :
    Calls Tryd.prog 64 #[.int .i64 a0] w fun e w' => e = .returned (.int .i64 r) ∧ Drawn0 w w' := by
  have H : (beadrollref13_First.l0 k a0 1) = some r := h
  clear h
  have H' := Aside0.mk H
  clear H
  go_enter Tryd.func64, Tryd.ntmps64
  go_wp2
  go_loopg [3] k (fun kq v3 w' => ∃ (x3_1 : Int), v3 = .int .i64 x3_1 ∧ Aside0 (beadrollref13_First.l0 kq a0 x3_1 = some r) ∧ Aside0 (kq ≤ k) ∧ Drawn0 w w')
  case atStart => exact ⟨(1), (by first | rfl | (simp; done) | (simp [*]; done)), H', ⟨Nat.le_refl _⟩, by repeat (first | exact Drawn0.refl _ | apply Drawn0.step)⟩
  case round =>
    clear H'
    obtain ⟨x3_1, rfl, HA, HK1, ⟨m1, rfl⟩⟩ := hrel
    cases gk with
    | zero => exact absurd HA.out (by simp [beadrollref13_First.l0])
    | succ k1 =>
      have H := HA.out
      clear HA
      simp only [beadrollref13_First.l0] at H
      by_cases c2 : (wrap64 (2 * x3_1)) < a0
      · rw [if_pos c2] at H
        have c2b0 : decide ((wrap64 (2 * x3_1)) < a0) = true := decide_eq_true c2
        clear c2
        have H' := Aside0.mk H
        clear H
        go_wp2
        go_roundg k1
        case measure => have := HK1.out; omega
        case rel => exact ⟨(wrap64 (2 * x3_1)), (by first | rfl | (simp; done) | (simp [*]; done)), H', ⟨by have := HK1.out; omega⟩, by repeat (first | exact Drawn0.refl _ | apply Drawn0.step)⟩
      · rw [if_neg c2] at H
        have c2b0 : decide ((wrap64 (2 * x3_1)) < a0) = false := decide_eq_false c2
        clear c2
        obtain rfl := Option.some.inj H
        go_wp2
        go_ret
        exact ⟨by first | rfl | (simp; done) | (simp [*]; done), by repeat (first | exact Drawn0.refl _ | apply Drawn0.step)⟩
-- NOT PRINTED: function 65 (beadrollref03_Two)
-- NOT PRINTED: function 49 (beadrollref13_made)
-- NOT PRINTED: function 29 (beadrollref13_Fits)
-- NOT PRINTED: function 9 (beadrolllaw13_RowsFit)
-- NOT PRINTED: function 10 (beadrolllaw13_RowsJoin)
def beadrollref13_Twin.l0 : Nat → List (List Int) → List (List Int) → Int → Option ((List (List Int)))
  | 0, _, _, _ => none
  | k + 1, x0, x3, x4 => if x4 < (x0.length : Int) then (if 0 ≤ x4 then (if ([] : List Int).length + (rd_L1 x0 x4).length < 140737488355328 then (if x3.length < 5864062014805 then (beadrollref13_Twin.l0 k x0 (x3 ++ [(([] : List Int) ++ (rd_L1 x0 x4))]) (wrap64 (x4 + 1))) else (none)) else (none)) else (none)) else (some x3)
def beadrollref13_Twin.f (k : Nat) (l0 : List (List Int)) : Option ((List (List Int))) := beadrollref13_Twin.l0 k l0 ([] : List (List Int)) 0
theorem beadrollref13_Twin.mono_l : ∀ k, (∀ y0 y1 y2, LeO (beadrollref13_Twin.l0 k y0 y1 y2) (beadrollref13_Twin.l0 (k + 1) y0 y1 y2))
  | 0 => fun _ _ _ r h => by simp [beadrollref13_Twin.l0] at h
  | k + 1 => by
    have ih0 := beadrollref13_Twin.mono_l k
    · intro y0 y1 y2
      unfold beadrollref13_Twin.l0
      repeat' first
      | (with_reducible exact ih0 _ _ _)
      | (with_reducible exact LeO.refl _)
      | (with_reducible exact LeO.none _)
      | (with_reducible refine LeO.ite ?_ ?_)
      | (with_reducible refine LeO.bind ?_ (fun _ => ?_))
      | exact ih0 _ _ _
      | exact LeO.none _
      | refine LeO.ite ?_ ?_
      | refine LeO.bind ?_ (fun _ => ?_)
theorem beadrollref13_Twin.mono : ∀ a0 k, LeO (beadrollref13_Twin.f k a0) (beadrollref13_Twin.f (k + 1) a0) := by
  intro a0 k
  have ih0 := beadrollref13_Twin.mono_l k
  unfold beadrollref13_Twin.f
  repeat' first
      | (with_reducible exact ih0 _ _ _)
      | (with_reducible exact LeO.refl _)
      | (with_reducible exact LeO.none _)
      | (with_reducible refine LeO.ite ?_ ?_)
      | (with_reducible refine LeO.bind ?_ (fun _ => ?_))
      | exact ih0 _ _ _
      | exact LeO.none _
      | refine LeO.ite ?_ ?_
      | refine LeO.bind ?_ (fun _ => ?_)
set_option maxHeartbeats 8000000 in
set_option maxRecDepth 100000 in
theorem beadrollref13_Twin.calls (k : Nat) (A0 : Option Addr) (c0 : Nat) (l0 : List (List Int)) (r : List (List Int)) (w : World) (hr0 : Kd.C (Kd.slice 5 (Kd.int .u8)) w A0 l0.length l0) (hc0 : l0.length ≤ c0) (h : beadrollref13_Twin.f k l0 = some r) :
    Calls Tryd.prog 30 #[.slice A0 l0.length c0] w fun e w' => ∃ v0_ : Value, e = .returned (v0_) ∧ Kd.S (Kd.slice 5 (Kd.int .u8)) 22 w' w.heap.size (fun _ => True) v0_ r ∧ Below w.heap.size w w' := by
  have HR0 := Aside0.mk hr0
  have HC0 := Aside0.mk hc0
  clear hr0 hc0
  have HB := Aside0.mk (Below.refl w.heap.size w)
  have H : (beadrollref13_Twin.l0 k l0 ([] : List (List Int)) 0) = some r := h
  clear h
  have H' := Aside0.mk H
  clear H
  go_enter Tryd.func30, Tryd.ntmps30
  go_wp2
  go_loopg [3, 4] k (fun kq v3 v4 w' => ∃ (x3_1 : List (List Int)) (x4_1 : Int), v4 = .int .i64 x4_1 ∧ Aside0 (beadrollref13_Twin.l0 kq l0 x3_1 x4_1 = some r) ∧ Aside0 (kq ≤ k) ∧ Aside0 (Kd.S (Kd.slice 5 (Kd.int .u8)) 22 w' w.heap.size (fun _ => True) v3 x3_1) ∧ Aside0 (Below w.heap.size w w'))
  case atStart => exact ⟨(([] : List (List Int))), (0), (by first | rfl | (simp; done) | (simp [*]; done)), H', ⟨Nat.le_refl _⟩, ⟨by first | exact Kd.S_nil _ _ _ _ _ | exact Kd.N_nil _ _ _ _ _ | exact Kd.V_nil _ _ _ _ _ | exact Kd.Q_nil _ _ _ _ _ | exact Kd.R_nil _ _ _ _ _⟩, ⟨by repeat (first | (with_reducible first | exact HB.out | apply below_alloc | apply pw_below_drewN | apply below_drew1) | exact HB.out)⟩⟩
  case round =>
    clear H'
    obtain ⟨x3_1, x4_1, rfl, HA, HK1, HO_3, HB⟩ := hrel
    cases gk with
    | zero => exact absurd HA.out (by simp [beadrollref13_Twin.l0])
    | succ k1 =>
      have H := HA.out
      clear HA
      simp only [beadrollref13_Twin.l0] at H
      by_cases c2 : x4_1 < (l0.length : Int)
      · rw [if_pos c2] at H
        have c2b0 : decide (x4_1 < (l0.length : Int)) = true := decide_eq_true c2
        clear c2
        by_cases c3 : 0 ≤ x4_1
        · rw [if_pos c3] at H
          have c3b0 : decide (0 ≤ x4_1) = true := decide_eq_true c3
          clear c3
          by_cases c4 : ([] : List Int).length + (rd_L1 l0 x4_1).length < 140737488355328
          · rw [if_pos c4] at H
            have LMc4 := Aside0.mk c4
            clear c4
            obtain ⟨y179, hy179⟩ : ∃ y_ : List Int, y_ = (([] : List Int) ++ (rd_L1 l0 x4_1)) := ⟨_, rfl⟩
            replace H : (if x3_1.length < 5864062014805 then (beadrollref13_Twin.l0 k1 l0 (x3_1 ++ [y179]) (wrap64 (x4_1 + 1))) else (none)) = some r := by first | (rw [hy179]; with_reducible exact H) | (have H2_ := (Option.bind_some _ _).symm.trans H; rw [hy179]; with_reducible exact H2_) | (have H2_ := (Option.bind_some _ _).symm.trans H; with_reducible exact H2_) | with_reducible exact H | (rw [hy179]; exact H) | exact H
            have Ny179 := Aside0.mk hy179
            clear hy179
            by_cases c5 : x3_1.length < 5864062014805
            · rw [if_pos c5] at H
              have LMc5 := Aside0.mk c5
              clear c5
              obtain ⟨y182, hy182⟩ : ∃ y_ : List (List Int), y_ = (x3_1 ++ [y179]) := ⟨_, rfl⟩
              replace H : (beadrollref13_Twin.l0 k1 l0 y182 (wrap64 (x4_1 + 1))) = some r := by first | (rw [hy182]; with_reducible exact H) | (have H2_ := (Option.bind_some _ _).symm.trans H; rw [hy182]; with_reducible exact H2_) | (have H2_ := (Option.bind_some _ _).symm.trans H; with_reducible exact H2_) | with_reducible exact H | (rw [hy182]; exact H) | exact H
              have Ny182 := Aside0.mk hy182
              clear hy182
              have H' := Aside0.mk H
              clear H
              have p178 : 0 ≤ (x4_1 : Int) := of_decide_eq_true (by first | (with_reducible assumption) | assumption)
              have q178 : x4_1 < (l0.length : Int) := of_decide_eq_true (by first | (with_reducible assumption) | assumption)
              obtain ⟨ad178, A178_0, c178_0, e178, hx178_0, hl178_0, hi178_0⟩ := at_L1 HR0.out x4_1 p178 q178
              cases e178
              replace hx178_0 := (HB.out.cell (World.block_lt_of_cell? w _ hx178_0)).trans hx178_0
              have HR178_0 := Aside0.mk hi178_0
              have HC178_0 := Aside0.mk hl178_0
              clear hi178_0 hl178_0
              replace p178 := eq_true p178
              replace q178 := eq_true q178
              go_wp2_with (first | ((with_reducible refine gate_builtin (b := .append) (xs := #[.tmp 13, .tmp 17]) rfl ?_); at_builtin; refine Kd.R_append_rows (Kd.int .u8) (w0 := w) w.heap.size rfl (.tmp 13) (.tmp 17) 22 5 (.int .u8 0) 1 rfl Tryd.underlying22 info5 rfl (by decide) (by omega) (.slice none 0 0) ([] : List Int) (rd_L1 l0 x4_1) _ _ _ (fun _ => True) (fun _ => False) rfl rfl ?aO ?aR (fun _ _ h => h) (fun _ h => h.elim) ?aF ?aB ?aS ?aL ?_; (case aR => repeat (first | exact (Kd.C_below HR178_0.out HB.out) | (with_reducible refine Kd.C_alloc ?_ _) | (with_reducible refine Kd.C_drewN ?_ _) | (with_reducible refine Kd.C_drew ?_))); (case aB => exact (by repeat (first | (with_reducible first | exact HB.out | apply below_alloc | apply pw_below_drewN | apply below_drew1) | exact HB.out))); (case aF => exact (fun _ _ => trivial)); (case aO => exact ((Kd.R_nil _ _ _ _ (fun _ => True)))); (case aS => exact (below_size (by repeat (first | (with_reducible first | exact HB.out | apply below_alloc | apply pw_below_drewN | apply below_drew1) | exact HB.out)))); (case aL => have := LMc4.out; omega); intro v180 w6 ho hb hg hat; rw [← Ny179.out] at ho; have n0_ := Aside0.mk (Kd.S_after (Kd.S_apart_nil (by (with_reducible repeat (first | apply Kd.S_alloc | apply Kd.S_drewN | apply Kd.S_drew)); exact HO_3.out)) hg hat); have n1_ := Aside0.mk (hb); have n2_ := Aside0.mk (ho); clear HO_3; clear HB; have HO_3 := n0_; have HB := n1_; have HO181 := n2_; clear n0_ n1_ n2_; clear ho hb hg hat; obtain ⟨Ao8, co8, eo8⟩ := Kd.R_slice HO181.out; subst eo8) | ((with_reducible refine gate_builtin (b := .append) (xs := #[.tmp 12, .tmp 19]) rfl ?_); at_builtin; refine Kd.S_append (Kd.slice 5 (Kd.int .u8)) (w0 := w) w.heap.size rfl (.tmp 12) (.tmp 19) 29 22 (.slice none 0 0) 24 rfl Tryd.underlying29 info22 rfl (by decide) (by omega) u3 x3_1 y179 [.slice Ao8 y179.length co8] (fun _ => True) (fun k_ => some k_ = (.slice Ao8 y179.length co8 : Value).ownBlock) rfl rfl ?aP (fun k_ hk_ => ((Kd.R_mono (ok' := fun k_ => ((fun _ => True)) k_ ∧ some k_ ≠ (u3 : Value).ownBlock) (Kd.R_apart' (HO181.out) (Kd.S_typed HO_3.out) (by decide)) (fun k_ hk => ⟨trivial, hk.2⟩))).1 k_ hk_.symm) ?aF ?aO ?aB ?aS ?aL ?_; (case aP => exact Kd.M_row (Kd.R_mono (Kd.R_tight rfl (Kd.R_mono (ok' := fun k_ => ((fun _ => True)) k_ ∧ some k_ ≠ (u3 : Value).ownBlock) (Kd.R_apart' (HO181.out) (Kd.S_typed HO_3.out) (by decide)) (fun k_ hk => ⟨trivial, hk.2⟩))) (fun _ h_ => h_))); (case aB => exact (by repeat (first | (with_reducible first | exact HB.out | apply below_alloc | apply pw_below_drewN | apply below_drew1) | exact HB.out))); (case aF => exact (fun _ _ => trivial)); (case aO => exact (by (with_reducible repeat (first | apply Kd.S_alloc | apply Kd.S_drewN | apply Kd.S_drew)); exact Kd.S_mono HO_3.out (fun k_ hk => ⟨trivial, fun e_ => hk.2 e_⟩))); (case aS => exact (below_size (by repeat (first | (with_reducible first | exact HB.out | apply below_alloc | apply pw_below_drewN | apply below_drew1) | exact HB.out)))); (case aL => have := LMc5.out; omega); intro v183 w7 ho hb hg hat; rw [← Ny182.out] at ho; have n0_ := Aside0.mk (hb); have n1_ := Aside0.mk (ho); clear HB; clear HO_3; clear HO181; have HB := n0_; have HO184 := n1_; clear n0_ n1_; clear ho hb hg hat))
              go_roundg k1
              case measure => have := HK1.out; omega
              case rel => exact ⟨(y182), (wrap64 (x4_1 + 1)), (by first | rfl | (simp; done) | (simp [*]; done)), H', ⟨by have := HK1.out; omega⟩, ⟨by (with_reducible repeat (first | apply Kd.S_alloc | apply Kd.S_drewN | apply Kd.S_drew)); exact HO184.out⟩, ⟨by repeat (first | (with_reducible first | exact HB.out | apply below_alloc | apply pw_below_drewN | apply below_drew1) | exact HB.out)⟩⟩
            · rw [if_neg c5] at H
              exact absurd H (by simp)
          · rw [if_neg c4] at H
            exact absurd H (by simp)
        · rw [if_neg c3] at H
          exact absurd H (by simp)
      · rw [if_neg c2] at H
        have c2b0 : decide (x4_1 < (l0.length : Int)) = false := decide_eq_false c2
        clear c2
        obtain rfl := Option.some.inj H
        go_wp2
        go_ret
        exact ⟨_, by first | rfl | (simp [errW_none, errW_some] <;> rfl) | (simp [*, errW_none, errW_some] <;> rfl), by (with_reducible repeat (first | apply Kd.S_alloc | apply Kd.S_drewN | apply Kd.S_drew)); exact HO_3.out, by repeat (first | (with_reducible first | exact HB.out | apply below_alloc | apply pw_below_drewN | apply below_drew1) | exact HB.out)⟩
def beadrollref13_May.l0 : Nat → List (List Int) → Int → Option (Bool)
  | 0, _, _ => none
  | k + 1, x0, x3 => if x3 < (x0.length : Int) then (if 0 ≤ x3 then (if ((rd_L1 x0 x3).length : Int) > 4096 then (some false) else (beadrollref13_May.l0 k x0 (wrap64 (x3 + 1)))) else (none)) else (some true)
def beadrollref13_May.f (k : Nat) (l0 : List (List Int)) : Option (Bool) := if (l0.length : Int) > 256 then (some false) else (beadrollref13_May.l0 k l0 0)
theorem beadrollref13_May.mono_l : ∀ k, (∀ y0 y1, LeO (beadrollref13_May.l0 k y0 y1) (beadrollref13_May.l0 (k + 1) y0 y1))
  | 0 => fun _ _ r h => by simp [beadrollref13_May.l0] at h
  | k + 1 => by
    have ih0 := beadrollref13_May.mono_l k
    · intro y0 y1
      unfold beadrollref13_May.l0
      repeat' first
      | (with_reducible exact ih0 _ _)
      | (with_reducible exact LeO.refl _)
      | (with_reducible exact LeO.none _)
      | (with_reducible refine LeO.ite ?_ ?_)
      | (with_reducible refine LeO.bind ?_ (fun _ => ?_))
      | exact ih0 _ _
      | exact LeO.none _
      | refine LeO.ite ?_ ?_
      | refine LeO.bind ?_ (fun _ => ?_)
theorem beadrollref13_May.mono : ∀ a0 k, LeO (beadrollref13_May.f k a0) (beadrollref13_May.f (k + 1) a0) := by
  intro a0 k
  have ih0 := beadrollref13_May.mono_l k
  unfold beadrollref13_May.f
  repeat' first
      | (with_reducible exact ih0 _ _)
      | (with_reducible exact LeO.refl _)
      | (with_reducible exact LeO.none _)
      | (with_reducible refine LeO.ite ?_ ?_)
      | (with_reducible refine LeO.bind ?_ (fun _ => ?_))
      | exact ih0 _ _
      | exact LeO.none _
      | refine LeO.ite ?_ ?_
      | refine LeO.bind ?_ (fun _ => ?_)
set_option maxHeartbeats 8000000 in
set_option maxRecDepth 100000 in
theorem beadrollref13_May.calls (k : Nat) (A0 : Option Addr) (c0 : Nat) (l0 : List (List Int)) (r : Bool) (w : World) (hr0 : Kd.C (Kd.slice 5 (Kd.int .u8)) w A0 l0.length l0) (hc0 : l0.length ≤ c0) (h : beadrollref13_May.f k l0 = some r) :
    Calls Tryd.prog 50 #[.slice A0 l0.length c0] w fun e w' => e = .returned (.bool r) ∧ Drawn0 w w' := by
  have HR0 := Aside0.mk hr0
  have HC0 := Aside0.mk hc0
  clear hr0 hc0
  have H : (if (l0.length : Int) > 256 then (some false) else (beadrollref13_May.l0 k l0 0)) = some r := h
  clear h
  by_cases c2 : (l0.length : Int) > 256
  · rw [if_pos c2] at H
    have c2b0 : decide (256 < (l0.length : Int)) = true := decide_eq_true c2
    have c2b1 : decide (256 < l0.length) = true := decide_eq_true (by omega)
    clear c2
    obtain rfl := Option.some.inj H
    go_enter Tryd.func50, Tryd.ntmps50
    go_wp2
    go_ret
    exact ⟨by first | rfl | (simp; done) | (simp [*]; done), by repeat (first | exact Drawn0.refl _ | apply Drawn0.step)⟩
  · rw [if_neg c2] at H
    have c2b0 : decide (256 < (l0.length : Int)) = false := decide_eq_false c2
    have c2b1 : decide (256 < l0.length) = false := decide_eq_false (by omega)
    clear c2
    have H' := Aside0.mk H
    clear H
    go_enter Tryd.func50, Tryd.ntmps50
    go_wp2
    go_loopg [3] k (fun kq v3 w' => ∃ (x3_1 : Int), v3 = .int .i64 x3_1 ∧ Aside0 (beadrollref13_May.l0 kq l0 x3_1 = some r) ∧ Aside0 (kq ≤ k) ∧ Drawn0 w w')
    case atStart => exact ⟨(0), (by first | rfl | (simp; done) | (simp [*]; done)), H', ⟨Nat.le_refl _⟩, by repeat (first | exact Drawn0.refl _ | apply Drawn0.step)⟩
    case round =>
      clear H'
      try clear c2
      try clear c2b0
      try clear c2b1
      try clear p2
      obtain ⟨x3_1, rfl, HA, HK1, ⟨m1, rfl⟩⟩ := hrel
      cases gk with
      | zero => exact absurd HA.out (by simp [beadrollref13_May.l0])
      | succ k1 =>
        have H := HA.out
        clear HA
        simp only [beadrollref13_May.l0] at H
        by_cases c3 : x3_1 < (l0.length : Int)
        · rw [if_pos c3] at H
          have c3b0 : decide (x3_1 < (l0.length : Int)) = true := decide_eq_true c3
          clear c3
          by_cases c4 : 0 ≤ x3_1
          · rw [if_pos c4] at H
            have c4b0 : decide (0 ≤ x3_1) = true := decide_eq_true c4
            clear c4
            by_cases c5 : ((rd_L1 l0 x3_1).length : Int) > 4096
            · rw [if_pos c5] at H
              have c5b0 : decide (4096 < ((rd_L1 l0 x3_1).length : Int)) = true := decide_eq_true c5
              have c5b1 : decide (4096 < (rd_L1 l0 x3_1).length) = true := decide_eq_true (by omega)
              clear c5
              obtain rfl := Option.some.inj H
              have p185 : 0 ≤ (x3_1 : Int) := of_decide_eq_true (by first | (with_reducible assumption) | assumption)
              have q185 : x3_1 < (l0.length : Int) := of_decide_eq_true (by first | (with_reducible assumption) | assumption)
              obtain ⟨ad185, A185_0, c185_0, e185, hx185_0, hl185_0, hi185_0⟩ := at_L1 HR0.out x3_1 p185 q185
              cases e185
              have HR185_0 := Aside0.mk hi185_0
              have HC185_0 := Aside0.mk hl185_0
              clear hi185_0 hl185_0
              replace p185 := eq_true p185
              replace q185 := eq_true q185
              go_wp2
              go_ret
              exact ⟨by first | rfl | (simp; done) | (simp [*]; done), by repeat (first | exact Drawn0.refl _ | apply Drawn0.step)⟩
            · rw [if_neg c5] at H
              have c5b0 : decide (4096 < ((rd_L1 l0 x3_1).length : Int)) = false := decide_eq_false c5
              have c5b1 : decide (4096 < (rd_L1 l0 x3_1).length) = false := decide_eq_false (by omega)
              clear c5
              have H' := Aside0.mk H
              clear H
              have p185 : 0 ≤ (x3_1 : Int) := of_decide_eq_true (by first | (with_reducible assumption) | assumption)
              have q185 : x3_1 < (l0.length : Int) := of_decide_eq_true (by first | (with_reducible assumption) | assumption)
              obtain ⟨ad185, A185_0, c185_0, e185, hx185_0, hl185_0, hi185_0⟩ := at_L1 HR0.out x3_1 p185 q185
              cases e185
              have HR185_0 := Aside0.mk hi185_0
              have HC185_0 := Aside0.mk hl185_0
              clear hi185_0 hl185_0
              replace p185 := eq_true p185
              replace q185 := eq_true q185
              go_wp2
              go_roundg k1
              case measure => have := HK1.out; omega
              case rel => exact ⟨(wrap64 (x3_1 + 1)), (by first | rfl | (simp; done) | (simp [*]; done)), H', ⟨by have := HK1.out; omega⟩, by repeat (first | exact Drawn0.refl _ | apply Drawn0.step)⟩
          · rw [if_neg c4] at H
            exact absurd H (by simp)
        · rw [if_neg c3] at H
          have c3b0 : decide (x3_1 < (l0.length : Int)) = false := decide_eq_false c3
          clear c3
          obtain rfl := Option.some.inj H
          go_wp2
          go_ret
          exact ⟨by first | rfl | (simp; done) | (simp [*]; done), by repeat (first | exact Drawn0.refl _ | apply Drawn0.step)⟩
-- NOT PRINTED: function 66 (beadrollref03_None)
-- NOT PRINTED: function 51 (beadrollref13_Of)
-- NOT PRINTED: function 31 (beadrollref13_Root)
-- NOT PRINTED: function 52 (beadrollref13_Beside)
-- NOT PRINTED: function 32 (beadrollref13_Sides)
def beadrollref03_Same.l0 : Nat → List (List Int) → List (List Int) → Int → Option (Bool)
  | 0, _, _, _ => none
  | k + 1, x0, x1, x5 => if x5 < (x0.length : Int) then (if 0 ≤ x5 then (if x5 < (x1.length : Int) then ((beadrollref01_Same.f (rd_L1 x0 x5) (rd_L1 x1 x5)).bind fun t188 => (if t188 = true then (beadrollref03_Same.l0 k x0 x1 (wrap64 (x5 + 1))) else (some false))) else (none)) else (none)) else (some true)
def beadrollref03_Same.f (k : Nat) (l0 : List (List Int)) (l1 : List (List Int)) : Option (Bool) := if (l0.length : Int) = (l1.length : Int) then (beadrollref03_Same.l0 k l0 l1 0) else (some false)
theorem beadrollref03_Same.mono_l : ∀ k, (∀ y0 y1 y2, LeO (beadrollref03_Same.l0 k y0 y1 y2) (beadrollref03_Same.l0 (k + 1) y0 y1 y2))
  | 0 => fun _ _ _ r h => by simp [beadrollref03_Same.l0] at h
  | k + 1 => by
    have ih0 := beadrollref03_Same.mono_l k
    · intro y0 y1 y2
      unfold beadrollref03_Same.l0
      repeat' first
      | (with_reducible exact ih0 _ _ _)
      | (with_reducible exact LeO.refl _)
      | (with_reducible exact LeO.none _)
      | (with_reducible refine LeO.ite ?_ ?_)
      | (with_reducible refine LeO.bind ?_ (fun _ => ?_))
      | exact ih0 _ _ _
      | exact LeO.none _
      | refine LeO.ite ?_ ?_
      | refine LeO.bind ?_ (fun _ => ?_)
theorem beadrollref03_Same.mono : ∀ a0 a1 k, LeO (beadrollref03_Same.f k a0 a1) (beadrollref03_Same.f (k + 1) a0 a1) := by
  intro a0 a1 k
  have ih0 := beadrollref03_Same.mono_l k
  unfold beadrollref03_Same.f
  repeat' first
      | (with_reducible exact ih0 _ _ _)
      | (with_reducible exact LeO.refl _)
      | (with_reducible exact LeO.none _)
      | (with_reducible refine LeO.ite ?_ ?_)
      | (with_reducible refine LeO.bind ?_ (fun _ => ?_))
      | exact ih0 _ _ _
      | exact LeO.none _
      | refine LeO.ite ?_ ?_
      | refine LeO.bind ?_ (fun _ => ?_)
set_option maxHeartbeats 8000000 in
set_option maxRecDepth 100000 in
theorem beadrollref03_Same.calls (k : Nat) (A0 : Option Addr) (c0 : Nat) (l0 : List (List Int)) (A1 : Option Addr) (c1 : Nat) (l1 : List (List Int)) (r : Bool) (w : World) (hr0 : Kd.C (Kd.slice 5 (Kd.int .u8)) w A0 l0.length l0) (hc0 : l0.length ≤ c0) (hr1 : Kd.C (Kd.slice 5 (Kd.int .u8)) w A1 l1.length l1) (hc1 : l1.length ≤ c1) (h : beadrollref03_Same.f k l0 l1 = some r) :
    Calls Tryd.prog 33 #[.slice A0 l0.length c0, .slice A1 l1.length c1] w fun e w' => e = .returned (.bool r) ∧ Drawn0 w w' := by
  have HR0 := Aside0.mk hr0
  have HC0 := Aside0.mk hc0
  clear hr0 hc0
  have HR1 := Aside0.mk hr1
  have HC1 := Aside0.mk hc1
  clear hr1 hc1
  have H : (if (l0.length : Int) = (l1.length : Int) then (beadrollref03_Same.l0 k l0 l1 0) else (some false)) = some r := h
  clear h
  by_cases c3 : (l0.length : Int) = (l1.length : Int)
  · rw [if_pos c3] at H
    have c3b0 : ((l0.length : Int) == (l1.length : Int)) = true := beq_iff_eq.mpr c3
    have c3b1 : ((l0.length : Int) != (l1.length : Int)) = false := bne_eq_false_iff_eq.mpr c3
    have c3b2 : (l0.length == l1.length) = true := by first | simpa using c3 | (simp at c3 ⊢; omega)
    clear c3
    have H' := Aside0.mk H
    clear H
    go_enter Tryd.func33, Tryd.ntmps33
    go_wp2
    repeat (go_quiet (fail); try go_wp2)
    go_loopg [5] k (fun kq v5 w' => ∃ (x5_1 : Int), v5 = .int .i64 x5_1 ∧ Aside0 (beadrollref03_Same.l0 kq l0 l1 x5_1 = some r) ∧ Aside0 (kq ≤ k) ∧ Drawn0 w w')
    case atStart => exact ⟨(0), (by first | rfl | (simp; done) | (simp [*]; done)), H', ⟨Nat.le_refl _⟩, by repeat (first | exact Drawn0.refl _ | apply Drawn0.step)⟩
    case round =>
      clear H'
      try clear c1
      try clear p2
      try clear c3
      try clear c3b0
      try clear c3b1
      try clear c3b2
      obtain ⟨x5_1, rfl, HA, HK1, ⟨m1, rfl⟩⟩ := hrel
      cases gk with
      | zero => exact absurd HA.out (by simp [beadrollref03_Same.l0])
      | succ k1 =>
        have H := HA.out
        clear HA
        simp only [beadrollref03_Same.l0] at H
        by_cases c4 : x5_1 < (l0.length : Int)
        · rw [if_pos c4] at H
          have c4b0 : decide (x5_1 < (l0.length : Int)) = true := decide_eq_true c4
          clear c4
          by_cases c5 : 0 ≤ x5_1
          · rw [if_pos c5] at H
            have c5b0 : decide (0 ≤ x5_1) = true := decide_eq_true c5
            clear c5
            by_cases c6 : x5_1 < (l1.length : Int)
            · rw [if_pos c6] at H
              have c6b0 : decide (x5_1 < (l1.length : Int)) = true := decide_eq_true c6
              clear c6
              replace H := Option.bind_eq_some_iff.mp H
              obtain ⟨t188, A70, H⟩ := H
              replace H : (if t188 = true then (beadrollref03_Same.l0 k1 l0 l1 (wrap64 (x5_1 + 1))) else (some false)) = some r := H
              have A7 := Aside0.mk A70
              clear A70
              by_cases c8 : t188 = true
              · subst c8
                have H1 : (beadrollref03_Same.l0 k1 l0 l1 (wrap64 (x5_1 + 1))) = some r := by rw [if_pos rfl] at H; exact H
                clear H
                have H := H1
                clear H1
                have H' := Aside0.mk H
                clear H
                have p186 : 0 ≤ (x5_1 : Int) := of_decide_eq_true (by first | (with_reducible assumption) | assumption)
                have q186 : x5_1 < (l0.length : Int) := of_decide_eq_true (by first | (with_reducible assumption) | assumption)
                obtain ⟨ad186, A186_0, c186_0, e186, hx186_0, hl186_0, hi186_0⟩ := at_L1 HR0.out x5_1 p186 q186
                cases e186
                have HR186_0 := Aside0.mk hi186_0
                have HC186_0 := Aside0.mk hl186_0
                clear hi186_0 hl186_0
                replace p186 := eq_true p186
                replace q186 := eq_true q186
                have p187 : 0 ≤ (x5_1 : Int) := of_decide_eq_true (by first | (with_reducible assumption) | assumption)
                have q187 : x5_1 < (l1.length : Int) := of_decide_eq_true (by first | (with_reducible assumption) | assumption)
                obtain ⟨ad187, A187_0, c187_0, e187, hx187_0, hl187_0, hi187_0⟩ := at_L1 HR1.out x5_1 p187 q187
                cases e187
                have HR187_0 := Aside0.mk hi187_0
                have HC187_0 := Aside0.mk hl187_0
                clear hi187_0 hl187_0
                replace p187 := eq_true p187
                replace q187 := eq_true q187
                go_wp2_with (first | (go_at_call 16; (with_reducible refine (beadrollref01_Same.calls _ _ (rd_L1 l0 x5_1) _ _ (rd_L1 l1 x5_1) true _ ?side1 ?side2 ?side3 ?side4 A7.out).mono ?_); (case side1 => repeat (first | exact HR186_0.out | (with_reducible refine Kd.C_alloc ?_ _) | (with_reducible refine Kd.C_drewN ?_ _) | (with_reducible refine Kd.C_drew ?_))); (case side2 => exact HC186_0.out); (case side3 => repeat (first | exact HR187_0.out | (with_reducible refine Kd.C_alloc ?_ _) | (with_reducible refine Kd.C_drewN ?_ _) | (with_reducible refine Kd.C_drew ?_))); (case side4 => exact HC187_0.out); rintro e w' ⟨rfl, ⟨nd, rfl⟩⟩; (try first | exact ⟨rfl, _, World.drewN_drewN _ _ _⟩ | exact ⟨rfl, _, Eq.trans (World.drewN_drewN _ _ _) (congrArg (World.drewN _) (Nat.add_assoc _ _ _))⟩)))
                repeat (go_quiet (first | (go_at_call 16; (with_reducible refine (beadrollref01_Same.calls _ _ (rd_L1 l0 x5_1) _ _ (rd_L1 l1 x5_1) true _ ?side1 ?side2 ?side3 ?side4 A7.out).mono ?_); (case side1 => repeat (first | exact HR186_0.out | (with_reducible refine Kd.C_alloc ?_ _) | (with_reducible refine Kd.C_drewN ?_ _) | (with_reducible refine Kd.C_drew ?_))); (case side2 => exact HC186_0.out); (case side3 => repeat (first | exact HR187_0.out | (with_reducible refine Kd.C_alloc ?_ _) | (with_reducible refine Kd.C_drewN ?_ _) | (with_reducible refine Kd.C_drew ?_))); (case side4 => exact HC187_0.out); rintro e w' ⟨rfl, ⟨nd, rfl⟩⟩; (try first | exact ⟨rfl, _, World.drewN_drewN _ _ _⟩ | exact ⟨rfl, _, Eq.trans (World.drewN_drewN _ _ _) (congrArg (World.drewN _) (Nat.add_assoc _ _ _))⟩))); try go_wp2_with (first | (go_at_call 16; (with_reducible refine (beadrollref01_Same.calls _ _ (rd_L1 l0 x5_1) _ _ (rd_L1 l1 x5_1) true _ ?side1 ?side2 ?side3 ?side4 A7.out).mono ?_); (case side1 => repeat (first | exact HR186_0.out | (with_reducible refine Kd.C_alloc ?_ _) | (with_reducible refine Kd.C_drewN ?_ _) | (with_reducible refine Kd.C_drew ?_))); (case side2 => exact HC186_0.out); (case side3 => repeat (first | exact HR187_0.out | (with_reducible refine Kd.C_alloc ?_ _) | (with_reducible refine Kd.C_drewN ?_ _) | (with_reducible refine Kd.C_drew ?_))); (case side4 => exact HC187_0.out); rintro e w' ⟨rfl, ⟨nd, rfl⟩⟩; (try first | exact ⟨rfl, _, World.drewN_drewN _ _ _⟩ | exact ⟨rfl, _, Eq.trans (World.drewN_drewN _ _ _) (congrArg (World.drewN _) (Nat.add_assoc _ _ _))⟩))))
                go_roundg k1
                case measure => have := HK1.out; omega
                case rel => exact ⟨(wrap64 (x5_1 + 1)), (by first | rfl | (simp; done) | (simp [*]; done)), H', ⟨by have := HK1.out; omega⟩, by repeat (first | exact Drawn0.refl _ | apply Drawn0.step)⟩
              · replace c8 := Bool.eq_false_iff.mpr c8
                subst c8
                have H1 : (some false) = some r := by rw [if_neg (show ¬ (false = true) by decide)] at H; exact H
                clear H
                have H := H1
                clear H1
                obtain rfl := Option.some.inj H
                have p186 : 0 ≤ (x5_1 : Int) := of_decide_eq_true (by first | (with_reducible assumption) | assumption)
                have q186 : x5_1 < (l0.length : Int) := of_decide_eq_true (by first | (with_reducible assumption) | assumption)
                obtain ⟨ad186, A186_0, c186_0, e186, hx186_0, hl186_0, hi186_0⟩ := at_L1 HR0.out x5_1 p186 q186
                cases e186
                have HR186_0 := Aside0.mk hi186_0
                have HC186_0 := Aside0.mk hl186_0
                clear hi186_0 hl186_0
                replace p186 := eq_true p186
                replace q186 := eq_true q186
                have p187 : 0 ≤ (x5_1 : Int) := of_decide_eq_true (by first | (with_reducible assumption) | assumption)
                have q187 : x5_1 < (l1.length : Int) := of_decide_eq_true (by first | (with_reducible assumption) | assumption)
                obtain ⟨ad187, A187_0, c187_0, e187, hx187_0, hl187_0, hi187_0⟩ := at_L1 HR1.out x5_1 p187 q187
                cases e187
                have HR187_0 := Aside0.mk hi187_0
                have HC187_0 := Aside0.mk hl187_0
                clear hi187_0 hl187_0
                replace p187 := eq_true p187
                replace q187 := eq_true q187
                go_wp2_with (first | (go_at_call 16; (with_reducible refine (beadrollref01_Same.calls _ _ (rd_L1 l0 x5_1) _ _ (rd_L1 l1 x5_1) false _ ?side1 ?side2 ?side3 ?side4 A7.out).mono ?_); (case side1 => repeat (first | exact HR186_0.out | (with_reducible refine Kd.C_alloc ?_ _) | (with_reducible refine Kd.C_drewN ?_ _) | (with_reducible refine Kd.C_drew ?_))); (case side2 => exact HC186_0.out); (case side3 => repeat (first | exact HR187_0.out | (with_reducible refine Kd.C_alloc ?_ _) | (with_reducible refine Kd.C_drewN ?_ _) | (with_reducible refine Kd.C_drew ?_))); (case side4 => exact HC187_0.out); rintro e w' ⟨rfl, ⟨nd, rfl⟩⟩; (try first | exact ⟨rfl, _, World.drewN_drewN _ _ _⟩ | exact ⟨rfl, _, Eq.trans (World.drewN_drewN _ _ _) (congrArg (World.drewN _) (Nat.add_assoc _ _ _))⟩)))
                repeat (go_quiet (first | (go_at_call 16; (with_reducible refine (beadrollref01_Same.calls _ _ (rd_L1 l0 x5_1) _ _ (rd_L1 l1 x5_1) false _ ?side1 ?side2 ?side3 ?side4 A7.out).mono ?_); (case side1 => repeat (first | exact HR186_0.out | (with_reducible refine Kd.C_alloc ?_ _) | (with_reducible refine Kd.C_drewN ?_ _) | (with_reducible refine Kd.C_drew ?_))); (case side2 => exact HC186_0.out); (case side3 => repeat (first | exact HR187_0.out | (with_reducible refine Kd.C_alloc ?_ _) | (with_reducible refine Kd.C_drewN ?_ _) | (with_reducible refine Kd.C_drew ?_))); (case side4 => exact HC187_0.out); rintro e w' ⟨rfl, ⟨nd, rfl⟩⟩; (try first | exact ⟨rfl, _, World.drewN_drewN _ _ _⟩ | exact ⟨rfl, _, Eq.trans (World.drewN_drewN _ _ _) (congrArg (World.drewN _) (Nat.add_assoc _ _ _))⟩))); try go_wp2_with (first | (go_at_call 16; (with_reducible refine (beadrollref01_Same.calls _ _ (rd_L1 l0 x5_1) _ _ (rd_L1 l1 x5_1) false _ ?side1 ?side2 ?side3 ?side4 A7.out).mono ?_); (case side1 => repeat (first | exact HR186_0.out | (with_reducible refine Kd.C_alloc ?_ _) | (with_reducible refine Kd.C_drewN ?_ _) | (with_reducible refine Kd.C_drew ?_))); (case side2 => exact HC186_0.out); (case side3 => repeat (first | exact HR187_0.out | (with_reducible refine Kd.C_alloc ?_ _) | (with_reducible refine Kd.C_drewN ?_ _) | (with_reducible refine Kd.C_drew ?_))); (case side4 => exact HC187_0.out); rintro e w' ⟨rfl, ⟨nd, rfl⟩⟩; (try first | exact ⟨rfl, _, World.drewN_drewN _ _ _⟩ | exact ⟨rfl, _, Eq.trans (World.drewN_drewN _ _ _) (congrArg (World.drewN _) (Nat.add_assoc _ _ _))⟩))))
                go_ret
                exact ⟨by first | rfl | (simp; done) | (simp [*]; done), by repeat (first | exact Drawn0.refl _ | apply Drawn0.step)⟩
            · rw [if_neg c6] at H
              exact absurd H (by simp)
          · rw [if_neg c5] at H
            exact absurd H (by simp)
        · rw [if_neg c4] at H
          have c4b0 : decide (x5_1 < (l0.length : Int)) = false := decide_eq_false c4
          clear c4
          obtain rfl := Option.some.inj H
          go_wp2
          repeat (go_quiet (fail); try go_wp2)
          go_ret
          exact ⟨by first | rfl | (simp; done) | (simp [*]; done), by repeat (first | exact Drawn0.refl _ | apply Drawn0.step)⟩
  · rw [if_neg c3] at H
    have c3b0 : ((l0.length : Int) == (l1.length : Int)) = false := beq_eq_false_iff_ne.mpr c3
    have c3b1 : ((l0.length : Int) != (l1.length : Int)) = true := bne_iff_ne.mpr c3
    have c3b2 : (l0.length == l1.length) = false := by first | simpa using c3 | (simp at c3 ⊢; omega)
    obtain rfl := Option.some.inj H
    go_enter Tryd.func33, Tryd.ntmps33
    go_wp2
    repeat (go_quiet (fail); try go_wp2)
    go_ret
    exact ⟨by first | rfl | (simp; done) | (simp [*]; done), by repeat (first | exact Drawn0.refl _ | apply Drawn0.step)⟩
-- NOT PRINTED: function 11 (beadrolllaw13_RowsTell)
end Go.Proofs.YtoaimcobcgomjaaDoor.Q
namespace Go.Proofs.YtoaimcobcgomjaaDoor.Q
open Go.RowKit Go.Proofs.YtoaimcobcgomjaaDoorW.PrintWords Go.Proofs.YtoaimcobcgomjaaDoorW.PrintLast Go.Proofs.YtoaimcobcgomjaaDoorW.PrintMore
set_option linter.unusedVariables false
/-- The last s digits of n to the base of 256, the highest first. -/
def be (n : Int) : Nat → List Int
  | 0 => []
  | s + 1 => (n / 256 ^ s % 256) :: be n s
theorem be_length (n : Int) (s : Nat) : (be n s).length = s := by
  induction s with
  | zero => rfl
  | succ s ih => simp [be, ih]
theorem be_byte (n : Int) (s : Nat) : ∀ x ∈ be n s, 0 ≤ x ∧ x < 256 := by
  induction s with
  | zero => intro x hx; cases hx
  | succ s ih =>
    intro x hx
    rcases List.mem_cons.1 hx with rfl | hx
    · exact ⟨Int.emod_nonneg _ (by decide), Int.emod_lt_of_pos _ (by decide)⟩
    · exact ih x hx
theorem set_rep (m : Nat) (v : Int) (l : List Int) : (List.replicate (m + 1) (0 : Int) ++ l).set m v = List.replicate m 0 ++ v :: l := by
  induction m with
  | zero => rfl
  | succ m ih => rw [List.replicate_succ, List.cons_append, List.set_cons_succ, ih]; rfl
theorem pow8 (i : Nat) : (2 : Int) ^ (8 * i) = 256 ^ i := by
  rw [Int.pow_mul]; rfl
theorem shr_u64 (n : Int) (i : Nat) (h : i ≤ 8) : shr .u64 n (8 * (i : Int)) = n / 256 ^ i := by
  unfold shr
  have : min ((8 : Int) * (i : Int)).toNat (IntKind.bits .u64) = 8 * i := by
    have : IntKind.bits .u64 = 64 := rfl
    omega
  rw [this, pow8]
theorem wrap_id (n : Int) (h0 : -9223372036854775808 ≤ n) (h1 : n ≤ 9223372036854775807) : wrap64 n = n := by unfold wrap64; omega
theorem pos_pow (s : Nat) : (0 : Int) < 256 ^ s := Int.pow_pos (by decide)
theorem put_l0 (n : Int) (s : Nat) (hs : s ≤ 8) (d : Nat) : ∀ (k i : Nat), i + d = s → d < k →
    num_Put.l0 k n s (List.replicate d 0 ++ be n i) s i = some (be n s, 0) := by
  induction d with
  | zero =>
    intro k i hi hk
    obtain ⟨k, rfl⟩ : ∃ m, k = m + 1 := ⟨k - 1, by omega⟩
    obtain rfl : i = s := by omega
    simp only [num_Put.l0]
    rw [if_neg (by omega)]
    simp
  | succ d ih =>
    intro k i hi hk
    obtain ⟨k, rfl⟩ : ∃ m, k = m + 1 := ⟨k - 1, by omega⟩
    have e1 : wrap64 (8 * (i : Int)) = 8 * i := wrap_id _ (by omega) (by omega)
    have e2 : wrap64 ((s : Int) - 1) = s - 1 := wrap_id _ (by omega) (by omega)
    have e3 : wrap64 ((s : Int) - 1 - i) = (d : Int) := by rw [wrap_id _ (by omega) (by omega)]; omega
    have e4 : wrap64 ((i : Int) + 1) = ((i + 1 : Nat) : Int) := by rw [wrap_id _ (by omega) (by omega)]; omega
    simp only [num_Put.l0]
    rw [if_pos (by omega), e1, e2, e3, if_pos (by omega), if_pos (by omega), if_pos (by simp [be_length]; omega), Int.toNat_natCast, set_rep, shr_u64 n i (by omega), e4]
    exact ih k (i + 1) (by omega) (by omega)
/-- A number in so many bytes, or the error. -/
def put (n s : Int) : List Int × Int :=
  if s < 1 then ([], 2) else if 8 < s then ([], 2) else if n / 256 ^ s.toNat = 0 then (be n s.toNat, 0) else ([], 4)
theorem put_f (n s : Int) (h0 : 0 ≤ n) (h1 : n < 18446744073709551616) (k : Nat) (hk : 12 ≤ k) : num_Put.f k n s = some (put n s) := by
  obtain ⟨k, rfl⟩ : ∃ m, k = m + 2 := ⟨k - 2, by omega⟩
  unfold num_Put.f put
  by_cases c1 : s < 1
  · rw [if_pos c1, if_pos c1]; simp [num_Put.j0]
  rw [if_neg c1, if_neg c1]
  by_cases c2 : 8 < s
  · rw [if_pos c2]; simp [num_Put.j0, c2]
  rw [if_neg c2]
  obtain ⟨t, rfl⟩ := Int.eq_ofNat_of_zero_le (show 0 ≤ s by omega)
  have hj1 : num_Put.j1 (k + 1) n t = some (be n t, 0) := by
    simp only [num_Put.j1]
    rw [if_pos (by omega), if_pos (by omega), Int.toNat_natCast]
    have := put_l0 n t (by omega) t k 0 (by omega) (by omega)
    simpa [be] using this
  have e1 : wrap64 (8 * (t : Int)) = 8 * t := wrap_id _ (by omega) (by omega)
  have hd : decide ((t : Int) > 8) = false := decide_eq_false (by omega)
  rw [hd, Int.toNat_natCast]
  simp only [num_Put.j0, Bool.false_eq_true, if_false]
  by_cases c3 : (t : Int) < 8
  · rw [if_pos c3, e1, if_pos (by omega), shr_u64 n t (by omega)]
    have hge : 0 ≤ n / 256 ^ t := Int.ediv_nonneg h0 (Int.le_of_lt (pos_pow t))
    by_cases c4 : n / 256 ^ t = 0
    · rw [if_pos c4, if_neg (by omega), hj1]
    · rw [if_neg c4, if_pos (by omega)]
  · rw [if_neg c3, hj1]
    obtain rfl : t = 8 := by omega
    rw [if_pos (Int.ediv_eq_zero_of_lt h0 (by simpa using h1))]
/-- What is digested: a kind, then each part behind its length in four bytes. -/
def tagB (kind : Int) (ps : List (List Int)) : List Int := [kind] ++ (ps.map fun p => be p.length 4 ++ p).flatten
theorem put4 (n : Nat) (h : n < 4294967296) (k : Nat) (hk : 12 ≤ k) : num_Put.f k n 4 = some (be n 4, 0) := by
  rw [put_f n 4 (by omega) (by omega) k hk]
  unfold put
  rw [if_neg (by omega), if_neg (by omega), if_pos (by
    show (n : Int) / 256 ^ 4 = 0
    exact Int.ediv_eq_zero_of_lt (by omega) (by omega))]
  rfl
theorem rd_L1_at (ps : List (List Int)) (j : Nat) (h : j < ps.length) : rd_L1 ps (j : Int) = ps[j] := by
  unfold rd_L1
  simp [h]
theorem tag_l0 (ps : List (List Int)) (hl : ∀ p ∈ ps, p.length < 4294967296) (hs : (ps.map fun p => be p.length 4 ++ p).flatten.length < 100000000000) (hn : ps.length < 100000000000) (d : Nat) : ∀ (k j : Nat) (out : List Int), j + d = ps.length → d + 13 < k → out.length + ((ps.drop j).map fun p => be p.length 4 ++ p).flatten.length < 100000000001 →
    tag_Bytes.l0 k out ps (ps.length : Int) (j : Int) = some (out ++ ((ps.drop j).map fun p => be p.length 4 ++ p).flatten) := by
  induction d with
  | zero =>
    intro k j out hj hk ho
    obtain ⟨k, rfl⟩ : ∃ m, k = m + 1 := ⟨k - 1, by omega⟩
    simp only [tag_Bytes.l0]
    rw [if_neg (by omega), List.drop_eq_nil_of_le (by omega)]
    simp
  | succ d ih =>
    intro k j out hj hk ho
    obtain ⟨k, rfl⟩ : ∃ m, k = m + 1 := ⟨k - 1, by omega⟩
    have hjl : j < ps.length := by omega
    obtain ⟨p, hp⟩ : ∃ p, ps[j] = p := ⟨_, rfl⟩
    have hpl : p.length < 4294967296 := hl p (by rw [← hp]; exact List.getElem_mem hjl)
    have hd : ps.drop j = p :: ps.drop (j + 1) := by rw [← hp]; exact List.drop_eq_getElem_cons hjl
    have e4 : wrap64 ((j : Int) + 1) = ((j + 1 : Nat) : Int) := by rw [wrap_id _ (by omega) (by omega)]; omega
    have em : ((p.length : Int)) % 4294967296 = (p.length : Int) := by omega
    rw [hd] at ho ⊢
    simp only [List.map_cons, List.flatten_cons, List.length_append, be_length] at ho ⊢
    simp only [tag_Bytes.l0]
    rw [if_pos (by omega), if_pos (by omega), if_pos (by omega), rd_L1_at ps j hjl, hp, em, put4 p.length hpl k (by omega)]
    simp only [Option.bind_some]
    rw [if_pos (by rw [be_length]; omega), if_pos (by rw [List.length_append, be_length]; omega), e4]
    rw [ih k (j + 1) (out ++ be p.length 4 ++ p) (by omega) (by omega) (by rw [List.length_append, List.length_append, be_length]; omega)]
    simp [List.append_assoc]
theorem tag_f (kind : Int) (ps : List (List Int)) (hl : ∀ p ∈ ps, p.length < 4294967296) (hs : (ps.map fun p => be p.length 4 ++ p).flatten.length < 100000000000) (hn : ps.length < 100000000000) : tag_Bytes.f (ps.length + 14) kind ps = some (tagB kind ps) := by
  unfold tag_Bytes.f
  have := tag_l0 ps hl hs hn ps.length (ps.length + 14) 0 [kind] (by omega) (by omega) (by rw [List.drop_zero]; simp only [List.length_cons, List.length_nil]; omega)
  simpa [tagB] using this
/-- The digest of a kind and parts. -/
def tagOf (kind : Int) (ps : List (List Int)) : List Int := shaOf (tagB kind ps)
end Go.Proofs.YtoaimcobcgomjaaDoor.Q
namespace Go.Proofs.YtoaimcobcgomjaaDoor.Q
open Go.RowKit Go.Proofs.YtoaimcobcgomjaaDoorW.PrintWords Go.Proofs.YtoaimcobcgomjaaDoorW.PrintLast Go.Proofs.YtoaimcobcgomjaaDoorW.PrintMore
set_option linter.unusedVariables false
set_option linter.unusedSimpArgs false
theorem parts_len (ps : List (List Int)) : (ps.map fun p => be p.length 4 ++ p).flatten.length = 4 * ps.length + ps.flatten.length := by
  induction ps with
  | nil => rfl
  | cons p ps ih => simp only [List.map_cons, List.flatten_cons, List.length_append, List.length_cons, be_length, ih]; omega
theorem part_le (ps : List (List Int)) : ∀ p ∈ ps, p.length ≤ ps.flatten.length := by
  induction ps with
  | nil => intro p h; cases h
  | cons q ps ih =>
    intro p hp
    rw [List.flatten_cons, List.length_append]
    rcases List.mem_cons.1 hp with rfl | hp
    · omega
    · have := ih p hp; omega
/-- Parts that are bytes, not too many. -/
structure Prts (ps : List (List Int)) : Prop where
  by_ : ∀ p ∈ ps, ∀ x ∈ p, 0 ≤ x ∧ x < 256
  len : ps.flatten.length < 1000000000
  many : ps.length < 1000000000
theorem Prts.small {ps : List (List Int)} (h : Prts ps) : ∀ p ∈ ps, p.length < 4294967296 := fun p hp => by have := part_le ps p hp; have := h.len; omega
theorem Prts.sum {ps : List (List Int)} (h : Prts ps) : (ps.map fun p => be p.length 4 ++ p).flatten.length < 100000000000 := by rw [parts_len]; have := h.len; have := h.many; omega
theorem Prts.tag {ps : List (List Int)} (h : Prts ps) (kind : Int) (hk : 0 ≤ kind ∧ kind < 256) : ∀ x ∈ tagB kind ps, 0 ≤ x ∧ x < 256 := by
  intro x hx
  unfold tagB at hx
  rcases List.mem_append.1 hx with hx | hx
  · rw [List.mem_singleton.1 hx]; exact hk
  · obtain ⟨q, hq, hx⟩ := List.mem_flatten.1 hx
    obtain ⟨p, hp, rfl⟩ := List.mem_map.1 hq
    exact (List.mem_append.1 hx).elim (be_byte _ _ x) (h.by_ p hp x)
theorem Prts.tlen {ps : List (List Int)} (h : Prts ps) (kind : Int) : (tagB kind ps).length < 10000000000 := by
  unfold tagB
  rw [List.length_append, parts_len, List.length_singleton]
  have := h.len
  have := h.many
  omega
theorem tagOf_dig (kind : Int) (ps : List (List Int)) : Dig (tagOf kind ps) := dig_sha _
theorem tagOf_len (kind : Int) (ps : List (List Int)) : (tagOf kind ps).length = 32 := sha_len _
theorem R_bts {w : World} {base : Nat} {ok : Nat → Prop} {v : Value} {l : List Int} (h : (Kd.int .u8).R 5 w base ok v l) (hb : ∀ x ∈ l, 0 ≤ x ∧ x < 256) : ∃ A n c, v = .slice A n c ∧ Bts w A n c l := by
  have hQ := Kd.Q_of_R h
  obtain ⟨A, n, c, rfl, _⟩ := Q_form' hQ
  exact ⟨A, n, c, rfl, Q_bts hQ hb⟩
set_option maxHeartbeats 4000000 in
set_option maxRecDepth 100000 in
theorem tagOf_walk (kind : Int) (hk : 0 ≤ kind ∧ kind < 256) (A : Option Addr) (n c : Nat) (ps : List (List Int)) (W : World) (hR : (Kd.slice 5 (Kd.int .u8)).C W A n ps) (hc : n ≤ c) (hp : Prts ps) (hkt : KT W) :
    Calls Tryd.prog 44 #[.int .u8 kind, .slice A n c] W fun e W' => e = .returned (.agg (arr (tagOf kind ps))) ∧ Below W.heap.size W W' := by
  have HR := Aside0.mk hR
  have HC := Aside0.mk hc
  have HP := Aside0.mk hp
  have hn : ps.length = n := hR.1
  subst hn
  clear hR hc hp
  have HKD := Aside0.mk hk
  have HKT := Aside0.mk hkt
  clear hk hkt
  have HB := Aside0.mk (Below.refl W.heap.size W)
  go_enter Tryd.func44, Tryd.ntmps44
  go_wp2_with (
    first
    | ((with_reducible refine gate_dst (N := 4) rfl ?_); refine box_event ?hg (N := 4) ?hd (cs := arr zeros32) (t := 25) ?hr ?_; (case hd => rfl); (case hg => rfl); (case hr => first | (go_simp; done) | (go_simp; rfl));
       intro g4 hg w1 hbox hb; have BK4 := Aside0.mk hbox; have G4 := Aside0.mk (show W.heap.size ≤ g4 by rw [hg]; exact below_size HB.out); have HB1 := Aside0.mk (below_step HB.out hb); clear HB ; have HB := HB1; clear HB1 ; clear hb hbox hg)
    | (go_at_call 60; (with_reducible refine (tag_Bytes.calls (ps.length + 14) kind A c ps (tagB kind ps) _ (Kd.C_below HR.out HB.out) HC.out (tag_f kind ps HP.out.small HP.out.sum (by have := HP.out.many; omega))).mono ?_); rintro e w2 ⟨v, rfl, hq, hb⟩; obtain ⟨A2, n2, c2, rfl, hbt⟩ := R_bts hq (HP.out.tag kind HKD.out); have B2 := Aside0.mk hbt; have n1 := Aside0.mk (blk_below BK4.out hb); have HB1 := Aside0.mk (below_step HB.out hb); clear HB; have HB := HB1; clear HB1; clear BK4 hq hb hbt; have BK4 := n1; clear n1)
    | (go_at_call 13; (with_reducible refine (of_1 _ c2 A2 (tagB kind ps) n2 22 1 _ (blk_new _ _) (B2.out.alloc _) (by have := HP.out.tlen kind; omega) (HKT.out.below HKT.out.lt (below_alloc HB.out _))).mono ?_); rintro e w3 ⟨rfl, hb⟩; rw [show shaOf (tagB kind ps) = tagOf kind ps from rfl]; have n1 := Aside0.mk (blk_below (blk_alloc BK4.out _) hb); have HB1 := Aside0.mk (below_step (below_alloc HB.out _) hb); clear HB; have HB := HB1; clear HB1; clear BK4 hb; have BK4 := n1; clear n1)
    | ((with_reducible refine gate_store (p := 4) rfl ?_); refine dig_store rfl (.tmp 4) (.tmp 9) rfl g4 (tagOf kind ps) zeros32 rfl rfl BK4.out (tagOf_len _ _) rfl ?_; intro w3 bk hoth hbel; have nn := Aside0.mk bk; have HB1 := Aside0.mk (hbel _ _ HB.out G4.out); clear HB ; have HB := HB1; clear HB1 ; clear BK4; have BK4 := nn; clear nn bk hoth hbel))
  refine bodyPost_ret (results_c rfl _ _ g4 25 (arr (tagOf kind ps)) (0, 0) _ rfl BK4.out Tryd.underlying25 rfl (by rw [arr_size, tagOf_len]; exact info_dig)) rfl ?_
  exact ⟨rfl, HB.out⟩
set_option maxHeartbeats 4000000 in
set_option maxRecDepth 100000 in
theorem tagNone_walk (W : World) (hkt : KT W) :
    Calls Tryd.prog 45 #[] W fun e W' => e = .returned (.agg (arr (tagOf 0 []))) ∧ Below W.heap.size W W' := by
  have HKT := Aside0.mk hkt
  clear hkt
  have HB := Aside0.mk (Below.refl W.heap.size W)
  go_enter Tryd.func45, Tryd.ntmps45
  go_wp2_with (
    first
    | ((with_reducible refine gate_dst (N := 0) rfl ?_); refine box_event ?hg (N := 0) ?hd (cs := arr zeros32) (t := 25) ?hr ?_; (case hd => rfl); (case hg => rfl); (case hr => first | (go_simp; done) | (go_simp; rfl));
       intro g0 hg w1 hbox hb; have BK0 := Aside0.mk hbox; have G0 := Aside0.mk (show W.heap.size ≤ g0 by rw [hg]; exact below_size HB.out); have HB1 := Aside0.mk (below_step HB.out hb); clear HB ; have HB := HB1; clear HB1 ; clear hb hbox hg)
    | (go_at_call 44; (with_reducible refine (tagOf_walk 0 (by decide) none 0 0 [] _ (none_C _) (Nat.le_refl _) ⟨by simp, by simp, by simp⟩ (HKT.out.below HKT.out.lt HB.out)).mono ?_); rintro e w3 ⟨rfl, hb⟩; have n1 := Aside0.mk (blk_below BK0.out hb); have HB1 := Aside0.mk (below_step HB.out hb); clear HB; have HB := HB1; clear HB1; clear BK0 hb; have BK0 := n1; clear n1)
    | ((with_reducible refine gate_store (p := 0) rfl ?_); refine dig_store rfl (.tmp 0) (.tmp 1) rfl g0 (tagOf 0 []) zeros32 rfl rfl BK0.out (tagOf_len _ _) rfl ?_; intro w3 bk hoth hbel; have nn := Aside0.mk bk; have HB1 := Aside0.mk (hbel _ _ HB.out G0.out); clear HB ; have HB := HB1; clear HB1 ; clear BK0; have BK0 := nn; clear nn bk hoth hbel))
  refine bodyPost_ret (results_c rfl _ _ g0 25 (arr (tagOf 0 [])) (0, 0) _ rfl BK0.out Tryd.underlying25 rfl (by rw [arr_size, tagOf_len]; exact info_dig)) rfl ?_
  exact ⟨rfl, HB.out⟩
theorem parts1_C {w : World} {g t c n : Nat} {A : Option Addr} {p : List Int} (h : w.heap[g]? = some (.cells #[.slice A n c] t (0, 0))) (b : Bts w A n c p) : (Kd.slice 5 (Kd.int .u8)).C w (some ⟨g, 0, none⟩) 1 [p] := by
  have e1 := b.len
  subst e1
  refine parts_C h (by simp) fun j q hj => ?_
  match j, hj with
  | 0, hj => exact ⟨A, c, by simp at hj; subst hj; rfl, by simp at hj; subst hj; exact b.le, by simp at hj; subst hj; exact b.rd_⟩
  | j + 1, hj => simp at hj
theorem parts2_C {w : World} {g t c1 n1 c2 n2 : Nat} {A1 A2 : Option Addr} {p1 p2 : List Int} (h : w.heap[g]? = some (.cells #[.slice A1 n1 c1, .slice A2 n2 c2] t (0, 0))) (b1 : Bts w A1 n1 c1 p1) (b2 : Bts w A2 n2 c2 p2) : (Kd.slice 5 (Kd.int .u8)).C w (some ⟨g, 0, none⟩) 2 [p1, p2] := by
  have e1 := b1.len
  have e2 := b2.len
  subst e1 e2
  refine parts_C h (by simp) fun j q hj => ?_
  match j, hj with
  | 0, hj => exact ⟨A1, c1, by simp at hj; subst hj; rfl, by simp at hj; subst hj; exact b1.le, by simp at hj; subst hj; exact b1.rd_⟩
  | 1, hj => exact ⟨A2, c2, by simp at hj; subst hj; rfl, by simp at hj; subst hj; exact b2.le, by simp at hj; subst hj; exact b2.rd_⟩
  | j + 2, hj => simp at hj
theorem prts1 {p : List Int} (hb : ∀ x ∈ p, 0 ≤ x ∧ x < 256) (hl : p.length < 1000000) : Prts [p] := ⟨by simpa using hb, by simp; omega, by simp⟩
theorem prts2 {p q : List Int} (hb : ∀ x ∈ p, 0 ≤ x ∧ x < 256) (hb2 : ∀ x ∈ q, 0 ≤ x ∧ x < 256) (hl : p.length < 1000000) (hl2 : q.length < 1000000) : Prts [p, q] := ⟨by simpa using ⟨hb, hb2⟩, by simp; omega, by simp⟩
/-- tag.Of of one part, of two. -/
theorem tag1 (kind : Int) (hk : 0 ≤ kind ∧ kind < 256) (g cap t c n : Nat) (A : Option Addr) (p : List Int) (W : World) (h : W.heap[g]? = some (.cells #[.slice A n c] t (0, 0))) (b : Bts W A n c p) (hcap : 1 ≤ cap) (hl : p.length < 1000000) (hkt : KT W) :
    Calls Tryd.prog 44 #[.int .u8 kind, .slice (some ⟨g, 0, none⟩) 1 cap] W fun e W' => e = .returned (.agg (arr (tagOf kind [p]))) ∧ Below W.heap.size W W' := tagOf_walk kind hk _ 1 cap [p] W (parts1_C h b) hcap (prts1 b.by_ hl) hkt
theorem tag2 (kind : Int) (hk : 0 ≤ kind ∧ kind < 256) (g cap t c1 n1 c2 n2 : Nat) (A1 A2 : Option Addr) (p1 p2 : List Int) (W : World) (h : W.heap[g]? = some (.cells #[.slice A1 n1 c1, .slice A2 n2 c2] t (0, 0))) (b1 : Bts W A1 n1 c1 p1) (b2 : Bts W A2 n2 c2 p2) (hcap : 2 ≤ cap) (hl : p1.length < 1000000) (hl2 : p2.length < 1000000) (hkt : KT W) :
    Calls Tryd.prog 44 #[.int .u8 kind, .slice (some ⟨g, 0, none⟩) 2 cap] W fun e W' => e = .returned (.agg (arr (tagOf kind [p1, p2]))) ∧ Below W.heap.size W W' := tagOf_walk kind hk _ 2 cap [p1, p2] W (parts2_C h b1 b2) hcap (prts2 b1.by_ b2.by_ hl hl2) hkt
end Go.Proofs.YtoaimcobcgomjaaDoor.Q
namespace Go.Proofs.YtoaimcobcgomjaaDoor.Q
open Go.RowKit Go.Proofs.YtoaimcobcgomjaaDoorW.PrintWords Go.Proofs.YtoaimcobcgomjaaDoorW.PrintLast Go.Proofs.YtoaimcobcgomjaaDoorW.PrintMore
set_option linter.unusedVariables false
/-- How many of so many stand in the first part. -/
def frontZ (n : Int) : Int := 2 ^ (lenZ (n - 1) - 1).toNat
theorem frontZ_range (n : Int) (h0 : 2 ≤ n) (h1 : n ≤ 256) : 1 ≤ frontZ n ∧ frontZ n < n ∧ n ≤ 2 * frontZ n := by
  have : ∀ m : Fin 257, 2 ≤ ((m.1 : Nat) : Int) → 1 ≤ frontZ ((m.1 : Nat) : Int) ∧ frontZ ((m.1 : Nat) : Int) < ((m.1 : Nat) : Int) ∧ ((m.1 : Nat) : Int) ≤ 2 * frontZ ((m.1 : Nat) : Int) := by decide +kernel
  obtain ⟨m, rfl⟩ := Int.eq_ofNat_of_zero_le (show 0 ≤ n by omega)
  exact this ⟨m, by omega⟩ h0
theorem front_f (n : Int) (h0 : 2 ≤ n) (h1 : n ≤ 256) : rows_front.f n = some (frontZ n) := by
  have : ∀ m : Fin 257, 2 ≤ ((m.1 : Nat) : Int) → rows_front.f ((m.1 : Nat) : Int) = some (frontZ ((m.1 : Nat) : Int)) := by decide +kernel
  obtain ⟨m, rfl⟩ := Int.eq_ofNat_of_zero_le (show 0 ≤ n by omega)
  exact this ⟨m, by omega⟩ h0
/-- Whether in the right part, from the root on; k: how many steps at most. -/
def upL : Nat → Int → Int → List Bool
  | 0, _, _ => []
  | k + 1, n, i => if n ≤ 1 then [] else if frontZ n ≤ i then true :: upL k (n - frontZ n) (i - frontZ n) else false :: upL k (frontZ n) i
theorem upL_fuel (k : Nat) : ∀ (m : Nat) (n i : Int), n ≤ 256 → n ≤ (k : Int) + 1 → n ≤ (m : Int) + 1 → upL k n i = upL m n i := by
  induction k with
  | zero =>
    intro m n i h h1 h2
    cases m with
    | zero => rfl
    | succ m => simp only [upL]; rw [if_pos (by omega)]
  | succ k ih =>
    intro m n i h h1 h2
    cases m with
    | zero => simp only [upL]; rw [if_pos (by omega)]
    | succ m =>
      simp only [upL]
      by_cases hn : n ≤ 1
      · rw [if_pos hn, if_pos hn]
      · have hf := frontZ_range n (by omega) h
        rw [if_neg hn, if_neg hn, ih m (n - frontZ n) _ (by omega) (by omega) (by omega), ih m (frontZ n) _ (by omega) (by omega) (by omega)]
theorem upL_step (k : Nat) (n j : Int) (h1 : 1 < n) (h2 : n ≤ 256) (hk : n ≤ (k : Int) + 1) : upL (k + 1) n j = if frontZ n ≤ j then true :: upL (k + 1) (n - frontZ n) (j - frontZ n) else false :: upL (k + 1) (frontZ n) j := by
  have hf := frontZ_range n (by omega) h2
  rw [← upL_fuel k (k + 1) (n - frontZ n) (j - frontZ n) (by omega) (by omega) (by omega), ← upL_fuel k (k + 1) (frontZ n) j (by omega) (by omega) (by omega)]
  show (if n ≤ 1 then [] else if frontZ n ≤ j then true :: upL k (n - frontZ n) (j - frontZ n) else false :: upL k (frontZ n) j) = _
  rw [if_neg (by omega)]
theorem upL_256 (n j : Int) (h1 : 1 < n) (h2 : n ≤ 256) : upL 256 n j = if frontZ n ≤ j then true :: upL 256 (n - frontZ n) (j - frontZ n) else false :: upL 256 (frontZ n) j := upL_step 255 n j h1 h2 (by omega)
theorem upL_one (k : Nat) (n j : Int) (h : n ≤ 1) : upL k n j = [] := by
  cases k with
  | zero => rfl
  | succ k => exact if_pos h
/-- The way up from a row. -/
def turnsL (n i : Int) : List Bool := (upL 256 n i).reverse
theorem upL_len (k : Nat) : ∀ (n i : Int), (upL k n i).length ≤ k := by
  induction k with
  | zero => intro n i; simp [upL]
  | succ k ih =>
    intro n i
    simp only [upL]
    split
    · simp
    · split <;> simp [ih]
/-- A digest with sides, up to the root. -/
def foldD (d : List Int) : List Bool → List (List Int) → List Int
  | r :: rs, s :: ss => foldD (tagOf 8 (if r = true then [s, d] else [d, s])) rs ss
  | _, _ => d
theorem foldD_snoc (rs : List Bool) : ∀ (d : List Int) (ss : List (List Int)) (r : Bool) (s : List Int), rs.length = ss.length → foldD d (rs ++ [r]) (ss ++ [s]) = tagOf 8 (if r = true then [s, foldD d rs ss] else [foldD d rs ss, s]) := by
  induction rs with
  | nil =>
    intro d ss r s h
    obtain rfl : ss = [] := List.eq_nil_of_length_eq_zero (by simpa using h.symm)
    rfl
  | cons q rs ih =>
    intro d ss r s h
    cases ss with
    | nil => simp at h
    | cons t ss =>
      simp only [List.cons_append, foldD]
      exact ih _ ss r s (by simpa using h)
theorem foldD_take (rs : List Bool) (j : Nat) (d : List Int) (ss : List (List Int)) (hl : rs.length = ss.length) (hj : j < rs.length) : foldD d (rs.take (j + 1)) (ss.take (j + 1)) = tagOf 8 (if rs[j] = true then [ss[j]'(by omega), foldD d (rs.take j) (ss.take j)] else [foldD d (rs.take j) (ss.take j), ss[j]'(by omega)]) := by
  rw [List.take_succ_eq_append_getElem hj, List.take_succ_eq_append_getElem (by omega), foldD_snoc _ _ _ _ _ (by rw [List.length_take, List.length_take]; omega)]
theorem foldD_dig (rs : List Bool) : ∀ (d : List Int) (ss : List (List Int)), Dig d → Dig (foldD d rs ss) := by
  induction rs with
  | nil => intro d ss h; cases ss <;> exact h
  | cons q rs ih =>
    intro d ss h
    cases ss with
    | nil => exact h
    | cons t ss => exact ih _ ss (tagOf_dig _ _)
/-- Do sides fit a root? -/
def outP (many i : Int) (row : List Int) : Bool := decide (256 < many) || decide (i < 0) || decide (many ≤ i) || decide (4096 < (row.length : Int))
def fitsP (root : List Int) (many i : Int) (row : List Int) (sides : List (List Int)) : Bool :=
  if outP many i row = true then false else decide ((turnsL many i).length = sides.length) && decide (foldD (tagOf 7 [row]) (turnsL many i) sides = root)
end Go.Proofs.YtoaimcobcgomjaaDoor.Q
namespace Go.Proofs.YtoaimcobcgomjaaDoor.Q
open Go.RowKit Go.Proofs.YtoaimcobcgomjaaDoorW.PrintWords Go.Proofs.YtoaimcobcgomjaaDoorW.PrintLast Go.Proofs.YtoaimcobcgomjaaDoorW.PrintMore
set_option linter.unusedVariables false
set_option linter.unusedSimpArgs false
theorem rev_l0 (n : Nat) (hn : n < 1000000) (d : Nat) : ∀ (k i : Nat) (x : List Bool), x.length = n → n ≤ 2 * i + d → 2 * i ≤ n + 1 → d + 1 < k → ∃ r, slices_Reverse_bool_bool.l0 k x (i : Int) ((n : Int) - 1 - i) = some r ∧ r.length = n ∧ ∀ m, m < n → r[m]? = if i ≤ m ∧ m + i < n then x[n - 1 - m]? else x[m]? := by
  induction d using Nat.strongRecOn with
  | ind d ih =>
    intro k i x hx hd hi hk
    obtain ⟨k, rfl⟩ : ∃ m, k = m + 1 := ⟨k - 1, by omega⟩
    simp only [slices_Reverse_bool_bool.l0]
    by_cases hlt : (i : Int) < (n : Int) - 1 - i
    · have e1 : wrap64 ((i : Int) + 1) = ((i + 1 : Nat) : Int) := by rw [wrap_id _ (by omega) (by omega)]; omega
      have e2 : wrap64 ((n : Int) - 1 - i - 1) = (n : Int) - 1 - ((i + 1 : Nat) : Int) := by rw [wrap_id _ (by omega) (by omega)]; omega
      rw [if_pos hlt, if_pos (by omega), if_pos (by omega), if_pos (by omega), if_pos (by omega), e1, e2]
      have et : ((n : Int) - 1 - i).toNat = n - 1 - i := by omega
      rw [Int.toNat_natCast, et]
      obtain ⟨r, h1, h2, h3⟩ := ih (d - 2) (by omega) k (i + 1) ((x.set i (rdOf false x ((n : Int) - 1 - i))).set (n - 1 - i) (rdOf false x (i : Int))) (by simp [hx]) (by omega) (by omega) (by omega)
      refine ⟨r, h1, h2, fun m hm => ?_⟩
      rw [h3 m hm]
      have ra : rdOf false x ((n : Int) - 1 - i) = x[n - 1 - i]'(by omega) := by
        unfold rdOf
        rw [et]
        simp [show n - 1 - i < x.length by omega]
      have rb : rdOf false x (i : Int) = x[i]'(by omega) := by
        unfold rdOf
        rw [Int.toNat_natCast]
        simp [show i < x.length by omega]
      rw [ra, rb]
      by_cases hin : i + 1 ≤ m ∧ m + (i + 1) < n
      · rw [if_pos hin, if_pos (by omega), List.getElem?_set_ne (by omega), List.getElem?_set_ne (by omega)]
      · rw [if_neg hin]
        by_cases hmi : m = i
        · subst hmi
          rw [if_pos (by omega), List.getElem?_set_ne (by omega), List.getElem?_set_self (by omega), List.getElem?_eq_getElem (by omega)]
        · by_cases hmj : m = n - 1 - i
          · subst hmj
            rw [if_pos (by omega), List.getElem?_set_self (by simp; omega), show n - 1 - (n - 1 - i) = i by omega, List.getElem?_eq_getElem (by omega)]
          · rw [if_neg (by omega), List.getElem?_set_ne (by omega), List.getElem?_set_ne (by omega)]
    · rw [if_neg hlt]
      refine ⟨x, rfl, hx, fun m hm => ?_⟩
      by_cases hin : i ≤ m ∧ m + i < n
      · rw [if_pos hin, show n - 1 - m = m by omega]
      · rw [if_neg hin]
theorem rev_f (l : List Bool) (h : l.length < 1000000) : slices_Reverse_bool_bool.f (l.length + 3) l = some l.reverse := by
  unfold slices_Reverse_bool_bool.f
  have e : wrap64 ((l.length : Int) - 1) = (l.length : Int) - 1 - ((0 : Nat) : Int) := by rw [wrap_id _ (by omega) (by omega)]; omega
  obtain ⟨r, h1, h2, h3⟩ := rev_l0 l.length h l.length (l.length + 3) 0 l rfl (by omega) (by omega) (by omega)
  rw [e]
  refine h1.trans (congrArg some (List.ext_getElem? fun m => ?_))
  rcases Nat.lt_or_ge m l.length with hm | hm
  · rw [h3 m hm, if_pos (by omega), List.getElem?_reverse hm]
  · rw [List.getElem?_eq_none (by omega), List.getElem?_eq_none (by simpa using hm)]
theorem info_bool : (Tryd.prog.info? 4).map (fun i => (i.zero, i.size, i.bytes)) = some (some (.bool false), 1, 1) := by kernel_rfl
structure TurnInv (W : World) (l : List Bool) (v : Value) (w : World) : Prop where
  r : Kd.bool.R 4 w W.heap.size (fun _ => True) v l
  hb : Below W.heap.size W w
set_option maxHeartbeats 4000000 in
set_option maxRecDepth 100000 in
theorem turns_walk (many i : Int) (h1 : 1 ≤ many) (h2 : many ≤ 256) (h3 : 0 ≤ i) (h4 : i < many) (W : World) :
    Calls Tryd.prog 43 #[.int .i64 many, .int .i64 i] W fun e W' => ∃ v, e = .returned v ∧ Kd.bool.R 4 W' W.heap.size (fun _ => True) v (turnsL many i) ∧ Below W.heap.size W W' := by
  have HI : Aside0 (TurnInv W [] (.slice none 0 0) W) := ⟨⟨Kd.R_nil _ _ _ _ _, Below.refl _ _⟩⟩
  go_enter Tryd.func43, Tryd.ntmps43
  go_wp2
  go_loopw [0, 1, 4, 5] (fun a b v _ wr => ∃ (n j : Int) (l : List Bool), 1 ≤ n ∧ n ≤ 256 ∧ 0 ≤ j ∧ j < n ∧ a = .int .i64 n ∧ b = .int .i64 j ∧ Aside0 (l ++ upL 256 n j = upL 256 many i) ∧ Aside0 (TurnInv W l v wr)) (fun a _ _ _ _ => (intOf a).toNat)
  case atStart => exact ⟨many, i, [], h1, h2, h3, h4, rfl, rfl, ⟨rfl⟩, HI⟩
  case round =>
    obtain ⟨n, j, l, a1, a2, a3, a4, rfl, rfl, HU, HI1⟩ := hrel
    clear HI
    by_cases hn : 1 < n
    · have hf := frontZ_range n (by omega) a2
      obtain ⟨f, ef⟩ : ∃ f, frontZ n = f := ⟨_, rfl⟩
      rw [ef] at hf
      obtain ⟨f1, f2, f3⟩ := hf
      have HF := Aside0.mk ef
      have HLL : Aside0 (l.length ≤ 256) := ⟨by
        have h := congrArg List.length HU.out
        rw [List.length_append] at h
        have := upL_len 256 many i
        omega⟩
      have HUE : Aside0 (upL 256 n j = if f ≤ j then true :: upL 256 (n - f) (j - f) else false :: upL 256 f j) := ⟨by
        rw [← ef]
        exact upL_256 n j hn a2⟩
      clear ef
      by_cases hj : f ≤ j
      · have HU2 : Aside0 ((l ++ [true]) ++ upL 256 (n - f) (j - f) = upL 256 many i) := ⟨by rw [← HU.out, HUE.out, if_pos hj]; simp⟩
        clear HUE
        go_wp2_with (
          first
          | (go_at_call 41; (with_reducible refine (rows_front.calls n f _ (HF.out ▸ front_f n (by omega) a2)).mono ?_); rintro e w' ⟨rfl, ⟨nd, rfl⟩⟩)
          | ((with_reducible refine gate_builtin (b := .append) (xs := #[.tmp 10, .tmp 14]) rfl ?_); at_builtin;
             refine Kd.R_append Kd.bool (w0 := W) W.heap.size rfl (.tmp 10) (.tmp 14) 68 4 (.bool false) 1 rfl Tryd.underlying68 info_bool rfl (by decide) (by decide) _ l true [.bool true] (fun _ => True) (fun _ => False) rfl rfl rfl (fun _ hk => hk.elim) (fun _ _ => trivial) (Kd.R_drewN HI1.out.r _) (pw_below_drewN HI1.out.hb _) (below_size (pw_below_drewN HI1.out.hb _)) ?hl ?_;
             (case hl => have := HLL.out; omega);
             intro v1 w1 hq hb hg hat; have HI2 : Aside0 (TurnInv W (l ++ [true]) v1 w1) := ⟨⟨hq, hb⟩⟩; clear hq hb hg hat HI1))
        exact ⟨⟨n - f, j - f, _, by omega, by omega, by omega, by omega, rfl, rfl, HU2, HI2⟩, by show (n - f).toNat < n.toNat; omega⟩
      · have hjd : decide (f ≤ j) = false := decide_eq_false hj
        have HU2 : Aside0 ((l ++ [false]) ++ upL 256 f j = upL 256 many i) := ⟨by rw [← HU.out, HUE.out, if_neg hj]; simp⟩
        clear HUE
        go_wp2_with (
          first
          | (go_at_call 41; (with_reducible refine (rows_front.calls n f _ (HF.out ▸ front_f n (by omega) a2)).mono ?_); rintro e w' ⟨rfl, ⟨nd, rfl⟩⟩)
          | ((with_reducible refine gate_builtin (b := .append) (xs := #[.tmp 10, .tmp 14]) rfl ?_); at_builtin;
             refine Kd.R_append Kd.bool (w0 := W) W.heap.size rfl (.tmp 10) (.tmp 14) 68 4 (.bool false) 1 rfl Tryd.underlying68 info_bool rfl (by decide) (by decide) _ l false [.bool false] (fun _ => True) (fun _ => False) rfl rfl rfl (fun _ hk => hk.elim) (fun _ _ => trivial) (Kd.R_drewN HI1.out.r _) (pw_below_drewN HI1.out.hb _) (below_size (pw_below_drewN HI1.out.hb _)) ?hl ?_;
             (case hl => have := HLL.out; omega);
             intro v1 w1 hq hb hg hat; have HI2 : Aside0 (TurnInv W (l ++ [false]) v1 w1) := ⟨⟨hq, hb⟩⟩; clear hq hb hg hat HI1))
        exact ⟨⟨f, j, _, by omega, by omega, by omega, by omega, rfl, rfl, HU2, HI2⟩, by show f.toNat < n.toNat; omega⟩
    · have HUL : Aside0 (l = upL 256 many i) := ⟨by rw [← HU.out, upL_one 256 n j (by omega), List.append_nil]⟩
      have HLL : Aside0 (l.length < 1000000) := ⟨by rw [HUL.out]; have := upL_len 256 many i; omega⟩
      go_wp2_with (
        first
        | (go_at_call 59; (with_reducible refine (slices_Reverse_bool_bool.calls (l.length + 3) (fun _ => True) _ l l.reverse W _ HI1.out.hb HI1.out.r (rev_f l HLL.out)).mono ?_); rintro e w' ⟨rfl, hr, hb, _⟩; have HR : Aside0 (Kd.bool.R 4 w' W.heap.size (fun _ => True) _ (turnsL many i)) := ⟨by unfold turnsL; rw [← HUL.out]; exact Kd.R_mono hr (fun _ _ => trivial)⟩; have HB := Aside0.mk hb; clear hr hb HI1))
      go_ret
      exact ⟨_, rfl, HR.out, HB.out⟩
end Go.Proofs.YtoaimcobcgomjaaDoor.Q
namespace Go.Proofs.YtoaimcobcgomjaaDoor.Q
open Go.RowKit Go.Proofs.YtoaimcobcgomjaaDoorW.PrintWords Go.Proofs.YtoaimcobcgomjaaDoorW.PrintLast Go.Proofs.YtoaimcobcgomjaaDoorW.PrintMore
set_option linter.unusedVariables false
set_option linter.unusedSimpArgs false
theorem addr_add (a : Addr) (m n : Nat) : (a.add m).add n = a.add (m + n) := by
  unfold Addr.add
  by_cases hm : m = 0
  · subst hm; simp
  · by_cases hn : n = 0
    · subst hn; simp [hm]
    · rw [if_neg hm, if_neg hn, if_neg (by omega)]
      simp [Nat.add_assoc]
theorem cell_below {W w : World} {a : Addr} {v : Value} (h : W.cell? a = some v) (hb : Below W.heap.size W w) : w.cell? a = some v := (hb.cell (World.block_lt_of_cell? _ _ h)).trans h
/-- A slice of digests reads as a list. -/
structure Digs (W : World) (A : Option Addr) (n c : Nat) (l : List (List Int)) : Prop where
  len : l.length = n
  le : n ≤ c
  max : c ≤ 9223372036854775807
  at_ : ∀ (j : Nat) (hj : j < l.length), ∃ ad, A = some ad ∧ ∀ i, i < 32 → W.cell? (ad.add (j * 32 + i)) = some (.int .u8 (rd l[j] (i : Int)))
  dg : ∀ d ∈ l, Dig d
theorem Digs.below {W w : World} {A : Option Addr} {n c : Nat} {l : List (List Int)} (h : Digs W A n c l) (hb : Below W.heap.size W w) : Digs w A n c l :=
  ⟨h.len, h.le, h.max, fun j hj => by
    obtain ⟨ad, e, hc⟩ := h.at_ j hj
    exact ⟨ad, e, fun i hi => cell_below (hc i hi) hb⟩, h.dg⟩
theorem Digs.side {W : World} {A : Option Addr} {n c : Nat} {l : List (List Int)} (h : Digs W A n c l) (j : Nat) (hj : j < l.length) : ∃ ad, A = some ad ∧ Bts W (some (ad.add (j * 32))) 32 32 l[j] := by
  obtain ⟨ad, e, hc⟩ := h.at_ j hj
  have hd := h.dg l[j] (List.getElem_mem hj)
  refine ⟨ad, e, ⟨hd.1, by omega, fun _ => ⟨_, rfl, fun i p hi => ⟨[.int .u8 p], rfl, rfl, fun q u hu => ?_⟩⟩⟩, Nat.le_refl _, hd.2⟩
  cases q with
  | succ q => simp at hu
  | zero =>
    simp only [List.getElem?_cons_zero, Option.some.injEq] at hu
    subst hu
    obtain ⟨hil, rfl⟩ := List.getElem?_eq_some_iff.1 hi
    show W.cell? ((ad.add (j * 32)).add (i * 1 + 0)) = _
    rw [addr_add, Nat.mul_one, Nat.add_zero, hc i (by rw [← hd.1]; exact hil)]
    simp [rd, hil]
theorem dig_bts {w : World} {g t : Nat} {d : List Int} {fr : Nat × Nat} (h : w.heap[g]? = some (.cells (arr d) t fr)) (hd : Dig d) : Bts w (some ⟨g, 0, none⟩) 32 32 d := by
  have h2 := bytes_C h (by rw [hd.1]; omega)
  rw [hd.1] at h2
  exact ⟨h2, Nat.le_refl _, hd.2⟩
theorem idx_dgs (ad : Addr) (n cap i : Nat) (hi : i < n) (W : World) : (Instr.indexAt 31 (.slice (some ad) n cap) (.int .i64 (i : Int))).run Tryd.prog W = .ok (.pointer (some (ad.add (i * 32)))) W := by
  have hel : Tryd.prog.elem 31 = 25 := by kernel_rfl
  have hs : (sizeOf 25).run Tryd.prog W = .ok 32 W := by
    obtain ⟨j, hj, h1⟩ := Option.map_eq_some_iff.1 info_dig
    simp [sizeOf, typeInfo, hj, h1]
  rw [run_indexAt_slice W 31 _ _ _ _ _ (by rw [hel]; exact Tryd.underlying31)]
  simp [hi, hel, hs, Result.andThen]
theorem idx_bool (ad : Addr) (n cap i : Nat) (hi : i < n) (W : World) : (Instr.indexAt 68 (.slice (some ad) n cap) (.int .i64 (i : Int))).run Tryd.prog W = .ok (.pointer (some (ad.add i))) W := by
  have hel : Tryd.prog.elem 68 = 4 := by kernel_rfl
  obtain ⟨j, hj, h1, h2, h3⟩ := info_parts info_bool
  rw [run_indexAt_slice W 68 _ _ _ _ _ (by rw [hel]; exact Tryd.underlying68)]
  simp [hi, hel, sizeOf, typeInfo, hj, h2, Result.andThen]
theorem sl_dig (e : Addr) (W : World) : (Instr.sliceAt 25 (.pointer (some e)) none none none).run Tryd.prog W = .ok (.slice (some e) 32 32) W := by
  have hel : Tryd.prog.elem 25 = 5 := by kernel_rfl
  have hn : Tryd.prog.arrayLen 25 = 32 := by kernel_rfl
  obtain ⟨j, hj, h1, h2, h3⟩ := info_parts info5
  rw [run_sliceAt_array_all W 25 e (by rw [hn, hel]; exact Tryd.underlying25)]
  simp [hel, hn, sizeOf, typeInfo, hj, h2, Result.andThen, slicedAt, Addr.add]
end Go.Proofs.YtoaimcobcgomjaaDoor.Q
namespace Go.Proofs.YtoaimcobcgomjaaDoor.Q
open Go.RowKit Go.Proofs.YtoaimcobcgomjaaDoorW.PrintWords Go.Proofs.YtoaimcobcgomjaaDoorW.PrintLast Go.Proofs.YtoaimcobcgomjaaDoorW.PrintMore
set_option linter.unusedVariables false
set_option linter.unusedSimpArgs false
def fit10_T : Bool × List (List Nat × List Nat) := (true, [([], []), ([], []), ([], []), ([1, 2], [1, 2]), ([3], [3]), ([0, 4], [0, 4]), ([5, 0, 1, 2, 3, 4, 5], [5])])
def fit10_B : List Nat := [0, 0, 0, 6, 14, 31, 63]
theorem fit10_tab : rtab .any (opsOf Tryd.f20 10) = fit10_T := by kernel_rfl
theorem fit10_bits : waitsOk fit10_T.2 fit10_B = true := by kernel_rfl
def fit12_T : Bool × List (List Nat × List Nat) := (true, [([], []), ([], []), ([0, 1], [0, 1]), ([2], [2]), ([], []), ([3, 4], [3, 4]), ([5, 0, 1, 2, 3, 4, 5], [5])])
def fit12_B : List Nat := [0, 0, 3, 7, 0, 31, 63]
theorem fit12_tab : rtab .any (opsOf Tryd.f20 12) = fit12_T := by kernel_rfl
theorem fit12_bits : waitsOk fit12_T.2 fit12_B = true := by kernel_rfl
set_option maxHeartbeats 8000000 in
set_option maxRecDepth 100000 in
theorem fits_in (root : List Int) (hroot : Dig root) (many i : Int) (Ar As : Option Addr) (nr cr ns cs : Nat) (row : List Int) (sides : List (List Int)) (W : World) (br : Bts W Ar nr cr row) (bs : Digs W As ns cs sides) (hk : KT W) (d : outP many i row = false) (hsl : ns < 1000000) :
    Calls Tryd.prog 20 #[.agg (arr root), .int .i64 many, .int .i64 i, .slice Ar nr cr, .slice As ns cs] W fun e W' => e = .returned (.bool (fitsP root many i row sides)) ∧ Below W.heap.size W W' := by
  have hl := br.len
  have ef : fitsP root many i row sides = (decide ((turnsL many i).length = sides.length) && decide (foldD (tagOf 7 [row]) (turnsL many i) sides = root)) := by unfold fitsP; rw [if_neg (by rw [d]; simp)]
  simp only [outP, Bool.or_eq_false_iff, decide_eq_false_iff_not] at d
  rw [hl] at d
  obtain ⟨⟨⟨d1, d2⟩, d3⟩, d4⟩ := d
  obtain ⟨ts, hts⟩ : ∃ ts, turnsL many i = ts := ⟨_, rfl⟩
  have HTS := Aside0.mk hts
  rw [hts] at ef
  obtain ⟨DF, hDF⟩ : ∃ D, foldD (tagOf 7 [row]) ts sides = D := ⟨_, rfl⟩
  have HDF := Aside0.mk hDF
  rw [hDF] at ef
  rw [ef]
  have HB := Aside0.mk (Below.refl W.heap.size W)
  have HR := Aside0.mk hroot
  have HK := Aside0.mk hk
  have BR := Aside0.mk br
  have BS := Aside0.mk bs
  have RL : Aside0 (row.length ≤ 4096) := ⟨by rw [hl]; omega⟩
  have hsn := bs.len
  have HSN := Aside0.mk hsn
  rw [hsn]
  have TL : Aside0 (ts.length ≤ 256) := ⟨by rw [← hts]; unfold turnsL; rw [List.length_reverse]; exact upL_len 256 many i⟩
  obtain ⟨tn, htn⟩ : ∃ tn, ts.length = tn := ⟨_, rfl⟩
  have HTN := Aside0.mk htn
  rw [htn]
  have htn2 : tn ≤ 256 := by rw [← htn]; exact TL.out
  clear hts hDF ef br bs hl hk hroot hsn htn
  go_enter Tryd.func20, Tryd.ntmps20
  by_cases hne : tn = ns
  rotate_left
  · have hned : decide (tn = ns) = false := decide_eq_false hne
    rw [hned]
    go_wp2_with (
      first
      | ((with_reducible refine gate_dst (N := 5) rfl ?_); refine box_event ?hg (N := 5) ?hd (cs := arr root) (t := 25) ?hr ?_; (case hd => rfl); (case hg => rfl); (case hr => first | (go_simp; done) | (go_simp; rfl));
                     intro g5 hg w1 hbox hb; have HB1 := Aside0.mk (below_step HB.out hb); clear HB hb hbox hg; have HB := HB1; clear HB1)
      | (go_at_call 43; (with_reducible refine (turns_walk many i (by omega) (by omega) (by omega) (by omega) _).mono ?_); rintro e w2 ⟨v, rfl, hr, hb⟩; rw [HTS.out] at hr; obtain ⟨At, ct, rfl, _⟩ := Kd.Q_slice (Kd.Q_of_R hr); rw [HTN.out]; have HB1 := Aside0.mk (below_step HB.out hb); clear HB hb hr; have HB := HB1; clear HB1))
    go_ret
    exact ⟨rfl, HB.out⟩
  · subst hne
    have hdd : decide (tn = tn) = true := decide_eq_true rfl
    rw [hdd, Bool.true_and]
    clear hdd
    go_wp2_with (
      first
      | ((with_reducible refine gate_dst (N := 5) rfl ?_); refine box_event ?hg (N := 5) ?hd (cs := arr root) (t := 25) ?hr ?_; (case hd => rfl); (case hg => rfl); (case hr => first | (go_simp; done) | (go_simp; rfl));
                     intro g5 hg w1 hbox hb; have BK5 := Aside0.mk hbox; have HB1 := Aside0.mk (below_step HB.out hb); clear HB hb hbox hg; have HB := HB1; clear HB1)
      | (go_at_call 43; (with_reducible refine (turns_walk many i (by omega) (by omega) (by omega) (by omega) _).mono ?_); rintro e wt ⟨v, rfl, hr, hb⟩; rw [HTS.out] at hr; obtain ⟨At, ct, rfl, _⟩ := Kd.Q_slice (Kd.Q_of_R hr); have hrd := (Kd.Q_reads' (Kd.Q_of_R hr)).2.2; rw [HTN.out] at hrd; rw [HTN.out]; have CT := Aside0.mk hrd; have n1 := Aside0.mk (blk_below BK5.out hb); have HB1 := Aside0.mk (below_step HB.out hb); clear HB hb hr hrd BK5; have HB := HB1; have BK5 := n1; clear HB1 n1; have HT := Aside0.mk (Below.refl wt.heap.size wt))
      | (go_at_call 44; (with_reducible refine (tag1 7 (by decide) _ 1 22 cr nr Ar row _ (blk_new _ _) ((BR.out.below HB.out).alloc _) (Nat.le_refl _) (by have := RL.out; omega) (HK.out.below HK.out.lt (below_alloc HB.out _))).mono ?_); rintro e w3 ⟨rfl, hb⟩; have n1 := Aside0.mk (blk_below (blk_alloc BK5.out _) hb); have n2 := Aside0.mk (below_step (below_alloc HB.out _) hb); have n3 := Aside0.mk (below_step (below_alloc HT.out _) hb); clear BK5 HB HT hb; have BK5 := n1; have HB := n2; have HT := n3; clear n1 n2 n3)
      | ((with_reducible refine gate_dst (N := 12) rfl ?_); refine box_event ?hg (N := 12) ?hd (cs := arr zeros32) (t := 25) ?hr ?_; (case hd => rfl); (case hg => rfl); (case hr => first | (go_simp; done) | (go_simp; rfl));
                     intro g12 hg w1 hbox hb; have BK12 := Aside0.mk hbox; have G12 := Aside0.mk (show W.heap.size ≤ g12 by rw [hg]; exact below_size HB.out); have GT := Aside0.mk (show wt.heap.size ≤ g12 by rw [hg]; exact below_size HT.out); have N5_12 := Aside0.mk (show g5 ≠ g12 by rw [hg]; exact Nat.ne_of_lt (blk_lt BK5.out)); have n1 := Aside0.mk (blk_below BK5.out hb); have n2 := Aside0.mk (below_step HB.out hb); have n3 := Aside0.mk (below_step HT.out hb); clear BK5 HB HT hb hbox hg; have BK5 := n1; have HB := n2; have HT := n3; clear n1 n2 n3)
      | ((with_reducible refine gate_store (p := 12) rfl ?_); refine dig_store rfl (.tmp 12) (.tmp 42) rfl g12 (tagOf 7 [row]) zeros32 rfl rfl BK12.out (tagOf_len _ _) rfl ?_; intro wf bk hoth hbel; have n1 := Aside0.mk bk; have n2 := Aside0.mk ((hoth g5 N5_12.out).trans BK5.out); have n3 := Aside0.mk (hbel _ _ HB.out G12.out); have n4 := Aside0.mk (hbel _ _ HT.out GT.out); clear BK12 BK5 HB HT bk hoth hbel; have BK12 := n1; have BK5 := n2; have HB := n3; have HT := n4; clear n1 n2 n3 n4))
    go_loopw [13, 14, 15, 45] (fun _ _ _ x wr => ∃ k : Nat, k ≤ tn ∧ x = .int .i64 (k : Int) ∧ Aside0 (wr.heap[g12]? = some (.cells (arr (foldD (tagOf 7 [row]) (ts.take k) (sides.take k))) 25 (0, 0))) ∧ Aside0 (wr.heap[g5]? = some (.cells (arr root) 25 (0, 0))) ∧ Aside0 (Below W.heap.size W wr) ∧ Aside0 (Below wt.heap.size wt wr)) (fun _ _ _ x _ => tn - (intOf x).toNat)
    case atStart => exact ⟨0, by omega, rfl, ⟨by simpa [foldD] using BK12.out⟩, BK5, HB, HT⟩
    case round =>
      obtain ⟨k, hk, rfl, b12, b5, hB, hT⟩ := hrel
      clear BK12 BK5 HB HT
      have BK12 := b12
      have BK5 := b5
      have HB := hB
      have HT := hT
      clear b12 b5 hB hT
      by_cases hlt : k < tn
      · have hkt : k < ts.length := by rw [HTN.out]; exact hlt
        have hks : k < sides.length := by rw [HSN.out]; exact hlt
        obtain ⟨b, hb⟩ : ∃ b, ts[k] = b := ⟨_, rfl⟩
        obtain ⟨sd, hsd⟩ : ∃ s, sides[k] = s := ⟨_, rfl⟩
        obtain ⟨d, hd⟩ : ∃ d, foldD (tagOf 7 [row]) (ts.take k) (sides.take k) = d := ⟨_, rfl⟩
        obtain ⟨ad, hA, hS⟩ := BS.out.side k hks
        subst hA
        rw [hsd] at hS
        have SD := Aside0.mk hS
        have SDL : Aside0 (sd.length = 32) := ⟨by rw [← hsd]; exact (BS.out.dg _ (List.getElem_mem hks)).1⟩
        have DD : Aside0 (Dig d) := ⟨by rw [← hd]; exact foldD_dig _ _ _ (tagOf_dig _ _)⟩
        have DDL : Aside0 (d.length = 32) := ⟨DD.out.1⟩
        have FD : Aside0 (foldD (tagOf 7 [row]) (ts.take (k + 1)) (sides.take (k + 1)) = tagOf 8 (if b = true then [sd, d] else [d, sd])) := ⟨by rw [foldD_take ts k _ sides (by rw [HTN.out, HSN.out]) hkt, hb, hsd, hd]⟩
        rw [hd] at BK12
        obtain ⟨ad2, hA2, hcb⟩ := Kd.at_bool (Kd.C_below CT.out HT.out) (k : Int) (by omega) (by omega)
        subst hA2
        rw [Int.toNat_natCast] at hcb
        have hrb : rdOf false ts (k : Int) = b := by rw [← hb]; unfold rdOf; simp [hkt]
        rw [hrb] at hcb
        have hib : ∀ W : World, (Instr.indexAt 68 (.slice (some ad2) tn ct) (.int .i64 (k : Int))).run Tryd.prog W = .ok (.pointer (some (ad2.add k))) W := fun W => idx_bool ad2 tn ct k hlt W
        have his := fun W => idx_dgs ad tn cs k hlt W
        have hs1 := fun W => sl_dig ⟨g12, 0, none⟩ W
        have hs2 := fun W => sl_dig (ad.add (k * 32)) W
        clear hb hsd hd hS hrb
        cases b with
        | false =>
          go_wp2
          have HC : Aside0 (Below wr.heap.size wr wr.drew) := ⟨below_drew (Below.refl _ _)⟩
          refine start_ (n := 7) (S := fun w' => True) (ds := []) #[false, false, false, false, false, false, false] (by kernel_rfl) rfl rfl trivial (fun hHeld => ?_)
          refine with_tabW fit10_tab fit10_bits (fun HT_ HW_ => ?_)
          have n0 := Aside0.mk (below_step HB.out HC.out)
          have n1 := Aside0.mk (below_step HT.out HC.out)
          have n2 := Aside0.mk (blk_below BK12.out HC.out)
          have n3 := Aside0.mk (blk_below BK5.out HC.out)
          clear HB HT BK12 BK5 HC
          have HB := n0
          have HT := n1
          have BK12 := n2
          have BK5 := n3
          clear n0 n1 n2 n3
          generalize wr.drew = wa at HB HT BK12 BK5 ⊢
          refine pure_ (i := 0) (N := (some 50)) (v := ?_) (a' := ?_) #[true, false, false, false, false, false, false] rfl rfl (any_of HT_.out (by kernel_rfl)) (fun _ _ _ h => h) (Or.inl ⟨by rfl, ?_⟩) ?_ ?_
          rotate_left
          · intro w'
            go_simp
            first | with_reducible rfl | (simp; done) | rfl
          rotate_left
          · simp only [Act.put, List.setIfInBounds_toArray, List.set_cons_zero, List.set_cons_succ, i64_w, i32_w]
            rfl
          refine pure_ (i := 1) (N := (some 51)) (v := ?_) (a' := ?_) #[true, true, false, false, false, false, false] rfl rfl (any_of HT_.out (by kernel_rfl)) (fun _ _ _ h => h) (Or.inl ⟨by rfl, ?_⟩) ?_ ?_
          rotate_left
          · intro w'
            go_simp
            first | with_reducible rfl | (simp; done) | rfl
          rotate_left
          · simp only [Act.put, List.setIfInBounds_toArray, List.set_cons_zero, List.set_cons_succ, i64_w, i32_w]
            rfl
          refine pure_ (i := 2) (N := (some 52)) (v := ?_) (a' := ?_) #[true, true, true, false, false, false, false] rfl rfl (any_of HT_.out (by kernel_rfl)) (fun _ _ _ h => h) (Or.inl ⟨by rfl, ?_⟩) ?_ ?_
          rotate_left
          · intro w'
            go_simp
            first | with_reducible rfl | (simp; done) | rfl
          rotate_left
          · simp only [Act.put, List.setIfInBounds_toArray, List.set_cons_zero, List.set_cons_succ, i64_w, i32_w]
            rfl
          refine pure_ (i := 3) (N := (some 53)) (v := ?_) (a' := ?_) #[true, true, true, true, false, false, false] rfl rfl (any_of HT_.out (by kernel_rfl)) (fun _ _ _ h => h) (Or.inl ⟨by rfl, ?_⟩) ?_ ?_
          rotate_left
          · intro w'
            go_simp
            first | with_reducible rfl | (simp; done) | rfl
          rotate_left
          · simp only [Act.put, List.setIfInBounds_toArray, List.set_cons_zero, List.set_cons_succ, i64_w, i32_w]
            rfl
          refine pure_ (i := 4) (N := (some 54)) (v := ?_) (a' := ?_) #[true, true, true, true, true, false, false] rfl rfl (any_of HT_.out (by kernel_rfl)) (fun _ _ _ h => h) (Or.inl ⟨by rfl, ?_⟩) ?_ ?_
          rotate_left
          · intro w'
            go_simp
            first | with_reducible rfl | (simp; done) | rfl
          rotate_left
          · simp only [Act.put, List.setIfInBounds_toArray, List.set_cons_zero, List.set_cons_succ, i64_w, i32_w]
            rfl
          refine one_ (i := 5) (N := (some 55)) #[true, true, true, true, true, true, false] rfl rfl (one_of HT_.out (by kernel_rfl)) (by decide) (fun K hK => ?_)
          refine value_ (v := .slice (some ⟨wa.heap.size, 0, none⟩) 2 2) (w1 := wa.alloc (.cells #[.slice (some ⟨g12, 0, none⟩) 32 32, .slice (some (ad.add (k * 32))) 32 32] 22)) (by rfl) rfl ?_ ?_
          · go_simp
            first | done | rfl
          refine hK.out _ _ trivial (fun hHeld => ?_)
          clear hK K
          refine norm_ (a' := ?_) ?_ ?_
          rotate_left
          · show Act.put _ (some 55) _ = _
            simp only [Act.put, List.setIfInBounds_toArray, List.set_cons_zero, List.set_cons_succ, i64_w, i32_w]
            rfl
          refine pure_ (i := 6) (N := (some 15)) (v := ?_) (a' := ?_) #[true, true, true, true, true, true, true] rfl rfl (any_of HT_.out (by kernel_rfl)) (fun _ _ _ h => h) (Or.inl ⟨by rfl, ?_⟩) ?_ ?_
          rotate_left
          · intro w'
            go_simp
            first | with_reducible rfl | (simp; done) | rfl
          rotate_left
          · simp only [Act.put, List.setIfInBounds_toArray, List.set_cons_zero, List.set_cons_succ, i64_w, i32_w]
            rfl
          refine done_ (done_of HT_.out (by kernel_rfl)) ?_
          obtain ⟨wb, hwb⟩ : ∃ w', wa.alloc (.cells #[.slice (some ⟨g12, 0, none⟩) 32 32, .slice (some (ad.add (k * 32))) 32 32] 22) = w' := ⟨_, rfl⟩
          have HC : Aside0 (Below wa.heap.size wa wb) := ⟨by rw [← hwb]; exact below_new wa _⟩
          have NB : Aside0 (wb.heap[wa.heap.size]? = some (.cells #[.slice (some ⟨g12, 0, none⟩) 32 32, .slice (some (ad.add (k * 32))) 32 32] 22 (0, 0))) := ⟨by rw [← hwb]; exact blk_new wa _⟩
          rw [hwb]
          clear hwb
          have n0 := Aside0.mk (below_step HB.out HC.out)
          have n1 := Aside0.mk (below_step HT.out HC.out)
          have n2 := Aside0.mk (blk_below BK12.out HC.out)
          have n3 := Aside0.mk (blk_below BK5.out HC.out)
          clear HB HT BK12 BK5 HC
          have HB := n0
          have HT := n1
          have BK12 := n2
          have BK5 := n3
          clear n0 n1 n2 n3
          go_wp2_with (
            first
            | (go_at_call 44; (with_reducible refine (tag2 8 (by decide) _ 2 22 32 32 32 32 _ _ d sd _ NB.out (dig_bts BK12.out DD.out) ((SD.out.below HB.out)) (Nat.le_refl _) (by rw [DDL.out]; omega) (by rw [SDL.out]; omega) (HK.out.below HK.out.lt HB.out)).mono ?_); rintro e we ⟨rfl, hb⟩; have HC := Aside0.mk hb; have n0 := Aside0.mk (below_step HB.out HC.out); have n1 := Aside0.mk (below_step HT.out HC.out); have n2 := Aside0.mk (blk_below BK12.out HC.out); have n3 := Aside0.mk (blk_below BK5.out HC.out); clear HB HT BK12 BK5 HC; have HB := n0; have HT := n1; have BK12 := n2; have BK5 := n3; clear n0 n1 n2 n3; clear hb)
            | ((with_reducible refine gate_store (p := 12) rfl ?_); refine dig_store rfl (.tmp 12) (.tmp 64) rfl g12 (tagOf 8 [d, sd]) d rfl rfl BK12.out (tagOf_len _ _) DD.out.1 ?_; intro wf bk hoth hbel; have n1 := Aside0.mk bk; have n2 := Aside0.mk ((hoth g5 N5_12.out).trans BK5.out); have n3 := Aside0.mk (hbel _ _ HB.out G12.out); have n4 := Aside0.mk (hbel _ _ HT.out GT.out); clear BK12 BK5 HB HT bk hoth hbel; have BK12 := n1; have BK5 := n2; have HB := n3; have HT := n4; clear n1 n2 n3 n4))
          exact ⟨⟨k + 1, by omega, by simp, ⟨by rw [FD.out]; exact BK12.out⟩, BK5, HB, HT⟩, by simp [intOf]; omega⟩
        | true =>
          go_wp2
          have HC : Aside0 (Below wr.heap.size wr wr.drew) := ⟨below_drew (Below.refl _ _)⟩
          refine start_ (n := 7) (S := fun w' => True) (ds := []) #[false, false, false, false, false, false, false] (by kernel_rfl) rfl rfl trivial (fun hHeld => ?_)
          refine with_tabW fit10_tab fit10_bits (fun HT_ HW_ => ?_)
          have n0 := Aside0.mk (below_step HB.out HC.out)
          have n1 := Aside0.mk (below_step HT.out HC.out)
          have n2 := Aside0.mk (blk_below BK12.out HC.out)
          have n3 := Aside0.mk (blk_below BK5.out HC.out)
          clear HB HT BK12 BK5 HC
          have HB := n0
          have HT := n1
          have BK12 := n2
          have BK5 := n3
          clear n0 n1 n2 n3
          generalize wr.drew = wa at HB HT BK12 BK5 ⊢
          refine pure_ (i := 0) (N := (some 50)) (v := ?_) (a' := ?_) #[true, false, false, false, false, false, false] rfl rfl (any_of HT_.out (by kernel_rfl)) (fun _ _ _ h => h) (Or.inl ⟨by rfl, ?_⟩) ?_ ?_
          rotate_left
          · intro w'
            go_simp
            first | with_reducible rfl | (simp; done) | rfl
          rotate_left
          · simp only [Act.put, List.setIfInBounds_toArray, List.set_cons_zero, List.set_cons_succ, i64_w, i32_w]
            rfl
          refine pure_ (i := 1) (N := (some 51)) (v := ?_) (a' := ?_) #[true, true, false, false, false, false, false] rfl rfl (any_of HT_.out (by kernel_rfl)) (fun _ _ _ h => h) (Or.inl ⟨by rfl, ?_⟩) ?_ ?_
          rotate_left
          · intro w'
            go_simp
            first | with_reducible rfl | (simp; done) | rfl
          rotate_left
          · simp only [Act.put, List.setIfInBounds_toArray, List.set_cons_zero, List.set_cons_succ, i64_w, i32_w]
            rfl
          refine pure_ (i := 2) (N := (some 52)) (v := ?_) (a' := ?_) #[true, true, true, false, false, false, false] rfl rfl (any_of HT_.out (by kernel_rfl)) (fun _ _ _ h => h) (Or.inl ⟨by rfl, ?_⟩) ?_ ?_
          rotate_left
          · intro w'
            go_simp
            first | with_reducible rfl | (simp; done) | rfl
          rotate_left
          · simp only [Act.put, List.setIfInBounds_toArray, List.set_cons_zero, List.set_cons_succ, i64_w, i32_w]
            rfl
          refine pure_ (i := 3) (N := (some 53)) (v := ?_) (a' := ?_) #[true, true, true, true, false, false, false] rfl rfl (any_of HT_.out (by kernel_rfl)) (fun _ _ _ h => h) (Or.inl ⟨by rfl, ?_⟩) ?_ ?_
          rotate_left
          · intro w'
            go_simp
            first | with_reducible rfl | (simp; done) | rfl
          rotate_left
          · simp only [Act.put, List.setIfInBounds_toArray, List.set_cons_zero, List.set_cons_succ, i64_w, i32_w]
            rfl
          refine pure_ (i := 4) (N := (some 54)) (v := ?_) (a' := ?_) #[true, true, true, true, true, false, false] rfl rfl (any_of HT_.out (by kernel_rfl)) (fun _ _ _ h => h) (Or.inl ⟨by rfl, ?_⟩) ?_ ?_
          rotate_left
          · intro w'
            go_simp
            first | with_reducible rfl | (simp; done) | rfl
          rotate_left
          · simp only [Act.put, List.setIfInBounds_toArray, List.set_cons_zero, List.set_cons_succ, i64_w, i32_w]
            rfl
          refine one_ (i := 5) (N := (some 55)) #[true, true, true, true, true, true, false] rfl rfl (one_of HT_.out (by kernel_rfl)) (by decide) (fun K hK => ?_)
          refine value_ (v := .slice (some ⟨wa.heap.size, 0, none⟩) 2 2) (w1 := wa.alloc (.cells #[.slice (some ⟨g12, 0, none⟩) 32 32, .slice (some (ad.add (k * 32))) 32 32] 22)) (by rfl) rfl ?_ ?_
          · go_simp
            first | done | rfl
          refine hK.out _ _ trivial (fun hHeld => ?_)
          clear hK K
          refine norm_ (a' := ?_) ?_ ?_
          rotate_left
          · show Act.put _ (some 55) _ = _
            simp only [Act.put, List.setIfInBounds_toArray, List.set_cons_zero, List.set_cons_succ, i64_w, i32_w]
            rfl
          refine pure_ (i := 6) (N := (some 15)) (v := ?_) (a' := ?_) #[true, true, true, true, true, true, true] rfl rfl (any_of HT_.out (by kernel_rfl)) (fun _ _ _ h => h) (Or.inl ⟨by rfl, ?_⟩) ?_ ?_
          rotate_left
          · intro w'
            go_simp
            first | with_reducible rfl | (simp; done) | rfl
          rotate_left
          · simp only [Act.put, List.setIfInBounds_toArray, List.set_cons_zero, List.set_cons_succ, i64_w, i32_w]
            rfl
          refine done_ (done_of HT_.out (by kernel_rfl)) ?_
          obtain ⟨wb, hwb⟩ : ∃ w', wa.alloc (.cells #[.slice (some ⟨g12, 0, none⟩) 32 32, .slice (some (ad.add (k * 32))) 32 32] 22) = w' := ⟨_, rfl⟩
          have HC : Aside0 (Below wa.heap.size wa wb) := ⟨by rw [← hwb]; exact below_new wa _⟩
          have NB : Aside0 (wb.heap[wa.heap.size]? = some (.cells #[.slice (some ⟨g12, 0, none⟩) 32 32, .slice (some (ad.add (k * 32))) 32 32] 22 (0, 0))) := ⟨by rw [← hwb]; exact blk_new wa _⟩
          rw [hwb]
          clear hwb
          have n0 := Aside0.mk (below_step HB.out HC.out)
          have n1 := Aside0.mk (below_step HT.out HC.out)
          have n2 := Aside0.mk (blk_below BK12.out HC.out)
          have n3 := Aside0.mk (blk_below BK5.out HC.out)
          clear HB HT BK12 BK5 HC
          have HB := n0
          have HT := n1
          have BK12 := n2
          have BK5 := n3
          clear n0 n1 n2 n3
          go_wp2
          have HC : Aside0 (Below wb.heap.size wb wb.drew) := ⟨below_drew (Below.refl _ _)⟩
          refine start_ (n := 7) (S := fun w' => True) (ds := []) #[false, false, false, false, false, false, false] (by kernel_rfl) rfl rfl trivial (fun hHeld => ?_)
          refine with_tabW fit12_tab fit12_bits (fun HT_ HW_ => ?_)
          have n0 := Aside0.mk (below_step HB.out HC.out)
          have n1 := Aside0.mk (below_step HT.out HC.out)
          have n2 := Aside0.mk (blk_below BK12.out HC.out)
          have n3 := Aside0.mk (blk_below BK5.out HC.out)
          clear HB HT BK12 BK5 HC
          have HB := n0
          have HT := n1
          have BK12 := n2
          have BK5 := n3
          clear n0 n1 n2 n3
          generalize wb.drew = wc at HB HT BK12 BK5 ⊢
          refine pure_ (i := 0) (N := (some 57)) (v := ?_) (a' := ?_) #[true, false, false, false, false, false, false] rfl rfl (any_of HT_.out (by kernel_rfl)) (fun _ _ _ h => h) (Or.inl ⟨by rfl, ?_⟩) ?_ ?_
          rotate_left
          · intro w'
            go_simp
            first | with_reducible rfl | (simp; done) | rfl
          rotate_left
          · simp only [Act.put, List.setIfInBounds_toArray, List.set_cons_zero, List.set_cons_succ, i64_w, i32_w]
            rfl
          refine pure_ (i := 1) (N := (some 58)) (v := ?_) (a' := ?_) #[true, true, false, false, false, false, false] rfl rfl (any_of HT_.out (by kernel_rfl)) (fun _ _ _ h => h) (Or.inl ⟨by rfl, ?_⟩) ?_ ?_
          rotate_left
          · intro w'
            go_simp
            first | with_reducible rfl | (simp; done) | rfl
          rotate_left
          · simp only [Act.put, List.setIfInBounds_toArray, List.set_cons_zero, List.set_cons_succ, i64_w, i32_w]
            rfl
          refine pure_ (i := 2) (N := (some 59)) (v := ?_) (a' := ?_) #[true, true, true, false, false, false, false] rfl rfl (any_of HT_.out (by kernel_rfl)) (fun _ _ _ h => h) (Or.inl ⟨by rfl, ?_⟩) ?_ ?_
          rotate_left
          · intro w'
            go_simp
            first | with_reducible rfl | (simp; done) | rfl
          rotate_left
          · simp only [Act.put, List.setIfInBounds_toArray, List.set_cons_zero, List.set_cons_succ, i64_w, i32_w]
            rfl
          refine pure_ (i := 3) (N := (some 60)) (v := ?_) (a' := ?_) #[true, true, true, true, false, false, false] rfl rfl (any_of HT_.out (by kernel_rfl)) (fun _ _ _ h => h) (Or.inl ⟨by rfl, ?_⟩) ?_ ?_
          rotate_left
          · intro w'
            go_simp
            first | with_reducible rfl | (simp; done) | rfl
          rotate_left
          · simp only [Act.put, List.setIfInBounds_toArray, List.set_cons_zero, List.set_cons_succ, i64_w, i32_w]
            rfl
          refine pure_ (i := 4) (N := (some 61)) (v := ?_) (a' := ?_) #[true, true, true, true, true, false, false] rfl rfl (any_of HT_.out (by kernel_rfl)) (fun _ _ _ h => h) (Or.inl ⟨by rfl, ?_⟩) ?_ ?_
          rotate_left
          · intro w'
            go_simp
            first | with_reducible rfl | (simp; done) | rfl
          rotate_left
          · simp only [Act.put, List.setIfInBounds_toArray, List.set_cons_zero, List.set_cons_succ, i64_w, i32_w]
            rfl
          refine one_ (i := 5) (N := (some 62)) #[true, true, true, true, true, true, false] rfl rfl (one_of HT_.out (by kernel_rfl)) (by decide) (fun K hK => ?_)
          refine value_ (v := .slice (some ⟨wc.heap.size, 0, none⟩) 2 2) (w1 := wc.alloc (.cells #[.slice (some (ad.add (k * 32))) 32 32, .slice (some ⟨g12, 0, none⟩) 32 32] 22)) (by rfl) rfl ?_ ?_
          · go_simp
            first | done | rfl
          refine hK.out _ _ trivial (fun hHeld => ?_)
          clear hK K
          refine norm_ (a' := ?_) ?_ ?_
          rotate_left
          · show Act.put _ (some 62) _ = _
            simp only [Act.put, List.setIfInBounds_toArray, List.set_cons_zero, List.set_cons_succ, i64_w, i32_w]
            rfl
          refine pure_ (i := 6) (N := (some 15)) (v := ?_) (a' := ?_) #[true, true, true, true, true, true, true] rfl rfl (any_of HT_.out (by kernel_rfl)) (fun _ _ _ h => h) (Or.inl ⟨by rfl, ?_⟩) ?_ ?_
          rotate_left
          · intro w'
            go_simp
            first | with_reducible rfl | (simp; done) | rfl
          rotate_left
          · simp only [Act.put, List.setIfInBounds_toArray, List.set_cons_zero, List.set_cons_succ, i64_w, i32_w]
            rfl
          refine done_ (done_of HT_.out (by kernel_rfl)) ?_
          obtain ⟨wd, hwd⟩ : ∃ w', wc.alloc (.cells #[.slice (some (ad.add (k * 32))) 32 32, .slice (some ⟨g12, 0, none⟩) 32 32] 22) = w' := ⟨_, rfl⟩
          have HC : Aside0 (Below wc.heap.size wc wd) := ⟨by rw [← hwd]; exact below_new wc _⟩
          have ND : Aside0 (wd.heap[wc.heap.size]? = some (.cells #[.slice (some (ad.add (k * 32))) 32 32, .slice (some ⟨g12, 0, none⟩) 32 32] 22 (0, 0))) := ⟨by rw [← hwd]; exact blk_new wc _⟩
          rw [hwd]
          clear hwd NB
          have n0 := Aside0.mk (below_step HB.out HC.out)
          have n1 := Aside0.mk (below_step HT.out HC.out)
          have n2 := Aside0.mk (blk_below BK12.out HC.out)
          have n3 := Aside0.mk (blk_below BK5.out HC.out)
          clear HB HT BK12 BK5 HC
          have HB := n0
          have HT := n1
          have BK12 := n2
          have BK5 := n3
          clear n0 n1 n2 n3
          go_wp2_with (
            first
            | (go_at_call 44; (with_reducible refine (tag2 8 (by decide) _ 2 22 32 32 32 32 _ _ sd d _ ND.out ((SD.out.below HB.out)) (dig_bts BK12.out DD.out) (Nat.le_refl _) (by rw [SDL.out]; omega) (by rw [DDL.out]; omega) (HK.out.below HK.out.lt HB.out)).mono ?_); rintro e we ⟨rfl, hb⟩; have HC := Aside0.mk hb; have n0 := Aside0.mk (below_step HB.out HC.out); have n1 := Aside0.mk (below_step HT.out HC.out); have n2 := Aside0.mk (blk_below BK12.out HC.out); have n3 := Aside0.mk (blk_below BK5.out HC.out); clear HB HT BK12 BK5 HC; have HB := n0; have HT := n1; have BK12 := n2; have BK5 := n3; clear n0 n1 n2 n3; clear hb)
            | ((with_reducible refine gate_store (p := 12) rfl ?_); refine dig_store rfl (.tmp 12) (.tmp 64) rfl g12 (tagOf 8 [sd, d]) d rfl rfl BK12.out (tagOf_len _ _) DD.out.1 ?_; intro wf bk hoth hbel; have n1 := Aside0.mk bk; have n2 := Aside0.mk ((hoth g5 N5_12.out).trans BK5.out); have n3 := Aside0.mk (hbel _ _ HB.out G12.out); have n4 := Aside0.mk (hbel _ _ HT.out GT.out); clear BK12 BK5 HB HT bk hoth hbel; have BK12 := n1; have BK5 := n2; have HB := n3; have HT := n4; clear n1 n2 n3 n4))
          exact ⟨⟨k + 1, by omega, by simp, ⟨by rw [FD.out]; exact BK12.out⟩, BK5, HB, HT⟩, by simp [intOf]; omega⟩
      · have hk2 : k = tn := by omega
        have HD : Aside0 (Dig DF) := ⟨by rw [← HDF.out]; exact foldD_dig _ _ _ (tagOf_dig _ _)⟩
        have BKD : Aside0 (wr.heap[g12]? = some (.cells (arr DF) 25 (0, 0))) := ⟨by
          have h := BK12.out
          rw [List.take_of_length_le (by rw [HTN.out]; omega), List.take_of_length_le (by rw [HSN.out]; omega), HDF.out] at h
          exact h⟩
        have hse : ∀ W, (binOp .eql 25 (.agg (arr DF)) (.agg (arr root))).run Tryd.prog W = .ok (.bool (decide (DF = root))) W := fun W => run_eql_dig DF root HD.out HR.out W
        have heg := eqg_dig
        clear BK12 hk2
        go_wp2_with (
          first
          | ((with_reducible refine gate_dst (N := 66) rfl ?_); refine wpList_load_row rfl 25 (.tmp 12) rfl g12 rfl 25 (arr DF) (0, 0) _ BKD.out Tryd.underlying25 rfl (by rw [arr_size, HD.out.1]; exact info_dig) ?_)
          | ((with_reducible refine gate_dst (N := 67) rfl ?_); refine wpList_load_row rfl 25 (.tmp 5) rfl g5 rfl 25 (arr root) (0, 0) _ BK5.out Tryd.underlying25 rfl (by rw [arr_size, HR.out.1]; exact info_dig) ?_))
        go_ret
        exact ⟨rfl, HB.out⟩
end Go.Proofs.YtoaimcobcgomjaaDoor.Q
namespace Go.Proofs.YtoaimcobcgomjaaDoor.Q
open Go.RowKit Go.Proofs.YtoaimcobcgomjaaDoorW.PrintWords Go.Proofs.YtoaimcobcgomjaaDoorW.PrintLast Go.Proofs.YtoaimcobcgomjaaDoorW.PrintMore
set_option linter.unusedVariables false
set_option linter.unusedSimpArgs false
/-- A digest loaded out of the middle of a row. -/
theorem run_loadVar_dig (w : World) (e : Addr) (ds : List Int) (hl : ds.length = 32) (hc : ∀ i, i < 32 → w.cell? (e.add i) = some (.int .u8 (rd ds (i : Int)))) : (loadVar 25 e).run Tryd.prog w = .ok (.agg (arr ds)) w := by
  have hr : (loadCells e (arr ds).toList.length).run Tryd.prog w = .ok (arr ds).toList.toArray w :=
    run_loadCells_list (P := Tryd.prog) w e (arr ds).toList (fun j v hv => by
      have hj : j < 32 := by
        have := (List.getElem?_eq_some_iff.1 hv).1
        rw [Array.length_toList, arr_size, hl] at this
        exact this
      rw [hc j hj]
      rw [Array.getElem?_toList, arr_get ds j (by omega)] at hv
      exact hv)
  obtain ⟨i, hq, hs⟩ := Option.map_eq_some_iff.1 info_dig
  have hagg : (isAgg 25).run Tryd.prog w = .ok true w := by
    unfold isAgg
    rw [Sem.run_bind, run_underlying Tryd.underlying25 w]
    rfl
  rw [Array.length_toList, arr_size, hl, Array.toArray_toList] at hr
  simp [loadVar, Sem.run_bind, hagg, sizeOf, typeInfo, hq, hs, hr]
end Go.Proofs.YtoaimcobcgomjaaDoor.Q
namespace Go.Proofs.YtoaimcobcgomjaaDoor.Q
open Go.RowKit Go.Proofs.YtoaimcobcgomjaaDoorW.PrintWords Go.Proofs.YtoaimcobcgomjaaDoorW.PrintLast Go.Proofs.YtoaimcobcgomjaaDoorW.PrintMore
set_option linter.unusedVariables false
set_option linter.unusedSimpArgs false
end Go.Proofs.YtoaimcobcgomjaaDoor.Q
namespace Go.Proofs.YtoaimcobcgomjaaDoor.Q
open Go.RowKit Go.ChangeShapes Go.WideShapes Go.ChangeAt Go.Deep Go.Joins Go.Proofs.YtoaimcobcgomjaaDoorW.PrintWords
end Go.Proofs.YtoaimcobcgomjaaDoor.Q
namespace Go.Proofs.YtoaimcobcgomjaaDoor.Q
open Go.RowKit Go.Proofs.YtoaimcobcgomjaaDoorW.PrintWords Go.Proofs.YtoaimcobcgomjaaDoorW.PrintLast Go.Proofs.YtoaimcobcgomjaaDoorW.PrintMore
set_option linter.unusedVariables false
set_option linter.unusedSimpArgs false
/-- A slice of rows reads as a list. -/
structure Rws (W : World) (A : Option Addr) (n c : Nat) (l : List (List Int)) : Prop where
  rd_ : (Kd.slice 5 (Kd.int .u8)).C W A n l
  le : n ≤ c
  by_ : ∀ p ∈ l, ∀ x ∈ p, 0 ≤ x ∧ x < 256
theorem Rws.len {W : World} {A : Option Addr} {n c : Nat} {l : List (List Int)} (h : Rws W A n c l) : l.length = n := h.rd_.1
theorem Rws.below {W w : World} {A : Option Addr} {n c : Nat} {l : List (List Int)} (h : Rws W A n c l) (hb : Below W.heap.size W w) : Rws w A n c l := ⟨Kd.C_below h.rd_ hb, h.le, h.by_⟩
theorem Rws.max {W : World} {A : Option Addr} {n c : Nat} {l : List (List Int)} (h : Rws W A n c l) : n ≤ 9223372036854775807 := h.rd_.2.1
theorem Rws.take {W : World} {A : Option Addr} {n c : Nat} {l : List (List Int)} (h : Rws W A n c l) (m : Nat) (hm : m ≤ n) : Rws W A m c (l.take m) := by
  have hl := h.len
  subst hl
  have h2 := Kd.C_take h.rd_ hm
  rw [List.length_take, Nat.min_eq_left hm] at h2
  exact ⟨h2, by have := h.le; omega, fun p hp => h.by_ p (List.mem_of_mem_take hp)⟩
theorem Rws.drop {W : World} {A : Option Addr} {n c : Nat} {l : List (List Int)} (h : Rws W A n c l) (m : Nat) (hm : m ≤ n) : Rws W (if c = m then A else A.map (·.add (m * 1))) (n - m) (c - m) (l.drop m) := by
  have hl := h.len
  subst hl
  have h2 := Kd.C_drop h.rd_ hm h.le
  rw [List.length_drop] at h2
  exact ⟨h2, by have := h.le; omega, fun p hp => h.by_ p (List.mem_of_mem_drop hp)⟩
theorem Rws.row {W : World} {A : Option Addr} {n c : Nat} {l : List (List Int)} (h : Rws W A n c l) (j : Nat) (hj : j < l.length) : ∃ ad A0 c0, A = some ad ∧ W.cell? (ad.add j) = some (.slice A0 l[j].length c0) ∧ Bts W A0 l[j].length c0 l[j] := by
  have hl := h.len
  obtain ⟨ad, A0, c0, e, hc, hle, hC⟩ := at_L1 h.rd_ (j : Int) (by omega) (by omega)
  rw [rd_L1_at l j hj, Int.toNat_natCast] at hc
  rw [rd_L1_at l j hj] at hle hC
  exact ⟨ad, A0, c0, e, hc, hC, hle, h.by_ _ (List.getElem_mem hj)⟩
/-- Whether rows are a list. -/
def listP (l : List (List Int)) : Bool := decide (l.length ≤ 256) && !(l.any fun p => decide (4096 < p.length))
/-- The predicate of rows.list. -/
theorem long_walk (A : Option Addr) (n c : Nat) (w : World) :
    Calls Tryd.prog 56 #[.slice A n c] w fun e w' => e = .returned (.bool (decide (4096 < (n : Int)))) ∧ w' = w := by
  go_enter Tryd.func56, Tryd.ntmps56
  go_wp2
  go_ret
  exact ⟨rfl, rfl⟩
set_option maxHeartbeats 4000000 in
set_option maxRecDepth 100000 in
theorem indexLong_walk (A : Option Addr) (n c : Nat) (l : List (List Int)) (W : World) (br : Rws W A n c l) :
    Calls Tryd.prog 68 #[.slice A n c, .func (.func 56) #[] #[]] W fun e W' => ∃ i : Int, e = .returned (.int .i64 i) ∧ decide (0 ≤ i) = l.any (fun p => decide (4096 < p.length)) ∧ Below W.heap.size W W' := by
  have BR := Aside0.mk br
  have hln := br.len
  have hmx := br.max
  have HB := Aside0.mk (Below.refl W.heap.size W)
  have HLN := Aside0.mk hln
  clear br hln
  go_enter Tryd.func68, Tryd.ntmps68
  go_wp2
  go_loopw [5, 8] (fun _ x wr => ∃ k : Nat, k ≤ n ∧ x = .int .i64 (k : Int) ∧ Aside0 (∀ j, (hj : j < l.length) → j < k → l[j].length ≤ 4096) ∧ Aside0 (Below W.heap.size W wr)) (fun _ x _ => n - (intOf x).toNat)
  case atStart => exact ⟨0, by omega, rfl, ⟨fun j _ hj => by omega⟩, HB⟩
  case round =>
    obtain ⟨k, hk, rfl, hall, hB⟩ := hrel
    clear HB
    have HB := hB
    clear hB
    by_cases hlt : k < n
    · obtain ⟨ad, A0, c0, hA, hcell, _⟩ := (BR.out.below HB.out).row k (by rw [HLN.out]; exact hlt)
      subst hA
      obtain ⟨m, hm⟩ : ∃ m, (l[k]'(by rw [HLN.out]; exact hlt)).length = m := ⟨_, rfl⟩
      rw [hm] at hcell
      have HM := Aside0.mk hm
      clear hm
      by_cases hlong : 4096 < (m : Int)
      · have hd : decide (4096 < (m : Int)) = true := decide_eq_true hlong
        have HANY : Aside0 (l.any (fun p => decide (4096 < p.length)) = true) := ⟨by
          have hkl : k < l.length := by rw [HLN.out]; exact hlt
          exact List.any_eq_true.2 ⟨l[k], List.getElem_mem hkl, decide_eq_true (by have := HM.out; omega)⟩⟩
        clear hlong
        go_wp2_with (go_at_call 56; refine (long_walk A0 m c0 _).mono ?_; rintro e w' ⟨rfl, rfl⟩; rw [hd])
        go_ret
        exact ⟨(k : Int), rfl, by
          rw [decide_eq_true (show (0 : Int) ≤ (k : Int) by omega)]
          exact HANY.out.symm, HB.out⟩
      · have hd : decide (4096 < (m : Int)) = false := decide_eq_false hlong
        have HL := Aside0.mk hlong
        clear hlong
        go_wp2_with (go_at_call 56; refine (long_walk A0 m c0 _).mono ?_; rintro e w' ⟨rfl, rfl⟩; rw [hd])
        exact ⟨⟨k + 1, by omega, by simp, ⟨fun j hj hjk => by
          by_cases e : j = k
          · subst e
            have := HL.out; have := HM.out; omega
          · exact hall.out j hj (by omega)⟩, HB⟩, by simp [intOf]; omega⟩
    · go_wp2
      go_ret
      exact ⟨-1, rfl, by
        rw [decide_eq_false (by omega)]
        refine (List.any_eq_false.2 fun p hp => ?_).symm
        obtain ⟨j, hj, rfl⟩ := List.mem_iff_getElem.1 hp
        have := hall.out j hj (by rw [HLN.out] at hj; omega)
        simp; omega, HB.out⟩
theorem contains_walk (A : Option Addr) (n c : Nat) (l : List (List Int)) (W : World) (br : Rws W A n c l) :
    Calls Tryd.prog 55 #[.slice A n c, .func (.func 56) #[] #[]] W fun e W' => e = .returned (.bool (l.any (fun p => decide (4096 < p.length)))) ∧ Below W.heap.size W W' := by
  have HI : Aside0 (∀ w, W = w → Calls Tryd.prog 68 #[.slice A n c, .func (.func 56) #[] #[]] w fun e W' => ∃ i : Int, e = .returned (.int .i64 i) ∧ decide (0 ≤ i) = l.any (fun p => decide (4096 < p.length)) ∧ Below w.heap.size w W') := ⟨fun w hw => by subst hw; exact indexLong_walk A n c l W br⟩
  clear br
  obtain ⟨b, hb⟩ : ∃ b, l.any (fun p => decide (4096 < p.length)) = b := ⟨_, rfl⟩
  rw [hb] at HI ⊢
  clear hb
  go_enter Tryd.func55, Tryd.ntmps55
  go_wp2_with (go_at_call 68; (with_reducible refine (HI.out _ rfl).mono ?_); rintro e w1 ⟨i, rfl, hd, hB⟩; have HD := Aside0.mk hd; have HB := Aside0.mk hB; clear hd hB)
  go_ret
  exact ⟨HD.out ▸ rfl, HB.out⟩
theorem list_walk (A : Option Addr) (n c : Nat) (l : List (List Int)) (W : World) (br : Rws W A n c l) :
    Calls Tryd.prog 39 #[.slice A n c] W fun e W' => e = .returned (.bool (listP l)) ∧ Below W.heap.size W W' := by
  have HI : Aside0 (∀ w, W = w → Calls Tryd.prog 55 #[.slice A n c, .func (.func 56) #[] #[]] w fun e W' => e = .returned (.bool (l.any (fun p => decide (4096 < p.length)))) ∧ Below w.heap.size w W') := ⟨fun w hw => by subst hw; exact contains_walk A n c l W br⟩
  have hln := br.len
  unfold listP
  rw [hln]
  clear br hln
  obtain ⟨b, hb⟩ : ∃ b, l.any (fun p => decide (4096 < p.length)) = b := ⟨_, rfl⟩
  rw [hb] at HI ⊢
  clear hb
  by_cases h : (n : Int) ≤ 256
  · have h2 : decide (n ≤ 256) = true := decide_eq_true (by omega)
    rw [h2, Bool.true_and]
    clear h2
    go_enter Tryd.func39, Tryd.ntmps39
    go_wp2_with (go_at_call 55; (with_reducible refine (HI.out _ rfl).mono ?_); rintro e w1 ⟨rfl, hB⟩; have HB := Aside0.mk hB; clear hB)
    go_ret
    exact ⟨rfl, HB.out⟩
  · have h2 : decide (n ≤ 256) = false := decide_eq_false (by omega)
    rw [h2, Bool.false_and]
    clear h2
    go_enter Tryd.func39, Tryd.ntmps39
    go_wp2
    go_ret
    exact ⟨rfl, Below.refl _ _⟩
end Go.Proofs.YtoaimcobcgomjaaDoor.Q
namespace Go.Proofs.YtoaimcobcgomjaaDoor.Q
open Go.RowKit Go.Proofs.YtoaimcobcgomjaaDoorW.PrintWords Go.Proofs.YtoaimcobcgomjaaDoorW.PrintLast Go.Proofs.YtoaimcobcgomjaaDoorW.PrintMore
set_option linter.unusedVariables false
set_option linter.unusedSimpArgs false
/-- How many of so many stand in the first part: a count. -/
def frontN (n : Nat) : Nat := (frontZ (n : Int)).toNat
theorem frontN_range (n : Nat) (h0 : 2 ≤ n) (h1 : n ≤ 256) : 1 ≤ frontN n ∧ frontN n < n ∧ ((frontN n : Nat) : Int) = frontZ (n : Int) := by
  obtain ⟨a, b, c⟩ := frontZ_range (n : Int) (by omega) (by omega)
  unfold frontN
  omega
/-- The root of rows; k: how many rows at most. -/
def rootK : Nat → List (List Int) → List Int
  | 0, _ => tagOf 0 []
  | k + 1, l => if l.length = 0 then tagOf 0 [] else if l.length = 1 then tagOf 7 [l.headD []] else tagOf 8 [rootK k (l.take (frontN l.length)), rootK k (l.drop (frontN l.length))]
theorem rootK_dig (k : Nat) (l : List (List Int)) : Dig (rootK k l) := by
  cases k with
  | zero => exact tagOf_dig _ _
  | succ k =>
    simp only [rootK]
    repeat' split
    all_goals exact tagOf_dig _ _
theorem rootK_fuel (k : Nat) : ∀ (m : Nat) (l : List (List Int)), l.length ≤ 256 → l.length ≤ k → l.length ≤ m → rootK k l = rootK m l := by
  induction k with
  | zero =>
    intro m l h h1 h2
    cases m with
    | zero => rfl
    | succ m => simp only [rootK]; rw [if_pos (by omega)]
  | succ k ih =>
    intro m l h h1 h2
    cases m with
    | zero => simp only [rootK]; rw [if_pos (by omega)]
    | succ m =>
      simp only [rootK]
      by_cases h3 : l.length = 0
      · rw [if_pos h3, if_pos h3]
      · rw [if_neg h3, if_neg h3]
        by_cases h4 : l.length = 1
        · rw [if_pos h4, if_pos h4]
        · rw [if_neg h4, if_neg h4]
          obtain ⟨a, b, _⟩ := frontN_range l.length (by omega) h
          rw [ih m (l.take (frontN l.length)) (by rw [List.length_take]; omega) (by rw [List.length_take]; omega) (by rw [List.length_take]; omega), ih m (l.drop (frontN l.length)) (by rw [List.length_drop]; omega) (by rw [List.length_drop]; omega) (by rw [List.length_drop]; omega)]
def rootP (l : List (List Int)) : List Int := rootK 256 l
theorem rootP_dig (l : List (List Int)) : Dig (rootP l) := rootK_dig _ _
theorem rootP_none (l : List (List Int)) (h : l.length = 0) : rootP l = tagOf 0 [] := if_pos h
theorem rootP_one (l : List (List Int)) (h : l.length = 1) : rootP l = tagOf 7 [l[0]'(by omega)] := by
  unfold rootP
  show (if l.length = 0 then tagOf 0 [] else if l.length = 1 then tagOf 7 [l.headD []] else tagOf 8 [rootK 255 (l.take (frontN l.length)), rootK 255 (l.drop (frontN l.length))]) = _
  rw [if_neg (by omega), if_pos h]
  match l, h with
  | [x], _ => rfl
theorem rootP_two (l : List (List Int)) (h : 2 ≤ l.length) (h2 : l.length ≤ 256) : rootP l = tagOf 8 [rootP (l.take (frontN l.length)), rootP (l.drop (frontN l.length))] := by
  have e : rootP l = (if l.length = 0 then tagOf 0 [] else if l.length = 1 then tagOf 7 [l.headD []] else tagOf 8 [rootK 255 (l.take (frontN l.length)), rootK 255 (l.drop (frontN l.length))]) := rfl
  obtain ⟨a, b, _⟩ := frontN_range l.length h h2
  rw [e, if_neg (by omega), if_neg (by omega), rootK_fuel 255 256 (l.take (frontN l.length)) (by rw [List.length_take]; omega) (by rw [List.length_take]; omega) (by rw [List.length_take]; omega), rootK_fuel 255 256 (l.drop (frontN l.length)) (by rw [List.length_drop]; omega) (by rw [List.length_drop]; omega) (by rw [List.length_drop]; omega)]
  rfl
theorem rows_to (A : Option Addr) (n c m : Nat) (hm : m ≤ n) (hc : n ≤ c) : ∀ W : World, (Instr.slice 29 (.slice A n c) none (some (.int .i64 (m : Int))) none).run Tryd.prog W = .ok (.slice A m c) W := fun W => by
  obtain ⟨j, hj, _⟩ := info_parts info22
  have := cut_to 29 22 .i64 Tryd.underlying29 hj A n c (m : Int) (by omega) (by omega) hc W
  rwa [Int.toNat_natCast] at this
theorem rows_from (A : Option Addr) (n c m : Nat) (hm : m ≤ n) : ∀ W : World, (Instr.slice 29 (.slice A n c) (some (.int .i64 (m : Int))) none none).run Tryd.prog W = .ok (.slice (if c = m then A else A.map (·.add (m * 1))) (n - m) (c - m)) W := fun W => by
  obtain ⟨j, hj, _, hs, _⟩ := info_parts info22
  have := cut_from 29 22 .i64 Tryd.underlying29 hj 1 hs A n c (m : Int) (by omega) (by omega) W
  rwa [Int.toNat_natCast] at this
/-- Rows that are short enough. -/
def Short (l : List (List Int)) : Prop := ∀ p ∈ l, p.length < 1000000
theorem Short.take {l : List (List Int)} (h : Short l) (m : Nat) : Short (l.take m) := fun p hp => h p (List.mem_of_mem_take hp)
theorem Short.drop {l : List (List Int)} (h : Short l) (m : Nat) : Short (l.drop m) := fun p hp => h p (List.mem_of_mem_drop hp)
end Go.Proofs.YtoaimcobcgomjaaDoor.Q
namespace Go.Proofs.YtoaimcobcgomjaaDoor.Q
open Go.RowKit Go.Proofs.YtoaimcobcgomjaaDoorW.PrintWords Go.Proofs.YtoaimcobcgomjaaDoorW.PrintLast Go.Proofs.YtoaimcobcgomjaaDoorW.PrintMore
set_option linter.unusedVariables false
set_option linter.unusedSimpArgs false
/-- A row's sides; k: how many rows at most. -/
def sidesK : Nat → List (List Int) → Nat → List (List Int)
  | 0, _, _ => []
  | k + 1, l, i => if l.length ≤ 1 then [] else if i < frontN l.length then sidesK k (l.take (frontN l.length)) i ++ [rootP (l.drop (frontN l.length))] else sidesK k (l.drop (frontN l.length)) (i - frontN l.length) ++ [rootP (l.take (frontN l.length))]
theorem sidesK_fuel (k : Nat) : ∀ (m : Nat) (l : List (List Int)) (i : Nat), l.length ≤ 256 → l.length ≤ k → l.length ≤ m → sidesK k l i = sidesK m l i := by
  induction k with
  | zero =>
    intro m l i h h1 h2
    cases m with
    | zero => rfl
    | succ m => simp only [sidesK]; rw [if_pos (by omega)]
  | succ k ih =>
    intro m l i h h1 h2
    cases m with
    | zero => simp only [sidesK]; rw [if_pos (by omega)]
    | succ m =>
      simp only [sidesK]
      by_cases h3 : l.length ≤ 1
      · rw [if_pos h3, if_pos h3]
      · obtain ⟨a, b, _⟩ := frontN_range l.length (by omega) h
        rw [if_neg h3, if_neg h3, ih m (l.take (frontN l.length)) i (by rw [List.length_take]; omega) (by rw [List.length_take]; omega) (by rw [List.length_take]; omega), ih m (l.drop (frontN l.length)) (i - frontN l.length) (by rw [List.length_drop]; omega) (by rw [List.length_drop]; omega) (by rw [List.length_drop]; omega)]
def sidesP (l : List (List Int)) (i : Nat) : List (List Int) := sidesK 256 l i
theorem sidesP_one (l : List (List Int)) (i : Nat) (h : l.length ≤ 1) : sidesP l i = [] := if_pos h
theorem sidesP_two (l : List (List Int)) (i : Nat) (h : 2 ≤ l.length) (h2 : l.length ≤ 256) : sidesP l i = if i < frontN l.length then sidesP (l.take (frontN l.length)) i ++ [rootP (l.drop (frontN l.length))] else sidesP (l.drop (frontN l.length)) (i - frontN l.length) ++ [rootP (l.take (frontN l.length))] := by
  have e : sidesP l i = (if l.length ≤ 1 then [] else if i < frontN l.length then sidesK 255 (l.take (frontN l.length)) i ++ [rootP (l.drop (frontN l.length))] else sidesK 255 (l.drop (frontN l.length)) (i - frontN l.length) ++ [rootP (l.take (frontN l.length))]) := rfl
  obtain ⟨a, b, _⟩ := frontN_range l.length h h2
  rw [e, if_neg (by omega), sidesK_fuel 255 256 (l.take (frontN l.length)) i (by rw [List.length_take]; omega) (by rw [List.length_take]; omega) (by rw [List.length_take]; omega), sidesK_fuel 255 256 (l.drop (frontN l.length)) (i - frontN l.length) (by rw [List.length_drop]; omega) (by rw [List.length_drop]; omega) (by rw [List.length_drop]; omega)]
  rfl
theorem turnsL_one (n i : Int) (h : n ≤ 1) : turnsL n i = [] := by unfold turnsL; rw [upL_one 256 n i h]; rfl
theorem turnsL_left (n i : Int) (h1 : 1 < n) (h2 : n ≤ 256) (h : i < frontZ n) : turnsL n i = turnsL (frontZ n) i ++ [false] := by
  unfold turnsL
  rw [upL_256 n i h1 h2, if_neg (by omega), List.reverse_cons]
theorem turnsL_right (n i : Int) (h1 : 1 < n) (h2 : n ≤ 256) (h : frontZ n ≤ i) : turnsL n i = turnsL (n - frontZ n) (i - frontZ n) ++ [true] := by
  unfold turnsL
  rw [upL_256 n i h1 h2, if_pos h, List.reverse_cons]
theorem sides_len (k : Nat) : ∀ (l : List (List Int)) (i : Nat), l.length ≤ k → l.length ≤ 256 → i < l.length → (sidesP l i).length = (turnsL (l.length : Int) (i : Int)).length := by
  induction k with
  | zero => intro l i h1 h2 h3; omega
  | succ k ih =>
    intro l i h1 h2 h3
    by_cases h : l.length ≤ 1
    · rw [sidesP_one l i h, turnsL_one _ _ (by omega)]
      rfl
    · obtain ⟨a, b, c⟩ := frontN_range l.length (by omega) h2
      rw [sidesP_two l i (by omega) h2]
      by_cases hi : i < frontN l.length
      · have := ih (l.take (frontN l.length)) i (by rw [List.length_take]; omega) (by rw [List.length_take]; omega) (by rw [List.length_take]; omega)
        rw [List.length_take, Nat.min_eq_left (by omega), c] at this
        rw [if_pos hi, turnsL_left _ _ (by omega) (by omega) (by omega), List.length_append, List.length_append, this]
        rfl
      · have := ih (l.drop (frontN l.length)) (i - frontN l.length) (by rw [List.length_drop]; omega) (by rw [List.length_drop]; omega) (by rw [List.length_drop]; omega)
        rw [List.length_drop, Int.ofNat_sub (by omega), Int.ofNat_sub (by omega), c] at this
        rw [if_neg hi, turnsL_right _ _ (by omega) (by omega) (by omega), List.length_append, List.length_append, this]
        rfl
/-- Each row's sides fit its list's root, at its place. -/
theorem sides_fit (k : Nat) : ∀ (l : List (List Int)) (i : Nat) (p : List Int), l[i]? = some p → l.length ≤ k → l.length ≤ 256 → foldD (tagOf 7 [p]) (turnsL (l.length : Int) (i : Int)) (sidesP l i) = rootP l := by
  induction k with
  | zero => intro l i p h h1 h2; have := (List.getElem?_eq_some_iff.1 h).1; omega
  | succ k ih =>
    intro l i p hp h1 h2
    obtain ⟨h3, hq⟩ := List.getElem?_eq_some_iff.1 hp
    by_cases h : l.length ≤ 1
    · rw [sidesP_one l i h, turnsL_one _ _ (by omega), rootP_one l (by omega)]
      obtain rfl : i = 0 := by omega
      subst hq
      rfl
    · obtain ⟨a, b, c⟩ := frontN_range l.length (by omega) h2
      rw [sidesP_two l i (by omega) h2, rootP_two l (by omega) h2]
      by_cases hi : i < frontN l.length
      · have hl : (l.take (frontN l.length)).length = frontN l.length := by rw [List.length_take]; omega
        have e := ih (l.take (frontN l.length)) i p (by rw [List.getElem?_take, if_pos hi]; exact hp) (by omega) (by omega)
        have g := sides_len 256 (l.take (frontN l.length)) i (by omega) (by omega) (by omega)
        rw [hl, c] at e g
        rw [if_pos hi, turnsL_left _ _ (by omega) (by omega) (by omega), foldD_snoc _ _ _ _ _ (by rw [g]), e]
        rfl
      · have hl : (l.drop (frontN l.length)).length = l.length - frontN l.length := by rw [List.length_drop]
        have e := ih (l.drop (frontN l.length)) (i - frontN l.length) p (by rw [List.getElem?_drop, Nat.add_sub_cancel' (by omega)]; exact hp) (by omega) (by omega)
        have g := sides_len 256 (l.drop (frontN l.length)) (i - frontN l.length) (by omega) (by omega) (by omega)
        rw [hl, Int.ofNat_sub (by omega), Int.ofNat_sub (by omega), c] at e g
        rw [if_neg hi, turnsL_right _ _ (by omega) (by omega) (by omega), foldD_snoc _ _ _ _ _ (by rw [g]), e]
        rfl
theorem front_pow : ∀ (m : Fin 8) (n : Fin 257), 2 ≤ n.1 → n.1 ≤ 2 ^ (m.1 + 1) → frontZ (n.1 : Int) ≤ 2 ^ m.1 := by decide +kernel
theorem up_pow (m : Nat) : ∀ (n i : Int), m ≤ 8 → n ≤ 2 ^ m → (upL 256 n i).length ≤ m := by
  induction m with
  | zero => intro n i hm h; rw [upL_one 256 n i (by simpa using h)]; exact Nat.le_refl _
  | succ m ih =>
    intro n i hm h
    by_cases h1 : n ≤ 1
    · rw [upL_one 256 n i h1]; exact Nat.zero_le _
    · have h8 : n ≤ 256 := Int.le_trans h (by
        have : ∀ m : Fin 8, (2 : Int) ^ (m.1 + 1) ≤ 256 := by decide +kernel
        exact this ⟨m, by omega⟩)
      have hr := frontZ_range n (by omega) h8
      have hf : frontZ n ≤ 2 ^ m := by
        obtain ⟨q, rfl⟩ := Int.eq_ofNat_of_zero_le (show 0 ≤ n by omega)
        exact front_pow ⟨m, by omega⟩ ⟨q, by omega⟩ (by simp only; omega) (by simp only; exact_mod_cast h)
      rw [upL_256 n i (by omega) h8]
      split
      · rw [List.length_cons]; have := ih (n - frontZ n) (i - frontZ n) (by omega) (by omega); omega
      · rw [List.length_cons]; have := ih (frontZ n) i (by omega) hf; omega
theorem sides_eight (l : List (List Int)) (i : Nat) (h : l.length ≤ 256) (hi : i < l.length) : (sidesP l i).length ≤ 8 := by
  rw [sides_len 256 l i h h hi]
  unfold turnsL
  rw [List.length_reverse]
  exact up_pow 8 _ _ (Nat.le_refl _) (by omega)
end Go.Proofs.YtoaimcobcgomjaaDoor.Q
namespace Go.Proofs.YtoaimcobcgomjaaDoor.Q
open Go.RowKit Go.Proofs.YtoaimcobcgomjaaDoorW.PrintWords Go.Proofs.YtoaimcobcgomjaaDoorW.PrintLast Go.Proofs.YtoaimcobcgomjaaDoorW.PrintMore
set_option linter.unusedVariables false
set_option linter.unusedSimpArgs false
/-- Digests' cells, one behind the other. -/
def flatD (ds : List (List Int)) : List Value := ds.flatMap fun d => (arr d).toList
theorem flatD_append (a b : List (List Int)) : flatD (a ++ b) = flatD a ++ flatD b := List.flatMap_append
theorem flatD_one (d : List Int) : flatD [d] = (arr d).toList := by simp [flatD]
theorem flatD_len (ds : List (List Int)) (h : ∀ d ∈ ds, Dig d) : (flatD ds).length = ds.length * 32 := by
  induction ds with
  | nil => rfl
  | cons d ds ih =>
    have hd := h d List.mem_cons_self
    have e := ih fun x hx => h x (List.mem_cons_of_mem _ hx)
    have e1 : flatD (d :: ds) = (arr d).toList ++ flatD ds := by simp [flatD]
    rw [e1, List.length_append, e, Array.length_toList, arr_size, hd.1, List.length_cons]
    omega
theorem flatD_get (ds : List (List Int)) (h : ∀ d ∈ ds, Dig d) : ∀ (j i : Nat) (hj : j < ds.length), i < 32 → (flatD ds)[j * 32 + i]? = some (.int .u8 (rd ds[j] (i : Int))) := by
  induction ds with
  | nil => intro j i hj; simp at hj
  | cons d ds ih =>
    intro j i hj hi
    have hd := h d List.mem_cons_self
    have e1 : flatD (d :: ds) = (arr d).toList ++ flatD ds := by simp [flatD]
    have e2 : (arr d).toList.length = 32 := by rw [Array.length_toList, arr_size, hd.1]
    rw [e1]
    cases j with
    | zero =>
      rw [List.getElem?_append_left (by omega), Array.getElem?_toList, Nat.zero_mul, Nat.zero_add, arr_get d i (by rw [hd.1]; exact hi)]
      rfl
    | succ j =>
      rw [List.getElem?_append_right (by omega), e2, show (j + 1) * 32 + i - 32 = j * 32 + i by omega]
      exact ih (fun x hx => h x (List.mem_cons_of_mem _ hx)) j i (by simpa using hj) hi
theorem flatD_cell (ds : List (List Int)) : ∀ u ∈ flatD ds, u.oneCell' = true := fun u hu => by
  obtain ⟨d, _, hd⟩ := List.mem_flatMap.1 hu
  obtain ⟨j, hj, rfl⟩ := List.mem_iff_getElem.1 hd
  have h1 := arr_one d
  rw [Array.all_eq_true] at h1
  have := h1 j (by simpa using hj)
  simpa using this
theorem info_digs : (Tryd.prog.info? 25).map (fun i => (i.zero, i.size, i.bytes)) = some (some (.agg (arr zeros32)), 32, 32) := by kernel_rfl
/-- What a call's own slice of digests reads as. -/
theorem own_digs {W : World} {base n : Nat} {v : Value} {ds : List (List Int)} (h : W.ownsRow base 25 32 v n (flatD ds)) (hd : ∀ d ∈ ds, Dig d) : ∃ A c, v = .slice A n c ∧ Digs W A n c ds := by
  have hl := h.1
  rw [flatD_len ds hd] at hl
  rcases h.2 with ⟨rfl, h0⟩ | ⟨g, cap, cur, rfl, _, hh, hn, hcm, hsz, htk⟩
  · subst h0
    obtain rfl : ds = [] := List.eq_nil_of_length_eq_zero (by omega)
    exact ⟨none, 0, rfl, ⟨rfl, Nat.le_refl _, by omega, fun j hj => by simp at hj, fun d hd => by cases hd⟩⟩
  · refine ⟨some ⟨g, 0, none⟩, cap, rfl, ⟨by omega, hn, by unfold maxLen at hcm; omega, fun j hj => ⟨_, rfl, fun i hi => ?_⟩, hd⟩⟩
    have e := flatD_get ds hd j i hj hi
    rw [← htk, List.getElem?_take, if_pos (by omega), Array.getElem?_toList] at e
    have e2 : (⟨g, 0, none⟩ : Addr).add (j * 32 + i) = ⟨g, j * 32 + i, none⟩ := by
      unfold Addr.add
      by_cases h0 : j * 32 + i = 0
      · rw [h0]; rfl
      · rw [if_neg h0, Nat.zero_add]
    rw [e2]
    exact (cell_of_row W g (j * 32 + i) cur 25 (0, 0) hh).trans e
/-- A slice literal of digests. -/
theorem fill_digs (ds : List (List Int)) (h : ∀ d ∈ ds, Dig d) (cells : Array Value) (hc : cells.size = ds.length * 32) :
    Instr.fill (fun i => some (i * 32, 32)) cells (((ds.map fun d => Value.agg (arr d)).zipIdx 0).map fun x => (x.2, x.1)) = some (flatD ds).toArray := by
  obtain ⟨r, hr, hsz, hk⟩ := Great.fill_dense (s := 32) (by omega) (ds.map fun d => Value.agg (arr d)) 0 cells (fun v hv => by
    obtain ⟨d, hd, rfl⟩ := List.mem_map.1 hv
    show (arr d).size = 32
    rw [arr_size, (h d hd).1]) (by rw [List.length_map, hc]; omega)
  rw [hr]
  congr 1
  refine Array.ext_getElem? fun k => ?_
  rw [hk k, show (flatD ds).toArray[k]? = (flatD ds)[k]? from List.getElem?_toArray]
  have hlen := flatD_len ds h
  simp only [Nat.zero_mul, Nat.zero_le, true_and, Nat.zero_add, List.length_map, Nat.sub_zero]
  by_cases hlt : k < ds.length * 32
  · rw [if_pos hlt]
    have e := flatD_get ds h (k / 32) (k % 32) (by omega) (by omega)
    rw [show k / 32 * 32 + k % 32 = k by omega] at e
    rw [e, List.getElem?_map, List.getElem?_eq_getElem (show k / 32 < ds.length by omega)]
    show (arr (ds[k / 32]'(by omega)))[k % 32]? = _
    exact arr_get _ _ (by rw [(h _ (List.getElem_mem _)).1]; omega)
  · rw [if_neg hlt, Array.getElem?_eq_none (by rw [hc]; omega), List.getElem?_eq_none (by rw [hlen]; omega)]
theorem run_build_digs (w : World) (ds : List (List Int)) (h : ∀ d ∈ ds, Dig d) (parts : Array (Nat × Value)) (hp : parts.toList = ((ds.map fun d => Value.agg (arr d)).zipIdx 0).map fun x => (x.2, x.1)) (h0 : 0 < ds.length) (h1 : ds.length ≤ 100) :
    (Instr.buildSlice 31 ds.length parts).run Tryd.prog w = .ok (.slice (some ⟨w.heap.size, 0, none⟩) ds.length ds.length) (w.alloc (.cells (flatD ds).toArray 25)) := by
  obtain ⟨i0, hi0, hz0, hz1, hz2⟩ := info_parts info_digs
  refine run_buildSlice w 31 25 ds.length parts _ i0 (.agg (arr zeros32)) Tryd.underlying31 hi0 hz0 (by rw [hz1]; omega) (by rw [hz1]; omega) ?_
  rw [hz1, hp]
  exact fill_digs ds h _ (by simp)
/-- The literal of one digest, as an operation. -/
theorem build_one {o : Oper} {a : Act} {w : World} {x : Operand} {d : List Int} (ho : o.op = .buildSlice 31 1 #[(0, x)]) (hx : a.eval x = .agg (arr d)) (hd : Dig d) :
    (execOp a.eval o).run Tryd.prog w = .ok (.value (.slice (some ⟨w.heap.size, 0, none⟩) 1 1)) (w.alloc (.cells (arr d) 25)) := by
  have h := run_build_digs w [d] (fun x hx => by rw [List.mem_singleton.1 hx]; exact hd) #[(0, .agg (arr d))] rfl (by simp) (by simp)
  have e : (flatD [d]).toArray = arr d := by rw [flatD_one]
  rw [e] at h
  unfold execOp
  simp only [ho, List.map_toArray, List.map_cons, List.map_nil, hx]
  simp only [List.length_cons, List.length_nil, Nat.zero_add] at h
  simp [h, Sem.run_bind, Result.andThen]
/-- A call of a function value. -/
theorem goes_dyn {ops : Array Oper} {oi : Oper} {N : Option Tmp} {a : Act} {w : World} {K : Act → World → Prop} {f : FuncId} {fn : Func} {ars : Array Operand} {ts : Array TypeId} {x : Operand} {cap all : Array Value} {Q : Exit → Act → World → Prop} (hf : Tryd.prog.funcs[f]? = some fn) (hname : (fn.name == "runtime.NumGoroutine") = false) (hb : fn.body.isSome = true) (args : Array Value)
    (hw : Region.wanted oi (yielded ops a.tmps) = true) (hN : oi.dst = N) (hop : oi.op = .call { callee := .value x, args := ars, argTypes := ts }) (hx : a.eval x = .func (.func f) #[] cap) (hargs : ars.map a.eval = args) (hall : args ++ cap = all)
    (h : Calls Tryd.prog f all w fun e w' => ∃ v, e = .returned v ∧ K (a.put N v) w') : if Region.wanted oi (yielded ops a.tmps) = true then Oper.wp Tryd.prog oi a w K Q else K (a.put N undef) w := by
  subst hall
  refine call_ f (args ++ cap) hw hN ?_ h
  have he := enters_ hf hname hb (args ++ cap) w
  unfold execOp
  simp [hop, resolve, hx, Deferred.ofValue, invoke, hargs, he]
end Go.Proofs.YtoaimcobcgomjaaDoor.Q
namespace Go.Proofs.YtoaimcobcgomjaaDoor.Q
open Go.RowKit Go.Proofs.YtoaimcobcgomjaaDoorW.PrintWords Go.Proofs.YtoaimcobcgomjaaDoorW.PrintLast Go.Proofs.YtoaimcobcgomjaaDoorW.PrintMore
set_option linter.unusedVariables false
set_option linter.unusedSimpArgs false
theorem addr0 (g j : Nat) : (⟨g, 0, none⟩ : Addr).add j = ⟨g, j, none⟩ := by
  unfold Addr.add
  by_cases h0 : j = 0
  · rw [h0]; rfl
  · rw [if_neg h0, Nat.zero_add]
theorem row_news {w : World} {g t : Nat} {cs : Array Value} {fr : Nat × Nat} (h : w.heap[g]? = some (.cells cs t fr)) : ∀ (j : Nat) (u : Value), cs.toList[j]? = some u → w.cell? ((⟨g, 0, none⟩ : Addr).add j) = some u := fun j u hu => by
  rw [addr0]
  exact (cell_of_row w g j cs t fr h).trans (by rw [← Array.getElem?_toList]; exact hu)
theorem arr_ones (d : List Int) : ∀ u ∈ (arr d).toList, u.oneCell' = true := fun u hu => flatD_cell [d] u (by rw [flatD_one]; exact hu)
theorem below_grown {B : Nat} {W w w' : World} {v : Value} {n : Nat} {e size : Nat} {xs : List Value} (hB : Below B W w) (hs : B ≤ w.heap.size) (ho : w.ownsRow B e size v n xs) (hg : w.grownBy w' v.ownBlock) : Below B W w' :=
  hB.grown hg hs (fun k hk => by
    rcases ho.2 with ⟨rfl, _⟩ | ⟨g, cap, cur, rfl, hb, _⟩
    · simp [Value.ownBlock] at hk
    · simp only [Value.ownBlock, Option.some.injEq] at hk
      omega)
end Go.Proofs.YtoaimcobcgomjaaDoor.Q
namespace Go.Proofs.YtoaimcobcgomjaaDoor.Q
open Go.RowKit Go.Shelf Go.Proofs.YtoaimcobcgomjaaDoorW.PrintWords Go.Proofs.YtoaimcobcgomjaaDoorW.PrintLast Go.Proofs.YtoaimcobcgomjaaDoorW.PrintMore
set_option linter.unusedVariables false
set_option linter.unusedSimpArgs false
attribute [local go_sem] Oper.semAt_some
set_option maxHeartbeats 1000000 in
theorem halves_in (n : Nat) (A : Option Addr) (len c : Nat) (w : World) :
    CallsIn Fence.wide n Tryd.prog 58 #[.slice A len c] w fun e w' => e = .returned (.func (.func 71) #[] #[.pointer (some ⟨w.heap.size, 0, none⟩)]) ∧ w' = w.alloc (.cells #[.slice A len c] 29) := by
  refine callsIn_of_wp Tryd.func58 rfl trivial ?_ rfl
  simp only [Tryd.ntmps58, List.size_toArray, List.length_cons, List.length_nil, Nat.reduceAdd, Nat.reduceSub, Array.replicate_succ, Array.replicate_zero, List.push_toArray, List.append_toArray, List.nil_append, List.cons_append]
  gi_wp2
  go_ret
  exact ⟨rfl, rfl⟩
/-- A part, as it is handed to a round: the first (false) or the second. -/
def partV (A A2 : Option Addr) (len c m : Nat) (b : Bool) : Array Value := if b = true then #[.slice A2 (len - m) (c - m)] else #[.slice A m c]
/-- A round keeps the block that the iterator reads. -/
def KpB (Bs : Nat) (W1 W2 : World) : Prop := ∀ v, W1.cell? ⟨Bs, 0, none⟩ = some v → W2.cell? ⟨Bs, 0, none⟩ = some v
theorem halves_stops (n : Nat) (hn : 1 ≤ n) (Bs : Nat) (A A2 : Option Addr) (len c m : Nat) (h2 : 2 ≤ len) (h256 : len ≤ 256) (hm : frontN len = m) (hlc : len ≤ c) (hA2 : (if c = m then A else A.map (·.add (m * 1))) = A2) (w : World) (hBs : Bs < w.heap.size) (hcell : w.cell? ⟨Bs, 0, none⟩ = some (.slice A len c)) :
    SeqStopsK Fence.wide n Tryd.prog 71 #[.pointer (some ⟨Bs, 0, none⟩)] (partV A A2 len c m) (KpB Bs) (fun ys => ys = [false, true]) (fun _ => True) 2 w := fun l J Jx W hW hJ hJx hY h0 => by
  have hmr := frontN_range len h2 h256
  rw [hm] at hmr
  obtain ⟨hm1, hm2, hm3⟩ := hmr
  have hct := rows_to A len c m (by omega) hlc
  have hcf := rows_from A len c m (by omega)
  simp only [hA2] at hcf
  have FF : Aside0 (rows_front.f (len : Int) = some (m : Int)) := ⟨by rw [front_f (len : Int) (by omega) (by omega), hm3]⟩
  have hc0 : W.cell? ⟨Bs, 0, none⟩ = some (.slice A len c) := (hW.cell (p := ⟨Bs, 0, none⟩) hBs).trans hcell
  have HY := Aside0.mk hY
  have HJ := Aside0.mk hJ
  clear hY hcell hm3 hA2 hJ
  refine callsIn_of_wp Tryd.func71 rfl trivial ?_ rfl
  simp only [Tryd.ntmps71, List.size_toArray, List.length_cons, List.length_nil, Nat.reduceAdd, Nat.reduceSub, Array.replicate_succ, Array.replicate_zero, List.push_toArray, List.append_toArray, List.nil_append, List.cons_append]
  have hFront : ∀ W : World, CallsIn Fence.wide (n - 1) Tryd.prog 41 #[.int .i64 (len : Int)] W fun e w' => e = .returned (.int .i64 (m : Int)) ∧ Drawn0 W w' := fun W => callsIn_wide.2 (rows_front.calls (len : Int) (m : Int) W FF.out)
  gi_wp2_with (first | (refine ⟨trivial, ?_⟩; gi_at_call 41; refine (hFront _).mono ?_; rintro e w' ⟨rfl, ⟨nd, rfl⟩⟩; have hcd : (W.drewN nd).cell? ⟨Bs, 0, none⟩ = some (.slice A len c) := hc0; obtain ⟨fn, tmps, assign, body, hy, hR⟩ := HY.out [] false (W.drewN nd) (HJ.out [] W _ none h0 ⟨rfl, rfl, rfl, Nat.le_refl _, fun _ _ _ => rfl⟩ (fun r e => by cases e)) (by simp); simp only [partV, Bool.false_eq_true, if_false] at hy))
  refine hR.mono ?_
  rintro e W3 (⟨rfl, hJ3, hk3⟩ | ⟨rfl, hJx3⟩)
  · have hc3 := hk3 _ hcd
    obtain ⟨fn2, tmps2, assign2, body2, hy2, hR2⟩ := HY.out ([] ++ [false]) true W3 hJ3 (by simp)
    simp only [partV, if_true] at hy2
    clear hy hR hcd hc0 h0
    gi_wp2
    refine hR2.mono ?_
    rintro e W4 (⟨rfl, hJ4, hk4⟩ | ⟨rfl, hJx4⟩)
    · gi_wp2
      go_end0
      exact ⟨⟨_, rfl⟩, .inl ⟨_, rfl, hJ4⟩⟩
    · gi_wp2
      go_end0
      exact ⟨⟨_, rfl⟩, .inr ⟨_, trivial, hJx4⟩⟩
  · gi_wp2
    go_end0
    exact ⟨⟨_, rfl⟩, .inr ⟨_, trivial, hJx3⟩⟩
end Go.Proofs.YtoaimcobcgomjaaDoor.Q
namespace Go.Proofs.YtoaimcobcgomjaaDoor.Q
open Go.RowKit Go.Proofs.YtoaimcobcgomjaaDoorW.PrintWords Go.Proofs.YtoaimcobcgomjaaDoorW.PrintLast Go.Proofs.YtoaimcobcgomjaaDoorW.PrintMore
set_option linter.unusedVariables false
theorem rows_in {P : Program} {r n : Nat} {row : String} {args : Array Value} {w : World} {R : Value → World → Prop} (h : Rows P row args w R) : RowsIn (Fence.wide.inRound r) n P row args w R := fun c cs _ =>
  let ⟨v, w', hr, s⟩ := h c cs
  ⟨v, w', hr, stepsIn_wide.2 s⟩
theorem oper_in {P : Program} {r n : Nat} {o : Oper} {a : Act} {w : World} {K : Act → World → Prop} {Q : Exit → Act → World → Prop} (hd : ∀ c, o.op ≠ .defer c) (h : o.wp P a w K Q) : o.wpIn (Fence.wide.inRound r) n P a w K Q := by
  unfold Oper.wp at h
  unfold Oper.wpIn
  refine ⟨fun _ _ => trivial, ?_⟩
  rw [Oper.semAt_plain _ _ _ hd]
  generalize (execOp a.eval o).run P w = res at h ⊢
  cases res with
  | ok x w' =>
    cases x with
    | value v => exact h
    | skip => exact h
    | defer d => exact h
    | enter f args => exact ⟨fun hs => (by cases hs), CallsIn.inRound r (callsIn_wide.2 h)⟩
    | row rw args => exact ⟨fun hs => (by cases hs), rows_in h⟩
    | _ => exact h.elim
  | halt hh w' =>
    cases hh with
    | panic v => exact h
    | _ => exact h.elim
theorem op_in {P : Program} {r n i : Nat} {ops : Array Oper} {a : Act} {w : World} {K K' : Act → World → Prop} {Q : Exit → Act → World → Prop} (hd : ∀ (j : Nat) (o : Oper), ops[j]? = some o → ∀ c, o.op ≠ .defer c) (hL : ¬ LetsOut Q) (hK : ∀ a w, K a w → K' a w) (h : wpOp P ops Q i K a w) : wpOpIn (Fence.wide.inRound r) n P ops Q i K' a w := by
  unfold wpOp at h
  unfold wpOpIn
  cases ho : ops[i]? with
  | none => rw [ho] at h; exact hK _ _ h
  | some o =>
    rw [ho] at h
    dsimp only at h ⊢
    by_cases hw : Region.wanted o (yielded ops a.tmps) = true
    · rw [if_pos hw] at h ⊢
      rcases h with h | ⟨_, hl⟩
      · exact Oper.wpIn_mono hK (oper_in (hd i o ho) h)
      · exact absurd hl hL
    · rw [if_neg hw] at h ⊢
      exact ⟨fun _ _ => trivial, hK _ _ h⟩
theorem any_in {P : Program} {r n : Nat} {md : Region.Mode} {ops : Array Oper} {Q : Exit → Act → World → Prop} (hd : ∀ (j : Nat) (o : Oper), ops[j]? = some o → ∀ c, o.op ≠ .defer c) (hL : ¬ LetsOut Q) : ∀ (fuel : Nat) (listed : Array Bool) (a : Act) (w : World), wpAny P md ops Q fuel listed a w → wpAnyIn (Fence.wide.inRound r) n P md ops Q fuel listed a w
  | 0, listed, a, w, h => h
  | fuel + 1, listed, a, w, h => ⟨h.1, fun i hi => op_in hd hL (fun a w hk => any_in hd hL fuel _ a w hk) (h.2 i hi)⟩
def noDefer (ops : Array Oper) : Bool := ops.all fun o => match o.op with | .defer _ => false | _ => true
theorem noDefer_of {ops : Array Oper} (h : noDefer ops = true) : ∀ (j : Nat) (o : Oper), ops[j]? = some o → ∀ c, o.op ≠ .defer c := fun j o ho c hc => by
  unfold noDefer at h
  rw [Array.all_eq_true] at h
  obtain ⟨hj, rfl⟩ := Array.getElem?_eq_some_iff.1 ho
  have := h j hj
  rw [hc] at this
  cases this
theorem start_in {P : Program} {ops : Array Oper} {Q : Exit → Act → World → Prop} {S : World → Prop} {ds : List Nat} {r k id n : Nat} {a : Act} {w : World} (l : Array Bool) (hL : ¬ LetsOut Q) (hd : noDefer ops = true) (hm : P.follows .mixedOrders = true) (hn : ops.size = n) (hl : Array.replicate n false = l) (hS : S w.drew)
    (h : S w.drew → wpAnyLast P .any ops Q S ds n l a w.drew) : (Code.region id ops true).wpIn (Fence.wide.inRound r) k P Q a w := by
  subst hn
  subst hl
  exact wpIn_region_any hm (any_in (noDefer_of hd) hL _ _ _ _ (wpAny_of_last _ _ _ _ (h hS)))
end Go.Proofs.YtoaimcobcgomjaaDoor.Q
namespace Go.Proofs.YtoaimcobcgomjaaDoor.Q
open Go.RowKit Go.Shelf Go.Proofs.YtoaimcobcgomjaaDoorW.PrintWords Go.Proofs.YtoaimcobcgomjaaDoorW.PrintLast Go.Proofs.YtoaimcobcgomjaaDoorW.PrintMore
set_option linter.unusedVariables false
set_option linter.unusedSimpArgs false
def slv (b : Nat) : Value := .slice (some ⟨b, 0, none⟩) 32 32
structure RootM (B : Nat) (box : Value) (d : Bool → List Int) (pre : List Bool) (W : World) (v : Value) (bs : List Nat) : Prop where
  all : W.heap[B + 1]? = some (.cells #[v] 29 (0, 0))
  own : W.ownsRow B 22 1 v pre.length (bs.map slv)
  len : bs.length = pre.length
  dig : ∀ (j b : Nat) (x : Bool), bs[j]? = some b → pre[j]? = some x → W.heap[b]? = some (.cells (arr (d x)) 25 (0, 0))
  res : W.heap[B]? = some (.cells (arr zeros32) 25 (0, 0))
  box_ : W.heap[B + 2]? = some (.cells #[box] 29 (0, 0))
def RootI (B : Nat) (box : Value) (d : Bool → List Int) (pre : List Bool) (W : World) : Prop := ∃ v bs, RootM B box d pre W v bs
/-- Blocks of cells stay. -/
def CellsStay (W W' : World) : Prop := ∀ (k : Nat) (cs : Array Value) (t : Nat) (fr : Nat × Nat), W.heap[k]? = some (.cells cs t fr) → W'.heap[k]? = some (.cells cs t fr)
theorem own_stay {W W' : World} {base e size n : Nat} {v : Value} {xs : List Value} (h : W.ownsRow base e size v n xs) (hs : CellsStay W W') : W'.ownsRow base e size v n xs :=
  own_move h fun k hk => by
    obtain ⟨cells, hc⟩ := own_typed h k hk
    rw [hs k cells e (0, 0) hc, hc]
theorem RootM.stay {B : Nat} {box : Value} {d : Bool → List Int} {pre : List Bool} {W W' : World} {v : Value} {bs : List Nat} (h : RootM B box d pre W v bs) (hs : CellsStay W W') : RootM B box d pre W' v bs :=
  ⟨hs _ _ _ _ h.all, own_stay h.own hs, h.len, fun j b x hb hx => hs _ _ _ _ (h.dig j b x hb hx), hs _ _ _ _ h.res, hs _ _ _ _ h.box_⟩
theorem stay_below {W W' : World} (hb : Below W.heap.size W W') : CellsStay W W' := fun k cs t fr h => blk_below h hb
theorem stay_grown {W W' : World} {row : Option Nat} (hg : W.grownBy W' row) (hr : ∀ r, row = some r → ∃ o : Obj, W.heap[r]? = some o ∧ o.isCells = false) : CellsStay W W' := fun k cs t fr h =>
  (hg.block k (blk_lt h) (fun e => by
    obtain ⟨o, ho, hc⟩ := hr k e.symm
    rw [h] at ho
    cases ho
    cases hc)).trans h
theorem RootI_own (B : Nat) (box : Value) (d : Bool → List Int) : Own (RootI B box d) := fun s W W' row ⟨v, bs, h⟩ hg hr => ⟨v, bs, h.stay (stay_grown hg hr)⟩
/-- A round: one more digest. -/
theorem RootM.step {B g : Nat} {box : Value} {d : Bool → List Int} {pre : List Bool} {wa wb : World} {v v' : Value} {bs : List Nat} {y : Bool} (h : RootM B box d pre wa v bs) (h5 : wa.heap[g]? = some (.cells (arr (d y)) 25 (0, 0))) (hg : wa.grownBy wb v.ownBlock)
    (ho : wb.ownsRow B 22 1 v' (pre.length + 1) (bs.map slv ++ [slv g])) : RootM B box d (pre ++ [y]) (wb.setCell ⟨B + 1, 0, none⟩ v') v' (bs ++ [g]) := by
  have keep : ∀ (k : Nat) (cs : Array Value) (t : Nat), wa.heap[k]? = some (.cells cs t (0, 0)) → t ≠ 22 → wb.heap[k]? = some (.cells cs t (0, 0)) := fun k cs t hk ht => by
    refine (hg.block k (blk_lt hk) (fun e => ?_)).trans hk
    obtain ⟨cells, hc⟩ := own_typed h.own k e.symm
    rw [hk] at hc
    cases hc
    exact ht rfl
  have hall := keep _ _ _ h.all (by decide)
  have far : ∀ (k : Nat) (cs : Array Value) (t : Nat), wb.heap[k]? = some (.cells cs t (0, 0)) → t ≠ 29 → (wb.setCell ⟨B + 1, 0, none⟩ v').heap[k]? = some (.cells cs t (0, 0)) := fun k cs t hk ht => by
    refine blk_far hk (p := ⟨B + 1, 0, none⟩) (fun e => ?_) v'
    simp only at e
    subst e
    rw [hall] at hk
    cases hk
    exact ht rfl
  refine ⟨blk_put hall 0 v' rfl, ?_, by simp [h.len], fun j b x hb hx => ?_, far _ _ _ (keep _ _ _ h.res (by decide)) (by decide), ?_⟩
  · rw [List.map_append, List.length_append]
    refine own_move ho fun k hk => ?_
    obtain ⟨cells, hc⟩ := own_typed ho k hk
    rw [far k cells 22 hc (by decide), hc]
  · have hl := h.len
    by_cases hj : j < bs.length
    · rw [List.getElem?_append_left hj] at hb
      rw [List.getElem?_append_left (by omega)] at hx
      exact far _ _ _ (keep _ _ _ (h.dig j b x hb hx) (by decide)) (by decide)
    · rw [List.getElem?_append_right (by omega)] at hb
      rw [List.getElem?_append_right (by omega)] at hx
      have : j - bs.length = 0 := by
        rcases Nat.eq_zero_or_pos (j - bs.length) with h0 | h0
        · exact h0
        · rw [List.getElem?_eq_none (by simp; omega)] at hb; cases hb
      rw [this] at hb
      rw [show j - pre.length = 0 by omega] at hx
      cases hb
      cases hx
      exact far _ _ _ (keep _ _ _ h5 (by decide)) (by decide)
  · have hb2 := keep _ _ _ h.box_ (by decide)
    exact blk_far hb2 (p := ⟨B + 1, 0, none⟩) (by show B + 2 ≠ B + 1; omega) v'
/-- Both digests have come. -/
theorem RootM.both {B : Nat} {box : Value} {d : Bool → List Int} {W : World} {v : Value} {bs : List Nat} (hd : ∀ b, Dig (d b)) (h : RootM B box d [false, true] W v bs) : ∃ g cap, v = .slice (some ⟨g, 0, none⟩) 2 cap ∧ 2 ≤ cap ∧ (Kd.slice 5 (Kd.int .u8)).C W (some ⟨g, 0, none⟩) 2 [d false, d true] := by
  obtain ⟨b1, b2, rfl⟩ : ∃ b1 b2, bs = [b1, b2] := by
    have := h.len
    match bs, this with
    | [b1, b2], _ => exact ⟨b1, b2, rfl⟩
  rcases h.own.2 with ⟨_, h0⟩ | ⟨g, cap, cur, rfl, hg, hh, hn, _, hsz, htk⟩
  · simp at h0
  · refine ⟨g, cap, rfl, hn, ?_⟩
    have hcur : ∀ j : Nat, j < 2 → cur[j]? = [slv b1, slv b2][j]? := fun j hj => by
      have e : (cur.toList.take 2)[j]? = [slv b1, slv b2][j]? := by
        have := htk
        simp only [List.length_cons, List.length_nil, Nat.zero_add, Nat.reduceAdd, Nat.mul_one, List.map_cons, List.map_nil] at this
        rw [this]
      rw [List.getElem?_take, if_pos hj] at e
      rw [← e, Array.getElem?_toList]
    refine parts_C hh (by simp) fun j q hj => ?_
    match j, hj with
    | 0, hj =>
      simp only [List.getElem?_cons_zero, Option.some.injEq] at hj
      subst hj
      have b := dig_bts (h.dig 0 b1 false rfl rfl) (hd false)
      exact ⟨some ⟨b1, 0, none⟩, 32, by rw [hcur 0 (by omega)]; simp [slv, (hd false).1], by rw [(hd false).1]; omega, by rw [(hd false).1]; exact b.rd_⟩
    | 1, hj =>
      simp only [List.getElem?_cons_succ, List.getElem?_cons_zero, Option.some.injEq] at hj
      subst hj
      have b := dig_bts (h.dig 1 b2 true rfl rfl) (hd true)
      exact ⟨some ⟨b2, 0, none⟩, 32, by rw [hcur 1 (by omega)]; simp [slv, (hd true).1], by rw [(hd true).1]; omega, by rw [(hd true).1]; exact b.rd_⟩
    | j + 2, hj => simp at hj
end Go.Proofs.YtoaimcobcgomjaaDoor.Q
namespace Go.Proofs.YtoaimcobcgomjaaDoor.Q
open Go.RowKit Go.Shelf Go.Proofs.YtoaimcobcgomjaaDoorW.PrintWords Go.Proofs.YtoaimcobcgomjaaDoorW.PrintLast Go.Proofs.YtoaimcobcgomjaaDoorW.PrintMore
set_option linter.unusedVariables false
set_option linter.unusedSimpArgs false
attribute [local go_sem] Oper.semAt_some
theorem dig_store_in {F : Fence} {n : Nat} {ops : Array Oper} {rest : List Oper} {o : Oper} {a : Act} {W : World} {Q : Exit → Act → World → Prop} (hgd : o.guard = none) (x y : Operand) (ho : o.op = .store 25 x y) (g : Nat) (ds old : List Int) (hx : a.eval x = .pointer (some ⟨g, 0, none⟩)) (hy : a.eval y = .agg (arr ds))
    (hg : W.heap[g]? = some (.cells (arr old) 25 (0, 0))) (hl : ds.length = 32) (hold : old.length = 32)
    (h : ∀ w1, w1.heap[g]? = some (.cells (arr ds) 25 (0, 0)) → (∀ k, k ≠ g → w1.heap[k]? = W.heap[k]?) → (∀ (B : Nat) (w0 : World), Below B w0 W → B ≤ g → Below B w0 w1) → KeepsOthers W w1 → wpListIn F n Tryd.prog ops Q rest (a.put o.dst undef) w1) : wpListIn F n Tryd.prog ops Q (o :: rest) a W := by
  refine wpListIn_plain hgd fun K hK' => ?_
  unfold Oper.wpIn
  refine ⟨?_, ?_⟩
  · simp [Oper.about, ho]
  · rw [Oper.semAt_plain F _ _ (by rw [ho]; intro c hc; cases hc)]
    have hr := run_storeVar_row (P := Tryd.prog) (ty := 25) W g 25 (arr old) (arr ds) hg (by rw [arr_size, hl]; exact info_dig) (by rw [arr_size, arr_size, hl, hold]) (arr_one ds)
    simp only [execOp, ho, hx, hy, Instr.storeAt, Instr.sureAddr, Sem.run_bind, Sem.run_pure, Result.andThen_ok, hr]
    have hoth : ∀ k, k ≠ g → (W.setRow g (arr ds)).heap[k]? = W.heap[k]? := fun k hk => setRow_other W g k _ hk
    exact hK' _ _ (h _ (setRow_heap W g _ _ _ _ hg) hoth (fun B w0 hb hB => below_setRow hb hB _) ⟨(below_setRow (Below.refl 0 W) (Nat.zero_le _) (arr ds)).size, fun k o hk ho => by
      by_cases e : k = g
      · subst e
        rw [hg] at hk
        cases hk
        cases ho
      · exact (hoth k e).trans hk⟩)
def root10_T : Bool × List (List Nat × List Nat) := (true, [([], []), ([], []), ([1], [1]), ([0, 2], [0, 2]), ([3, 3, 0, 1, 2, 3], [3])])
def root10_B : List Nat := [0, 0, 2, 7, 15]
theorem root10_tab : rtab .any (opsOf Tryd.f42 10) = root10_T := by kernel_rfl
theorem root10_bits : waitsOk root10_T.2 root10_B = true := by kernel_rfl
set_option maxHeartbeats 4000000 in
set_option maxRecDepth 100000 in
theorem root_small (A : Option Addr) (n c : Nat) (l : List (List Int)) (W : World) (br : Rws W A n c l) (hs : Short l) (hn : n ≤ 1) (hk : KT W) :
    Calls Tryd.prog 42 #[.slice A n c] W fun e W' => e = .returned (.agg (arr (rootP l))) ∧ Below W.heap.size W W' := by
  have hln := br.len
  have HK := Aside0.mk hk
  clear hk
  by_cases h0 : n = 0
  · subst h0
    rw [rootP_none l hln]
    have HB := Aside0.mk (Below.refl W.heap.size W)
    clear br hln
    go_enter Tryd.func42, Tryd.ntmps42
    go_wp2_with (
      first
      | ((with_reducible refine gate_dst (N := 2) rfl ?_); refine box_event ?hg (N := 2) ?hd (cs := arr zeros32) (t := 25) ?hr ?_; (case hd => rfl); (case hg => rfl); (case hr => first | (go_simp; done) | (go_simp; rfl));
                         intro g2 hg w1 hbox hb; have BK2 := Aside0.mk hbox; have G2 := Aside0.mk (show W.heap.size ≤ g2 by rw [hg]; exact below_size HB.out); have n0 := Aside0.mk (below_step HB.out hb); clear HB; have HB := n0; clear n0; clear hb hbox hg)
      | (go_at_call 45; (with_reducible refine (tagNone_walk _ (HK.out.below HK.out.lt HB.out)).mono ?_); rintro e wq ⟨rfl, hb⟩; have n0 := Aside0.mk (blk_below BK2.out hb); have n1 := Aside0.mk (below_step HB.out hb); clear BK2 HB; have BK2 := n0; have HB := n1; clear n0 n1; clear hb)
      | ((with_reducible refine gate_store (p := 2) rfl ?_); refine dig_store rfl (.tmp 2) (.tmp 10) rfl g2 (tagOf 0 []) (zeros32) rfl rfl BK2.out (tagOf_len _ _) (rfl) ?_; intro ws bk hoth hbel; have nn := Aside0.mk bk; have n0 := Aside0.mk (hbel _ _ HB.out G2.out); clear HB; have HB := n0; clear n0; clear BK2 bk hoth hbel; have BK2 := nn; clear nn))
    refine bodyPost_ret (results_c rfl _ _ g2 25 (arr (tagOf 0 [])) (0, 0) _ rfl BK2.out Tryd.underlying25 rfl (by rw [arr_size, tagOf_len]; exact info_dig)) rfl ?_
    exact ⟨rfl, HB.out⟩
  · obtain rfl : n = 1 := by omega
    rw [rootP_one l hln]
    obtain ⟨ad, A0, c0, hA, hcell, bb⟩ := br.row 0 (by omega)
    subst hA
    have e0 : ad.add 0 = ad := by simp [Addr.add]
    rw [e0] at hcell
    have hsh := hs _ (List.getElem_mem (show 0 < l.length by omega))
    obtain ⟨p, hp⟩ : ∃ p, l[0]'(by omega) = p := ⟨_, rfl⟩
    rw [hp] at hcell bb hsh ⊢
    have HC := Aside0.mk hcell
    have HSH := Aside0.mk hsh
    have BB := Aside0.mk bb
    have HB := Aside0.mk (Below.refl W.heap.size W)
    clear br hln hp hs hsh bb hcell
    go_enter Tryd.func42, Tryd.ntmps42
    go_wp2_with (
      first
      | ((with_reducible refine gate_dst (N := 2) rfl ?_); refine box_event ?hg (N := 2) ?hd (cs := arr zeros32) (t := 25) ?hr ?_; (case hd => rfl); (case hg => rfl); (case hr => first | (go_simp; done) | (go_simp; rfl));
                         intro g2 hg w1 hbox hb; have BK2 := Aside0.mk hbox; have G2 := Aside0.mk (show W.heap.size ≤ g2 by rw [hg]; exact below_size HB.out); have n0 := Aside0.mk (below_step HB.out hb); clear HB; have HB := n0; clear n0; clear hb hbox hg; have hc1 := cell_below HC.out HB.out)
      | (go_at_call 44; (with_reducible refine (tag1 7 (by decide) _ 1 22 c0 p.length A0 p _ (blk_new _ _) ((BB.out.below HB.out).alloc _) (Nat.le_refl _) HSH.out (HK.out.below HK.out.lt (below_alloc HB.out _))).mono ?_); rintro e wq ⟨rfl, hb⟩; have n0 := Aside0.mk (blk_below (blk_alloc BK2.out _) hb); have n1 := Aside0.mk (below_step (below_alloc HB.out _) hb); clear BK2 HB; have BK2 := n0; have HB := n1; clear n0 n1; clear hb)
      | ((with_reducible refine gate_store (p := 2) rfl ?_); refine dig_store rfl (.tmp 2) (.tmp 17) rfl g2 (tagOf 7 [p]) (zeros32) rfl rfl BK2.out (tagOf_len _ _) (rfl) ?_; intro ws bk hoth hbel; have nn := Aside0.mk bk; have n0 := Aside0.mk (hbel _ _ HB.out G2.out); clear HB; have HB := n0; clear n0; clear BK2 bk hoth hbel; have BK2 := nn; clear nn))
    refine bodyPost_ret (results_c rfl _ _ g2 25 (arr (tagOf 7 [p])) (0, 0) _ rfl BK2.out Tryd.underlying25 rfl (by rw [arr_size, tagOf_len]; exact info_dig)) rfl ?_
    exact ⟨rfl, HB.out⟩
theorem own_form {w : World} {B e size n : Nat} {v : Value} {xs : List Value} (h : w.ownsRow B e size v (n + 1) xs) : ∃ g c, v = .slice (some ⟨g, 0, none⟩) (n + 1) c := by
  rcases h.2 with ⟨_, h0⟩ | ⟨g, cap, cur, rfl, _⟩
  · cases h0
  · exact ⟨g, cap, rfl⟩
theorem keeps_of_below {W w : World} (h : Below W.heap.size W w) : KeepsOthers W w := ⟨h.size, fun k o hk _ => blk_below hk h⟩
theorem cell_all {B : Nat} {box : Value} {d : Bool → List Int} {pre : List Bool} {wa wb : World} {v v' : Value} {bs : List Nat} {k : Nat} {xs : List Value} (ho : wb.ownsRow B 22 1 v' k xs) (hg : wa.grownBy wb v.ownBlock) (h : RootM B box d pre wa v bs) : wb.heap[B + 1]? = some (.cells #[v] 29 (0, 0)) := by
  refine (hg.block _ (blk_lt h.all) (fun e => ?_)).trans h.all
  obtain ⟨cells, hc⟩ := own_typed h.own _ e.symm
  rw [h.all] at hc
  cases hc
theorem own_base {B : Nat} {box : Value} {d : Bool → List Int} {pre : List Bool} {wa : World} {v : Value} {bs : List Nat} (h : RootM B box d pre wa v bs) (k : Nat) (hk : v.ownBlock = some k) : B ≤ k := by
  rcases h.own.2 with ⟨rfl, _⟩ | ⟨g, cap, cur, rfl, hb, _⟩
  · simp [Value.ownBlock] at hk
  · simp only [Value.ownBlock, Option.some.injEq] at hk
    omega
theorem keeps_append {B : Nat} {box : Value} {d : Bool → List Int} {pre : List Bool} {W1 wa wb : World} {v : Value} {bs : List Nat} (h : RootM B box d pre wa v bs) (hb : Below W1.heap.size W1 wa) (hg : wa.grownBy wb v.ownBlock) : KeepsOthers W1 wb :=
  (keeps_of_below hb).trans ⟨hg.size, fun k o hk ho => (hg.block k (blk_lt hk) (fun e => by
    obtain ⟨cells, hc⟩ := own_typed h.own _ e.symm
    rw [hk] at hc
    cases hc
    cases ho)).trans hk⟩
set_option maxHeartbeats 16000000 in
set_option maxRecDepth 100000 in
theorem root_walk (k : Nat) : ∀ (A : Option Addr) (n c : Nat) (l : List (List Int)) (W : World), Rws W A n c l → Short l → n ≤ k → n ≤ 256 → KT W →
    Calls Tryd.prog 42 #[.slice A n c] W fun e W' => e = .returned (.agg (arr (rootP l))) ∧ Below W.heap.size W W' := by
  induction k with
  | zero => intro A n c l W br hs h1 h2 hk; exact root_small A n c l W br hs (by omega) hk
  | succ k ih =>
    intro A n c l W br hs h1 h2 hk
    by_cases h3 : n ≤ 1
    · exact root_small A n c l W br hs h3 hk
    · have hln := br.len
      have hle := br.le
      have b0 : ((n : Int) == 0) = false := by simp; omega
      have b1 : ((n : Int) == 1) = false := by simp; omega
      have e := rootP_two l (by omega) (by omega)
      rw [hln] at e
      obtain ⟨m, hm⟩ : ∃ m, frontN n = m := ⟨_, rfl⟩
      have hmr := frontN_range n (by omega) h2
      rw [hm] at hmr e
      obtain ⟨hm1, hm2, hm3⟩ := hmr
      have HD2 : ∀ w, Below W.heap.size W w → Rws w (if c = m then A else A.map (·.add (m * 1))) (n - m) (c - m) (l.drop m) := fun w hw => (br.below hw).drop m (by omega)
      obtain ⟨A2, hA2⟩ : ∃ A2, (if c = m then A else A.map (·.add (m * 1))) = A2 := ⟨_, rfl⟩
      rw [hA2] at HD2
      obtain ⟨d1, hd1⟩ : ∃ d, rootP (l.take m) = d := ⟨_, rfl⟩
      obtain ⟨d2, hd2⟩ : ∃ d, rootP (l.drop m) = d := ⟨_, rfl⟩
      rw [hd1, hd2] at e
      have D1 : Aside0 (Dig d1) := ⟨by rw [← hd1]; exact rootP_dig _⟩
      have D2 : Aside0 (Dig d2) := ⟨by rw [← hd2]; exact rootP_dig _⟩
      have D1L : Aside0 (d1.length = 32) := ⟨D1.out.1⟩
      have D2L : Aside0 (d2.length = 32) := ⟨D2.out.1⟩
      have HC1 : Aside0 (∀ w, Below W.heap.size W w → Calls Tryd.prog 42 #[.slice A m c] w fun e W' => e = .returned (.agg (arr d1)) ∧ Below w.heap.size w W') := ⟨fun w hw => by
        have := ih A m c (l.take m) w ((br.below hw).take m (by omega)) (hs.take m) (by omega) (by omega) (hk.below hk.lt hw)
        rwa [hd1] at this⟩
      have HC2 : Aside0 (∀ w, Below W.heap.size W w → Calls Tryd.prog 42 #[.slice A2 (n - m) (c - m)] w fun e W' => e = .returned (.agg (arr d2)) ∧ Below w.heap.size w W') := ⟨fun w hw => by
        have := ih A2 (n - m) (c - m) (l.drop m) w (HD2 w hw) (hs.drop m) (by omega) (by omega) (hk.below hk.lt hw)
        rwa [hd2] at this⟩
      have HK := Aside0.mk hk
      rw [e]
      clear br hs ih hln hk e hd1 hd2 HD2 hm3
      refine (callsIn_wide (n := 3)).1 ?_
      refine callsIn_of_wp_marks Tryd.func42 rfl trivial ?_ rfl
      simp only [Tryd.ntmps42, List.size_toArray, List.length_cons, List.length_nil, Nat.reduceAdd, Nat.reduceSub, Array.replicate_succ, Array.replicate_zero, List.push_toArray, List.append_toArray, List.nil_append, List.cons_append]
      gi_wp2_with (refine ⟨trivial, ?_⟩; gi_at_call 58; refine (halves_in 2 _ _ _ _).mono ?_; rintro e w' ⟨rfl, rfl⟩)
      obtain ⟨W0, hW0⟩ : ∃ W0, ((W.alloc (.cells (arr zeros32) 25)).alloc (.cells #[.slice none 0 0] 29)).alloc (.cells #[.slice A n c] 29) = W0 := ⟨_, rfl⟩
      change Code.wpIn _ _ _ _ _ _ (((W.alloc (.cells (arr zeros32) 25)).alloc (.cells #[.slice none 0 0] 29)).alloc (.cells #[.slice A n c] 29))
      have hx2 : W0.heap[W.heap.size]? = some (.cells (arr zeros32) 25 (0, 0)) := by rw [← hW0]; exact blk_alloc (blk_alloc (blk_new _ _) _) _
      have hx3 : W0.heap[W.heap.size + 1]? = some (.cells #[.slice none 0 0] 29 (0, 0)) := by rw [← hW0]; exact blk_alloc (blk_new1 W _ _) _
      have hx4 : W0.heap[W.heap.size + 2]? = some (.cells #[.slice A n c] 29 (0, 0)) := by rw [← hW0]; exact blk_new2 W _ _ _
      have hsz : W0.heap.size = W.heap.size + 3 := by rw [← hW0]; simp
      have hBw : Below W.heap.size W W0 := by rw [← hW0]; exact below_alloc (below_alloc (below_new W _) _) _
      rw [hW0]
      clear hW0
      refine wpIn_rangeFunc_ownG rfl (by omega) (gf := 71) (lb := #[.pointer (some ⟨W.heap.size + 1 + 1, 0, none⟩)]) rfl trivial (enters_of Tryd.func71 (by kernel_rfl) rfl)
        (halves_stops 2 (by omega) (W.heap.size + 1 + 1) A A2 n c m (by omega) h2 hm hle hA2 W0 (by omega) ((blk_cell hx4 0).trans rfl))
        (fun h k v hv => k v (h v hv)) (fun X l o o' hl ho hc hw v hv => ((belowK_b (n₀ := W0.heap.size) (w := W0) (Nat.le_refl _) X l o o' hl ho hc hw).cell (p := ⟨W.heap.size + 1 + 1, 0, none⟩) (by show W.heap.size + 1 + 1 < _; omega)).trans hv) (Below.refl _ _) (fun x => by cases x <;> rfl)
        (fun pre X => RootI W.heap.size (.slice A n c) (fun y => if y = true then d2 else d1) pre X ∧ Below W.heap.size W X) (fun _ _ _ => False)
        (OwnFrom.and (Own.from (RootI_own _ _ _) _) (ownFrom_below (Nat.le_refl _) (by omega)))
        (fun _ _ _ _ _ hs _ _ => hs)
        ⟨⟨.slice none 0 0, [], ⟨hx3, World.ownsRow_nil _ _ _ _, rfl, fun j b x hb => by simp at hb, hx2, hx4⟩⟩, hBw⟩
        (fun y => { tmps := #[.slice A n c, undef, .pointer (some ⟨W.heap.size, 0, none⟩), .pointer (some ⟨W.heap.size + 1, 0, none⟩), (if y = true then .slice A2 (n - m) (c - m) else .slice A m c), undef, .slice A n c, .int .i64 (n : Int), .bool false, .bool false, undef, .bool false, .bool false, undef, undef, undef, undef, undef, .slice A n c, .func (.func 71) #[] #[.pointer (some ⟨W.heap.size + 1 + 1, 0, none⟩)], (if y = true then .slice A2 (n - m) (c - m) else .slice A m c), undef, undef, undef, undef, undef, undef, undef, undef], defers := [] }) ?assign ?body ?done ?stop
      case assign =>
        intro lp y X K hK
        cases y <;> (simp only [partV, Bool.false_eq_true, reduceIte] at hK ⊢; gi_wp2; exact hK)
      case stop =>
        rintro D cc pre X hD _ hf
        exact hf.elim
      case body =>
        rintro lp pre y W1 ⟨⟨v, bs, hM⟩, hBW⟩ hlt
        have HM := Aside0.mk hM
        have HBW := Aside0.mk hBW
        have PL : Aside0 (pre.length < 2) := ⟨hlt⟩
        have hbx : W1.cell? ⟨W.heap.size + 1 + 1, 0, none⟩ = some (.slice A n c) := (blk_cell hM.box_ 0).trans rfl
        clear hx2 hx3 hx4 hsz hBw hM hBW hlt
        have hQL : ¬ LetsOut (Exit.inBlock 2 (ownPostG W0.heap.size (KpB (W.heap.size + 1 + 1)) (fun pre X => RootI W.heap.size (.slice A n c) (fun y => if y = true then d2 else d1) pre X ∧ Below W.heap.size W X) (fun _ _ _ => False) (pre ++ [y]) W1)) := by
          rintro ⟨a, w, h⟩
          exact h
        cases y with
        | false =>
          refine wpIn_block (wpIn_seq (wpIn_mono (Q := fun e a' w' => e = .normal ∧ ∃ g, a' = ({ tmps := #[.slice A n c, undef, .pointer (some ⟨W.heap.size, 0, none⟩), .pointer (some ⟨W.heap.size + 1, 0, none⟩), .slice A m c, .pointer (some ⟨g, 0, none⟩), .slice A n c, .int .i64 (n : Int), .bool false, .bool false, undef, .bool false, .bool false, undef, undef, undef, undef, undef, .slice A n c, .func (.func 71) #[] #[.pointer (some ⟨W.heap.size + 1 + 1, 0, none⟩)], .slice A m c, .slice A m c, .agg (arr d1), undef, undef, undef, undef, undef, undef], defers := [] } : Act) ∧ RootM W.heap.size (.slice A n c) (fun y => if y = true then d2 else d1) pre w' v bs ∧ w'.heap[g]? = some (.cells (arr d1) 25 (0, 0)) ∧ Below W.heap.size W w' ∧ Below W1.heap.size W1 w') ?_ ?_))
          · gi_wp2_with (
              first
              | (refine ⟨trivial, ?_⟩; gi_at_call 42; refine (CallsIn.inRound lp (callsIn_wide.2 (HC1.out _ HBW.out))).mono ?_; rintro e w1 ⟨rfl, hb⟩; have HM1 := Aside0.mk (HM.out.stay (stay_below hb)); have HB1 := Aside0.mk (below_step HBW.out hb); have BW1 := Aside0.mk hb; clear hb)
              | (refine dig_store_in rfl (.tmp 5) (.tmp 22) rfl _ d1 zeros32 rfl rfl (blk_new _ _) D1L.out rfl ?_; intro w2 hb2 hoth hbel hko; have hb := hbel w1.heap.size w1 (below_new w1 _) (Nat.le_refl _); have HM2 := Aside0.mk (HM1.out.stay (stay_below hb)); have HB2 := Aside0.mk (below_step HB1.out hb); have BW2 := Aside0.mk (below_step BW1.out hb); have BK5 := Aside0.mk hb2; clear hb hb2 hoth hbel hko))
            first | exact ⟨HM2.out, BK5.out, HB2.out, BW2.out⟩ | exact ⟨rfl, _, rfl, HM2.out, BK5.out, HB2.out, BW2.out⟩
          · rintro e a' w2 ⟨rfl, g, rfl, hM2, hk5, hB2, hW2⟩
            have HM2 := Aside0.mk hM2
            have hcv : w2.drew.cell? ⟨W.heap.size + 1, 0, none⟩ = some v := (blk_cell hM2.all 0).trans rfl
            have hs5 := fun W => sl_dig ⟨g, 0, none⟩ W
            clear hM2
            refine start_in (n := 5) (S := fun w' => w'.cell? ⟨W.heap.size + 1, 0, none⟩ = some v) (ds := [4]) #[false, false, false, false, false] hQL (by kernel_rfl) (by kernel_rfl) rfl rfl hcv (fun hHeld => ?_)
            refine with_tabW root10_tab root10_bits (fun HT_ HW_ => ?_)
            have hb : Below w2.heap.size w2 w2.drew := below_drew (Below.refl _ _)
            have HM3 := Aside0.mk (HM2.out.stay (stay_below hb))
            have K5 := Aside0.mk (blk_below hk5 hb)
            have HB3 := Aside0.mk (below_step hB2 hb)
            have BW3 := Aside0.mk (below_step hW2 hb)
            clear hb hB2 hW2 hk5 HM2
            generalize w2.drew = wa at HM3 K5 HB3 BW3 hHeld ⊢
            refine take_ (i := 0) (N := (some 23)) (v := ?_) (a' := ?_) #[true, false, false, false, false] rfl rfl (take_ofW HT_.out HW_.out (by kernel_rfl)) (fun _ _ _ h => h) (Or.inl ⟨by rfl, ?_⟩) hHeld ?_ ?_
            rotate_left
            · rintro w' s0
              go_simp
              with_reducible rfl
            rotate_left
            · simp only [Act.put, List.setIfInBounds_toArray, List.set_cons_zero, List.set_cons_succ, i64_w, i32_w]
              rfl
            refine pure_ (i := 1) (N := (some 24)) (v := ?_) (a' := ?_) #[true, true, false, false, false] rfl rfl (any_of HT_.out (by kernel_rfl)) (fun _ _ _ h => h) (Or.inl ⟨by rfl, ?_⟩) ?_ ?_
            rotate_left
            · intro w'
              go_simp
              first | with_reducible rfl | (simp; done) | rfl
            rotate_left
            · simp only [Act.put, List.setIfInBounds_toArray, List.set_cons_zero, List.set_cons_succ, i64_w, i32_w]
              rfl
            refine one_ (i := 2) (N := (some 25)) #[true, true, true, false, false] rfl rfl (one_of HT_.out (by kernel_rfl)) (by decide) (fun K hK => ?_)
            refine value_ (v := .slice (some ⟨wa.heap.size, 0, none⟩) 1 1) (w1 := wa.alloc (.cells #[slv g] 22)) (by rfl) rfl ?_ ?_
            · go_simp
              first | done | rfl
            refine hK.out _ _ (cell_below hHeld (below_new wa _)) (fun hHeld => ?_)
            clear hK K
            refine norm_ (a' := ?_) ?_ ?_
            rotate_left
            · show Act.put _ (some 25) _ = _
              simp only [Act.put, List.setIfInBounds_toArray, List.set_cons_zero, List.set_cons_succ, i64_w, i32_w]
              rfl
            have hn1 := blk_new wa (.cells #[slv g] 22)
            have hb := below_new wa (.cells #[slv g] 22)
            obtain ⟨ga, hga⟩ : ∃ ga, wa.heap.size = ga := ⟨_, rfl⟩
            rw [hga] at hn1 ⊢
            generalize wa.alloc (.cells #[slv g] 22) = wb at hn1 hb hHeld ⊢
            have HM4 := Aside0.mk (HM3.out.stay (stay_below hb))
            have K6 := Aside0.mk (blk_below K5.out hb)
            have HB4 := Aside0.mk (below_step HB3.out hb)
            have BW4 := Aside0.mk (below_step BW3.out hb)
            clear hb HM3 K5 HB3 BW3 hga
            refine one_ (i := 3) (N := (some 26)) #[true, true, true, true, false] rfl rfl (one_of HT_.out (by kernel_rfl)) (by decide) (fun K hK => ?_)
            rw [if_pos (by rfl)]
            obtain ⟨i0, hi0, hz0, hz1, hz2⟩ := info_parts info22
            refine wp_append_own wb (.tmp 23) (.tmp 25) 29 rfl W.heap.size 22 i0 (.slice none 0 0) 1 24 Tryd.underlying29 hi0 hz0 hz1 hz2 rfl (by decide) v pre.length (bs.map slv) rfl HM4.out.own ⟨ga, 0, none⟩ 1 1 [slv g] rfl rfl (fun j u hj => ?_) (fun u hu => ?_) (by have := PL.out; simp only [maxLen]; omega) (by have := PL.out; omega) (below_size HB4.out) ?_
            · match j, hj with
              | 0, hj =>
                cases hj
                exact (blk_cell hn1 0).trans rfl
              | j + 1, hj => simp at hj
            · simp only [List.mem_singleton] at hu
              subst hu
              rfl
            intro v' wc ho' hg' _
            obtain ⟨gq, cq, rfl⟩ := own_form ho'
            have HS := Aside0.mk (HM4.out.step (y := false) K6.out hg' ho')
            have hcb : wc.cell? ⟨W.heap.size + 1, 0, none⟩ = some v := (blk_cell (cell_all ho' hg' HM4.out) 0).trans rfl
            have hfb : wc.frozen? ⟨W.heap.size + 1, 0, none⟩ = false := blk_frozen (cell_all ho' hg' HM4.out) 0
            have HB5 : Aside0 (Below W.heap.size W wc) := ⟨HB4.out.grown hg' (below_size HB4.out) (fun k hk => own_base HM4.out k hk)⟩
            have KO5 := Aside0.mk (keeps_append HM4.out BW4.out hg')
            refine hK.out _ _ hcb (fun hHeld => ?_)
            clear hK K
            refine norm_ (a' := ?_) ?_ ?_
            rotate_left
            · show Act.put _ (some 26) _ = _
              simp only [Act.put, List.setIfInBounds_toArray, List.set_cons_zero, List.set_cons_succ, i64_w, i32_w]
              rfl
            refine last_ (i := 4) (N := none) #[true, true, true, true, true] rfl rfl (one_of HT_.out (by kernel_rfl)) (by decide) (fun K hK => ?_)
            refine skip_ (w1 := ?_) (by rfl) rfl ?_ ?_
            rotate_left
            · go_simp
              rfl
            refine hK.out _ _ ?_
            clear hK K
            refine done_ (done_of HT_.out (by kernel_rfl)) ?_
            exact ⟨(KO5.out.trans (KeepsOthers.setCell _ _ _)).from _, fun u hu => by
              rw [hbx] at hu
              cases hu
              exact (blk_cell HS.out.box_ 0).trans rfl, ⟨_, _, HS.out⟩, HB5.out.setCell (p := ⟨W.heap.size + 1, 0, none⟩) (by show W.heap.size ≤ W.heap.size + 1; omega) _⟩
        | true =>
          refine wpIn_block (wpIn_seq (wpIn_mono (Q := fun e a' w' => e = .normal ∧ ∃ g, a' = ({ tmps := #[.slice A n c, undef, .pointer (some ⟨W.heap.size, 0, none⟩), .pointer (some ⟨W.heap.size + 1, 0, none⟩), .slice A2 (n - m) (c - m), .pointer (some ⟨g, 0, none⟩), .slice A n c, .int .i64 (n : Int), .bool false, .bool false, undef, .bool false, .bool false, undef, undef, undef, undef, undef, .slice A n c, .func (.func 71) #[] #[.pointer (some ⟨W.heap.size + 1 + 1, 0, none⟩)], .slice A2 (n - m) (c - m), .slice A2 (n - m) (c - m), .agg (arr d2), undef, undef, undef, undef, undef, undef], defers := [] } : Act) ∧ RootM W.heap.size (.slice A n c) (fun y => if y = true then d2 else d1) pre w' v bs ∧ w'.heap[g]? = some (.cells (arr d2) 25 (0, 0)) ∧ Below W.heap.size W w' ∧ Below W1.heap.size W1 w') ?_ ?_))
          · gi_wp2_with (
              first
              | (refine ⟨trivial, ?_⟩; gi_at_call 42; refine (CallsIn.inRound lp (callsIn_wide.2 (HC2.out _ HBW.out))).mono ?_; rintro e w1 ⟨rfl, hb⟩; have HM1 := Aside0.mk (HM.out.stay (stay_below hb)); have HB1 := Aside0.mk (below_step HBW.out hb); have BW1 := Aside0.mk hb; clear hb)
              | (refine dig_store_in rfl (.tmp 5) (.tmp 22) rfl _ d2 zeros32 rfl rfl (blk_new _ _) D2L.out rfl ?_; intro w2 hb2 hoth hbel hko; have hb := hbel w1.heap.size w1 (below_new w1 _) (Nat.le_refl _); have HM2 := Aside0.mk (HM1.out.stay (stay_below hb)); have HB2 := Aside0.mk (below_step HB1.out hb); have BW2 := Aside0.mk (below_step BW1.out hb); have BK5 := Aside0.mk hb2; clear hb hb2 hoth hbel hko))
            first | exact ⟨HM2.out, BK5.out, HB2.out, BW2.out⟩ | exact ⟨rfl, _, rfl, HM2.out, BK5.out, HB2.out, BW2.out⟩
          · rintro e a' w2 ⟨rfl, g, rfl, hM2, hk5, hB2, hW2⟩
            have HM2 := Aside0.mk hM2
            have hcv : w2.drew.cell? ⟨W.heap.size + 1, 0, none⟩ = some v := (blk_cell hM2.all 0).trans rfl
            have hs5 := fun W => sl_dig ⟨g, 0, none⟩ W
            clear hM2
            refine start_in (n := 5) (S := fun w' => w'.cell? ⟨W.heap.size + 1, 0, none⟩ = some v) (ds := [4]) #[false, false, false, false, false] hQL (by kernel_rfl) (by kernel_rfl) rfl rfl hcv (fun hHeld => ?_)
            refine with_tabW root10_tab root10_bits (fun HT_ HW_ => ?_)
            have hb : Below w2.heap.size w2 w2.drew := below_drew (Below.refl _ _)
            have HM3 := Aside0.mk (HM2.out.stay (stay_below hb))
            have K5 := Aside0.mk (blk_below hk5 hb)
            have HB3 := Aside0.mk (below_step hB2 hb)
            have BW3 := Aside0.mk (below_step hW2 hb)
            clear hb hB2 hW2 hk5 HM2
            generalize w2.drew = wa at HM3 K5 HB3 BW3 hHeld ⊢
            refine take_ (i := 0) (N := (some 23)) (v := ?_) (a' := ?_) #[true, false, false, false, false] rfl rfl (take_ofW HT_.out HW_.out (by kernel_rfl)) (fun _ _ _ h => h) (Or.inl ⟨by rfl, ?_⟩) hHeld ?_ ?_
            rotate_left
            · rintro w' s0
              go_simp
              with_reducible rfl
            rotate_left
            · simp only [Act.put, List.setIfInBounds_toArray, List.set_cons_zero, List.set_cons_succ, i64_w, i32_w]
              rfl
            refine pure_ (i := 1) (N := (some 24)) (v := ?_) (a' := ?_) #[true, true, false, false, false] rfl rfl (any_of HT_.out (by kernel_rfl)) (fun _ _ _ h => h) (Or.inl ⟨by rfl, ?_⟩) ?_ ?_
            rotate_left
            · intro w'
              go_simp
              first | with_reducible rfl | (simp; done) | rfl
            rotate_left
            · simp only [Act.put, List.setIfInBounds_toArray, List.set_cons_zero, List.set_cons_succ, i64_w, i32_w]
              rfl
            refine one_ (i := 2) (N := (some 25)) #[true, true, true, false, false] rfl rfl (one_of HT_.out (by kernel_rfl)) (by decide) (fun K hK => ?_)
            refine value_ (v := .slice (some ⟨wa.heap.size, 0, none⟩) 1 1) (w1 := wa.alloc (.cells #[slv g] 22)) (by rfl) rfl ?_ ?_
            · go_simp
              first | done | rfl
            refine hK.out _ _ (cell_below hHeld (below_new wa _)) (fun hHeld => ?_)
            clear hK K
            refine norm_ (a' := ?_) ?_ ?_
            rotate_left
            · show Act.put _ (some 25) _ = _
              simp only [Act.put, List.setIfInBounds_toArray, List.set_cons_zero, List.set_cons_succ, i64_w, i32_w]
              rfl
            have hn1 := blk_new wa (.cells #[slv g] 22)
            have hb := below_new wa (.cells #[slv g] 22)
            obtain ⟨ga, hga⟩ : ∃ ga, wa.heap.size = ga := ⟨_, rfl⟩
            rw [hga] at hn1 ⊢
            generalize wa.alloc (.cells #[slv g] 22) = wb at hn1 hb hHeld ⊢
            have HM4 := Aside0.mk (HM3.out.stay (stay_below hb))
            have K6 := Aside0.mk (blk_below K5.out hb)
            have HB4 := Aside0.mk (below_step HB3.out hb)
            have BW4 := Aside0.mk (below_step BW3.out hb)
            clear hb HM3 K5 HB3 BW3 hga
            refine one_ (i := 3) (N := (some 26)) #[true, true, true, true, false] rfl rfl (one_of HT_.out (by kernel_rfl)) (by decide) (fun K hK => ?_)
            rw [if_pos (by rfl)]
            obtain ⟨i0, hi0, hz0, hz1, hz2⟩ := info_parts info22
            refine wp_append_own wb (.tmp 23) (.tmp 25) 29 rfl W.heap.size 22 i0 (.slice none 0 0) 1 24 Tryd.underlying29 hi0 hz0 hz1 hz2 rfl (by decide) v pre.length (bs.map slv) rfl HM4.out.own ⟨ga, 0, none⟩ 1 1 [slv g] rfl rfl (fun j u hj => ?_) (fun u hu => ?_) (by have := PL.out; simp only [maxLen]; omega) (by have := PL.out; omega) (below_size HB4.out) ?_
            · match j, hj with
              | 0, hj =>
                cases hj
                exact (blk_cell hn1 0).trans rfl
              | j + 1, hj => simp at hj
            · simp only [List.mem_singleton] at hu
              subst hu
              rfl
            intro v' wc ho' hg' _
            obtain ⟨gq, cq, rfl⟩ := own_form ho'
            have HS := Aside0.mk (HM4.out.step (y := true) K6.out hg' ho')
            have hcb : wc.cell? ⟨W.heap.size + 1, 0, none⟩ = some v := (blk_cell (cell_all ho' hg' HM4.out) 0).trans rfl
            have hfb : wc.frozen? ⟨W.heap.size + 1, 0, none⟩ = false := blk_frozen (cell_all ho' hg' HM4.out) 0
            have HB5 : Aside0 (Below W.heap.size W wc) := ⟨HB4.out.grown hg' (below_size HB4.out) (fun k hk => own_base HM4.out k hk)⟩
            have KO5 := Aside0.mk (keeps_append HM4.out BW4.out hg')
            refine hK.out _ _ hcb (fun hHeld => ?_)
            clear hK K
            refine norm_ (a' := ?_) ?_ ?_
            rotate_left
            · show Act.put _ (some 26) _ = _
              simp only [Act.put, List.setIfInBounds_toArray, List.set_cons_zero, List.set_cons_succ, i64_w, i32_w]
              rfl
            refine last_ (i := 4) (N := none) #[true, true, true, true, true] rfl rfl (one_of HT_.out (by kernel_rfl)) (by decide) (fun K hK => ?_)
            refine skip_ (w1 := ?_) (by rfl) rfl ?_ ?_
            rotate_left
            · go_simp
              rfl
            refine hK.out _ _ ?_
            clear hK K
            refine done_ (done_of HT_.out (by kernel_rfl)) ?_
            exact ⟨(KO5.out.trans (KeepsOthers.setCell _ _ _)).from _, fun u hu => by
              rw [hbx] at hu
              cases hu
              exact (blk_cell HS.out.box_ 0).trans rfl, ⟨_, _, HS.out⟩, HB5.out.setCell (p := ⟨W.heap.size + 1, 0, none⟩) (by show W.heap.size ≤ W.heap.size + 1; omega) _⟩
      case done =>
        rintro D ys X hD rfl ⟨⟨v, bs, hM⟩, hBW⟩ hKD
        obtain ⟨g, cap, rfl, hcap, hC⟩ := hM.both (fun b => by cases b; exact D1.out; exact D2.out)
        have hC2 : Aside0 ((Kd.slice 5 (Kd.int .u8)).C X (some ⟨g, 0, none⟩) 2 [d1, d2]) := ⟨hC⟩
        have HCAP := Aside0.mk hcap
        have HBW := Aside0.mk hBW
        have HKD := Aside0.mk hKD
        have RES := Aside0.mk hM.res
        have hcv : X.cell? ⟨W.heap.size + 1, 0, none⟩ = some (.slice (some ⟨g, 0, none⟩) 2 cap) := (blk_cell hM.all 0).trans rfl
        have HD3 := Aside0.mk hD
        clear hx2 hx3 hx4 hBw hC hM hcap hBW hKD hD
        gi_wp2_with (
          first
          | (refine ⟨trivial, ?_⟩; gi_at_call 44; refine (callsIn_wide.2 (tagOf_walk 8 (by decide) _ 2 cap [d1, d2] _ hC2.out HCAP.out (prts2 D1.out.2 D2.out.2 (by rw [D1L.out]; omega) (by rw [D2L.out]; omega)) (HK.out.below HK.out.lt HBW.out))).mono ?_; rintro e w1 ⟨rfl, hb⟩; have RES1 := Aside0.mk (blk_below RES.out hb); have HB1 := Aside0.mk (below_step HBW.out hb); have HKD1 := Aside0.mk (blk_below HKD.out hb); clear hb)
          | (refine dig_store_in rfl (.tmp 2) (.tmp 28) rfl W.heap.size (tagOf 8 [d1, d2]) zeros32 rfl rfl RES1.out (tagOf_len _ _) rfl ?_; intro w2 hb2 hoth hbel hko; have RES2 := Aside0.mk hb2; have HB2 := Aside0.mk (hbel _ _ HB1.out (Nat.le_refl _)); have HKD2 := Aside0.mk (hko.same D _ HKD1.out rfl); clear hb2 hoth hbel hko))
        refine ⟨by simp, .inl ⟨_, _, rfl, run_takeDeferred HKD2.out, ?_⟩⟩
        have hst := stay_grown (grownBy_putObj' w2 D (.deferred none)) (fun r e => by cases e; exact ⟨_, HKD2.out, rfl⟩)
        exact ⟨_, results_c rfl _ _ W.heap.size 25 (arr (tagOf 8 [d1, d2])) (0, 0) _ rfl (hst _ _ _ _ RES2.out) Tryd.underlying25 rfl (by rw [arr_size, tagOf_len]; exact info_dig), rfl, HB2.out.trans (belowK_b (n₀ := W.heap.size) (w := W0) (by omega) w2 D _ _ HD3.out HKD2.out rfl rfl)⟩
end Go.Proofs.YtoaimcobcgomjaaDoor.Q
