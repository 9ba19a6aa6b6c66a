/-
  LockDoes answers true for every two locks and a number: the walk, where neither lock is too long (written by wip/tools/gen_does.py).
-/
import Derived.Test.YtoncnjnicgfhmabLockOver
namespace Go.Proofs.Ytoncnjnicgfhmab.Q
open Go.RowKit Go.Proofs.YtoncnjnicgfhmabW.PrintWords Go.Proofs.YtoncnjnicgfhmabW.PrintLast Go.Proofs.YtoncnjnicgfhmabW.PrintMore
set_option linter.unusedVariables false
set_option linter.unusedSimpArgs false

def does_T : Bool × List (List Nat × List Nat) := (true, [([], []), ([0], [0]), ([], []), ([2, 1], [2]), ([1, 3], [1, 3]), ([4, 3], [4]), ([5], [5]), ([5], [5]), ([6, 7, 5, 5], [5, 6, 7]), ([5], [5]), ([5], [5]), ([9, 10, 8, 5], [5, 9, 10]), ([8, 11, 5], [5, 8, 11]), ([5, 12], [5, 12]), ([13, 11], [13]), ([14], [14]), ([14], [14]), ([15, 16, 14, 14], [14, 15, 16]), ([14, 17], [14, 17]), ([18, 17], [18]), ([19], [19]), ([20, 19, 19], [19, 20]), ([19], [19]), ([21, 22, 21, 19], [19, 21, 22]), ([19, 23], [19, 23]), ([24, 23, 0, 1, 2, 3, 4, 5, 6, 7, 8, 9, 10, 11, 12, 13, 14, 15, 16, 17, 18, 19, 20, 21, 22, 23, 24], [24])])
def does_B : List Nat := [0, 1, 0, 7, 15, 31, 63, 63, 255, 63, 63, 2047, 4095, 8191, 16383, 32767, 32767, 131071, 262143, 524287, 1048575, 2097151, 1048575, 8388607, 16777215, 33554431]
theorem does_tab : rtab .any (opsOf Try.f5 11) = does_T := by kernel_rfl
theorem does_bits : waitsOk does_T.2 does_B = true := by kernel_rfl

set_option maxHeartbeats 16000000 in
set_option maxRecDepth 100000 in
theorem does_short (o o2 n ao ae co ci ce p pe ck : Int) (has sm : Bool) (l l2 al cl : List Int) (A A2 : Option Addr) (c c2 : Nat) (w : World) (HCl0 : Aside0 (Kd.C (Kd.int .i64) w A l.length l)) (HCo0 : Aside0 (Kd.C (Kd.int .i64) w A2 l2.length l2)) (Hcl : Aside0 (l.length ≤ c)) (Hco : Aside0 (l2.length ≤ c2)) (d30 : decide (30 < (l.length : Int)) = false) (d31 : decide (30 < (l2.length : Int)) = false) (HT12 : Aside0 (beadrollref26_Twin.f o l = some (o, l))) (HT8 : Aside0 (lock_Take.f o l n = some (ao, al, has, ae))) (HT13 : Aside0 (beadrollref26_Take.f 100 o l n = some (ao, al, has, ae))) (HT6 : Aside0 (lock_Free.f o l n = some (co, cl, ci, ce))) (HT14 : Aside0 (beadrollref26_Free.f 100 o l n = some (co, cl, ci, ce))) (HT11 : Aside0 (lock_Ahead.f o l n = some (p, pe))) (HT15 : Aside0 (beadrollref26_Ahead.f 100 o l n = some (p, pe))) (HS1 : Aside0 (beadrollref26_Same.f 100 ao al ao al = some true)) (HS2 : Aside0 (beadrollref26_Same.f 100 co cl co cl = some true)) (HK10 : Aside0 (lock_Check.f o l = some ck)) (HK17 : Aside0 (beadrollref26_Check.f 100 o l = some ck)) (HS18 : Aside0 (lock_Same.f 100 o l o2 l2 = some sm)) (HS16 : Aside0 (beadrollref26_Same.f 100 o l o2 l2 = some sm)) (HS18b : Aside0 (lock_Same.f 100 o l o l = some true)) (HS16b : Aside0 (beadrollref26_Same.f 100 o l o l = some true)) (HT19 : Aside0 (lock_Twin.f o l = some (o, l))) :
    Calls Try.prog 5 #[.agg #[.int .i64 o, .slice A l.length c], .agg #[.int .i64 o2, .slice A2 l2.length c2], .int .i64 n] w fun e w' => e = .returned (.bool true) ∧ Below w.heap.size w w' := by
  have HB := Aside0.mk (Below.refl w.heap.size w)
  go_enter Try.func5, Try.ntmps5
  go_wp2_with (
    first
    | (go_at_call 12; (with_reducible refine (beadrollref26_Twin.calls o _ _ l o l _ (Kd.C_alloc (Kd.C_alloc HCl0.out _) _) Hcl.out HT12.out).mono ?_); (rintro e0 w1 ⟨v, rfl, ho, hb⟩; obtain ⟨A7, c7, e0, hc0, hC0⟩ := Kd.R_reads ho; subst e0; have HC7 : Aside0 (Kd.C (Kd.int .i64) w1 A7 l.length l) := ⟨hC0⟩; have Hc7 := Aside0.mk hc0; have BK3 : Aside0 (w1.heap[w.heap.size]? = some (.cells #[.int .i64 o, .slice A l.length c] 24 (0, 0))) := ⟨blk_below (blk_alloc (blk_new w _) _) hb⟩; have BK4 : Aside0 (w1.heap[w.heap.size + 1]? = some (.cells #[.int .i64 o2, .slice A2 l2.length c2] 24 (0, 0))) := ⟨blk_below (by have := blk_new (w.alloc (.cells #[.int .i64 o, .slice A l.length c] 24)) (.cells #[.int .i64 o2, .slice A2 l2.length c2] 24); rwa [World.size_alloc] at this) hb⟩; have HCl : Aside0 (Kd.C (Kd.int .i64) w1 A l.length l) := ⟨Kd.C_below (Kd.C_alloc (Kd.C_alloc HCl0.out _) _) hb⟩; have HCo : Aside0 (Kd.C (Kd.int .i64) w1 A2 l2.length l2) := ⟨Kd.C_below (Kd.C_alloc (Kd.C_alloc HCo0.out _) _) hb⟩; have n0 : Aside0 (Below w.heap.size w w1) := ⟨below_step (below_alloc (below_alloc HB.out _) _) hb⟩; clear HB; have HB := n0; clear n0 ho hb hc0 hC0; skip))
    | (go_at_call 8; have n7 : Aside0 ((w1.alloc (.cells #[.int .i64 o, .slice A7 l.length c7] 24)).heap[w1.heap.size]? = some (.cells #[.int .i64 o, .slice A7 l.length c7] 24 (0, 0))) := ⟨blk_new w1 _⟩; have n0 : Aside0 ((w1.alloc (.cells #[.int .i64 o, .slice A7 l.length c7] 24)).heap[w.heap.size]? = some (.cells #[.int .i64 o, .slice A l.length c] 24 (0, 0))) := ⟨blk_alloc BK3.out _⟩; clear BK3; have BK3 := n0; clear n0; have n0 : Aside0 ((w1.alloc (.cells #[.int .i64 o, .slice A7 l.length c7] 24)).heap[w.heap.size + 1]? = some (.cells #[.int .i64 o2, .slice A2 l2.length c2] 24 (0, 0))) := ⟨blk_alloc BK4.out _⟩; clear BK4; have BK4 := n0; clear n0; have n0 : Aside0 (Kd.C (Kd.int .i64) (w1.alloc (.cells #[.int .i64 o, .slice A7 l.length c7] 24)) A l.length l) := ⟨Kd.C_alloc HCl.out _⟩; clear HCl; have HCl := n0; clear n0; have n0 : Aside0 (Kd.C (Kd.int .i64) (w1.alloc (.cells #[.int .i64 o, .slice A7 l.length c7] 24)) A2 l2.length l2) := ⟨Kd.C_alloc HCo.out _⟩; clear HCo; have HCo := n0; clear n0; have n0 : Aside0 (Kd.C (Kd.int .i64) (w1.alloc (.cells #[.int .i64 o, .slice A7 l.length c7] 24)) A7 l.length l) := ⟨Kd.C_alloc HC7.out _⟩; clear HC7; have HC7 := n0; clear n0; have n0 : Aside0 (Below w.heap.size w (w1.alloc (.cells #[.int .i64 o, .slice A7 l.length c7] 24))) := ⟨below_alloc HB.out _⟩; clear HB; have HB := n0; clear n0; have BK7 := n7; clear n7; generalize hE1 : (w1.alloc (.cells #[.int .i64 o, .slice A7 l.length c7] 24)) = E1 at BK3 BK4 BK7 HCl HCo HC7 HB ⊢; (with_reducible refine (lock_Take.calls o _ _ l n ao al has ae _ HC7.out Hc7.out HT8.out).mono ?_); (rintro e0 w2 ⟨v, rfl, ho, hb⟩; obtain ⟨A8, c8, e0, hc0, hC0⟩ := Kd.R_reads ho; subst e0; have HC8 : Aside0 (Kd.C (Kd.int .i64) w2 A8 al.length al) := ⟨hC0⟩; have Hc8 := Aside0.mk hc0; have HW8 : Aside0 (Wr E1.heap.size w2 (.slice A8 al.length c8)) := ⟨Wr.of_Q (Kd.Q_of_R ho)⟩; have HB1 : Aside0 (Below E1.heap.size E1 w2) := ⟨hb⟩; clear ho hb hc0 hC0; (try clear hz30 hz31); (try clear hz40 hz41); (try clear hz70 hz71); (try clear hz80 hz81); (try clear hz110 hz111); (try clear hz140 hz141); (try clear hz170 hz171); have hz30 : (w2.alloc (.cells #[.int .i64 ao, .slice A8 al.length c8] 24)).cell? ⟨w.heap.size, 0, none⟩ = some (.int .i64 o) := (blk_cell (blk_alloc (blk_below BK3.out HB1.out) _) 0).trans rfl; have hz31 : (w2.alloc (.cells #[.int .i64 ao, .slice A8 al.length c8] 24)).cell? ⟨w.heap.size, 1, none⟩ = some (.slice A l.length c) := (blk_cell (blk_alloc (blk_below BK3.out HB1.out) _) 1).trans rfl; have hz70 : (w2.alloc (.cells #[.int .i64 ao, .slice A8 al.length c8] 24)).cell? ⟨w1.heap.size, 0, none⟩ = some (.int .i64 o) := (blk_cell (blk_alloc (blk_below BK7.out HB1.out) _) 0).trans rfl; have hz71 : (w2.alloc (.cells #[.int .i64 ao, .slice A8 al.length c8] 24)).cell? ⟨w1.heap.size, 1, none⟩ = some (.slice A7 l.length c7) := (blk_cell (blk_alloc (blk_below BK7.out HB1.out) _) 1).trans rfl; skip))
    | (go_at_call 13; (with_reducible refine (beadrollref26_Take.calls 100 o _ _ l n ao al has ae _ (Kd.C_below HCl.out (below_alloc HB1.out _)) Hcl.out HT13.out).mono ?_); (rintro e0 w3 ⟨v, rfl, ho, hb⟩; have n0 : Aside0 (Below E1.heap.size E1 w3) := ⟨below_step (below_alloc HB1.out _) hb⟩; have BK8 : Aside0 (w3.heap[w2.heap.size]? = some (.cells #[.int .i64 ao, .slice A8 al.length c8] 24 (0, 0))) := ⟨blk_below (blk_new w2 (.cells #[.int .i64 ao, .slice A8 al.length c8] 24)) hb⟩; have m0 : Aside0 (Kd.C (Kd.int .i64) w3 A8 al.length al) := ⟨Kd.C_below (Kd.C_alloc HC8.out _) hb⟩; clear HC8; have HC8 := m0; clear m0; have m0 : Aside0 (Wr E1.heap.size w3 (.slice A8 al.length c8)) := ⟨(HW8.out.below (below_alloc (Below.refl _ _) _) (Nat.le_refl _)).below hb (Nat.le_refl _)⟩; clear HW8; have HW8 := m0; clear m0; clear HB1; have HB1 := n0; clear n0; obtain ⟨A11, c11, e0, hc0, hC0⟩ := Kd.R_reads ho; subst e0; have HC11 : Aside0 (Kd.C (Kd.int .i64) w3 A11 al.length al) := ⟨hC0⟩; have Hc11 := Aside0.mk hc0; clear ho hb hc0 hC0; (try clear hz30 hz31); (try clear hz40 hz41); (try clear hz70 hz71); (try clear hz80 hz81); (try clear hz110 hz111); (try clear hz140 hz141); (try clear hz170 hz171); have hz30 : (w3.alloc (.cells #[.int .i64 ao, .slice A11 al.length c11] 24)).cell? ⟨w.heap.size, 0, none⟩ = some (.int .i64 o) := (blk_cell (blk_alloc (blk_below BK3.out HB1.out) _) 0).trans rfl; have hz31 : (w3.alloc (.cells #[.int .i64 ao, .slice A11 al.length c11] 24)).cell? ⟨w.heap.size, 1, none⟩ = some (.slice A l.length c) := (blk_cell (blk_alloc (blk_below BK3.out HB1.out) _) 1).trans rfl; have hz70 : (w3.alloc (.cells #[.int .i64 ao, .slice A11 al.length c11] 24)).cell? ⟨w1.heap.size, 0, none⟩ = some (.int .i64 o) := (blk_cell (blk_alloc (blk_below BK7.out HB1.out) _) 0).trans rfl; have hz71 : (w3.alloc (.cells #[.int .i64 ao, .slice A11 al.length c11] 24)).cell? ⟨w1.heap.size, 1, none⟩ = some (.slice A7 l.length c7) := (blk_cell (blk_alloc (blk_below BK7.out HB1.out) _) 1).trans rfl; skip))
    | (go_at_call 6; (with_reducible refine (lock_Free.calls o _ _ l n co cl ci ce _ (Kd.C_below HC7.out (below_alloc HB1.out _)) Hc7.out HT6.out).mono ?_); (rintro e0 w4 ⟨v, rfl, ho, hb⟩; have nq := Kd.Q_lower ho (below_alloc HB1.out (.cells #[.int .i64 ao, .slice A11 al.length c11] 24)).size; have n0 : Aside0 (Below E1.heap.size E1 w4) := ⟨below_step (below_alloc HB1.out _) hb⟩; have m0 : Aside0 (w4.heap[w2.heap.size]? = some (.cells #[.int .i64 ao, .slice A8 al.length c8] 24 (0, 0))) := ⟨blk_below (blk_alloc BK8.out _) hb⟩; clear BK8; have BK8 := m0; clear m0; have BK11 : Aside0 (w4.heap[w3.heap.size]? = some (.cells #[.int .i64 ao, .slice A11 al.length c11] 24 (0, 0))) := ⟨blk_below (blk_new w3 (.cells #[.int .i64 ao, .slice A11 al.length c11] 24)) hb⟩; have m0 : Aside0 (Kd.C (Kd.int .i64) w4 A8 al.length al) := ⟨Kd.C_below (Kd.C_alloc HC8.out _) hb⟩; clear HC8; have HC8 := m0; clear m0; have m0 : Aside0 (Kd.C (Kd.int .i64) w4 A11 al.length al) := ⟨Kd.C_below (Kd.C_alloc HC11.out _) hb⟩; clear HC11; have HC11 := m0; clear m0; have m0 : Aside0 (Wr E1.heap.size w4 (.slice A8 al.length c8)) := ⟨(HW8.out.below (below_alloc (Below.refl _ _) _) (Nat.le_refl _)).below hb (Nat.le_refl _)⟩; clear HW8; have HW8 := m0; clear m0; clear HB1; have HB1 := n0; clear n0; obtain ⟨A14, c14, e0, hc0, hC0⟩ := Kd.Q_reads ho; subst e0; have HC14 : Aside0 (Kd.C (Kd.int .i64) w4 A14 cl.length cl) := ⟨hC0⟩; have Hc14 := Aside0.mk hc0; have HW14 : Aside0 (Wr E1.heap.size w4 (.slice A14 cl.length c14)) := ⟨Wr.of_Q nq⟩; clear ho hb hc0 hC0 nq; (try clear hz30 hz31); (try clear hz40 hz41); (try clear hz70 hz71); (try clear hz80 hz81); (try clear hz110 hz111); (try clear hz140 hz141); (try clear hz170 hz171); have hz30 : (w4.alloc (.cells #[.int .i64 co, .slice A14 cl.length c14] 24)).cell? ⟨w.heap.size, 0, none⟩ = some (.int .i64 o) := (blk_cell (blk_alloc (blk_below BK3.out HB1.out) _) 0).trans rfl; have hz31 : (w4.alloc (.cells #[.int .i64 co, .slice A14 cl.length c14] 24)).cell? ⟨w.heap.size, 1, none⟩ = some (.slice A l.length c) := (blk_cell (blk_alloc (blk_below BK3.out HB1.out) _) 1).trans rfl; have hz70 : (w4.alloc (.cells #[.int .i64 co, .slice A14 cl.length c14] 24)).cell? ⟨w1.heap.size, 0, none⟩ = some (.int .i64 o) := (blk_cell (blk_alloc (blk_below BK7.out HB1.out) _) 0).trans rfl; have hz71 : (w4.alloc (.cells #[.int .i64 co, .slice A14 cl.length c14] 24)).cell? ⟨w1.heap.size, 1, none⟩ = some (.slice A7 l.length c7) := (blk_cell (blk_alloc (blk_below BK7.out HB1.out) _) 1).trans rfl; skip))
    | (go_at_call 14; (with_reducible refine (beadrollref26_Free.calls 100 o _ _ l n co cl ci ce _ (Kd.C_below HCl.out (below_alloc HB1.out _)) Hcl.out HT14.out).mono ?_); (rintro e0 w5 ⟨v, rfl, ho, hb⟩; have n0 : Aside0 (Below E1.heap.size E1 w5) := ⟨below_step (below_alloc HB1.out _) hb⟩; have m0 : Aside0 (w5.heap[w2.heap.size]? = some (.cells #[.int .i64 ao, .slice A8 al.length c8] 24 (0, 0))) := ⟨blk_below (blk_alloc BK8.out _) hb⟩; clear BK8; have BK8 := m0; clear m0; have m0 : Aside0 (w5.heap[w3.heap.size]? = some (.cells #[.int .i64 ao, .slice A11 al.length c11] 24 (0, 0))) := ⟨blk_below (blk_alloc BK11.out _) hb⟩; clear BK11; have BK11 := m0; clear m0; have BK14 : Aside0 (w5.heap[w4.heap.size]? = some (.cells #[.int .i64 co, .slice A14 cl.length c14] 24 (0, 0))) := ⟨blk_below (blk_new w4 (.cells #[.int .i64 co, .slice A14 cl.length c14] 24)) hb⟩; have m0 : Aside0 (Kd.C (Kd.int .i64) w5 A8 al.length al) := ⟨Kd.C_below (Kd.C_alloc HC8.out _) hb⟩; clear HC8; have HC8 := m0; clear m0; have m0 : Aside0 (Kd.C (Kd.int .i64) w5 A11 al.length al) := ⟨Kd.C_below (Kd.C_alloc HC11.out _) hb⟩; clear HC11; have HC11 := m0; clear m0; have m0 : Aside0 (Kd.C (Kd.int .i64) w5 A14 cl.length cl) := ⟨Kd.C_below (Kd.C_alloc HC14.out _) hb⟩; clear HC14; have HC14 := m0; clear m0; have m0 : Aside0 (Wr E1.heap.size w5 (.slice A8 al.length c8)) := ⟨(HW8.out.below (below_alloc (Below.refl _ _) _) (Nat.le_refl _)).below hb (Nat.le_refl _)⟩; clear HW8; have HW8 := m0; clear m0; have m0 : Aside0 (Wr E1.heap.size w5 (.slice A14 cl.length c14)) := ⟨(HW14.out.below (below_alloc (Below.refl _ _) _) (Nat.le_refl _)).below hb (Nat.le_refl _)⟩; clear HW14; have HW14 := m0; clear m0; clear HB1; have HB1 := n0; clear n0; obtain ⟨A17, c17, e0, hc0, hC0⟩ := Kd.R_reads ho; subst e0; have HC17 : Aside0 (Kd.C (Kd.int .i64) w5 A17 cl.length cl) := ⟨hC0⟩; have Hc17 := Aside0.mk hc0; clear ho hb hc0 hC0; (try clear hz30 hz31); (try clear hz40 hz41); (try clear hz70 hz71); (try clear hz80 hz81); (try clear hz110 hz111); (try clear hz140 hz141); (try clear hz170 hz171); have hz30 : (w5.alloc (.cells #[.int .i64 co, .slice A17 cl.length c17] 24)).cell? ⟨w.heap.size, 0, none⟩ = some (.int .i64 o) := (blk_cell (blk_alloc (blk_below BK3.out HB1.out) _) 0).trans rfl; have hz31 : (w5.alloc (.cells #[.int .i64 co, .slice A17 cl.length c17] 24)).cell? ⟨w.heap.size, 1, none⟩ = some (.slice A l.length c) := (blk_cell (blk_alloc (blk_below BK3.out HB1.out) _) 1).trans rfl; have hz70 : (w5.alloc (.cells #[.int .i64 co, .slice A17 cl.length c17] 24)).cell? ⟨w1.heap.size, 0, none⟩ = some (.int .i64 o) := (blk_cell (blk_alloc (blk_below BK7.out HB1.out) _) 0).trans rfl; have hz71 : (w5.alloc (.cells #[.int .i64 co, .slice A17 cl.length c17] 24)).cell? ⟨w1.heap.size, 1, none⟩ = some (.slice A7 l.length c7) := (blk_cell (blk_alloc (blk_below BK7.out HB1.out) _) 1).trans rfl; skip))
    | (go_at_call 11; (with_reducible refine (lock_Ahead.calls o _ _ l n p pe _ (Kd.C_below HC7.out (below_alloc HB1.out _)) Hc7.out HT11.out).mono ?_); (rintro e0 w6 ⟨rfl, hb⟩; have n0 : Aside0 (Below E1.heap.size E1 w6) := ⟨below_step (below_alloc HB1.out _) hb⟩; have m0 : Aside0 (w6.heap[w2.heap.size]? = some (.cells #[.int .i64 ao, .slice A8 al.length c8] 24 (0, 0))) := ⟨blk_below (blk_alloc BK8.out _) hb⟩; clear BK8; have BK8 := m0; clear m0; have m0 : Aside0 (w6.heap[w3.heap.size]? = some (.cells #[.int .i64 ao, .slice A11 al.length c11] 24 (0, 0))) := ⟨blk_below (blk_alloc BK11.out _) hb⟩; clear BK11; have BK11 := m0; clear m0; have m0 : Aside0 (w6.heap[w4.heap.size]? = some (.cells #[.int .i64 co, .slice A14 cl.length c14] 24 (0, 0))) := ⟨blk_below (blk_alloc BK14.out _) hb⟩; clear BK14; have BK14 := m0; clear m0; have BK17 : Aside0 (w6.heap[w5.heap.size]? = some (.cells #[.int .i64 co, .slice A17 cl.length c17] 24 (0, 0))) := ⟨blk_below (blk_new w5 (.cells #[.int .i64 co, .slice A17 cl.length c17] 24)) hb⟩; have m0 : Aside0 (Kd.C (Kd.int .i64) w6 A8 al.length al) := ⟨Kd.C_below (Kd.C_alloc HC8.out _) hb⟩; clear HC8; have HC8 := m0; clear m0; have m0 : Aside0 (Kd.C (Kd.int .i64) w6 A11 al.length al) := ⟨Kd.C_below (Kd.C_alloc HC11.out _) hb⟩; clear HC11; have HC11 := m0; clear m0; have m0 : Aside0 (Kd.C (Kd.int .i64) w6 A14 cl.length cl) := ⟨Kd.C_below (Kd.C_alloc HC14.out _) hb⟩; clear HC14; have HC14 := m0; clear m0; have m0 : Aside0 (Kd.C (Kd.int .i64) w6 A17 cl.length cl) := ⟨Kd.C_below (Kd.C_alloc HC17.out _) hb⟩; clear HC17; have HC17 := m0; clear m0; have m0 : Aside0 (Wr E1.heap.size w6 (.slice A8 al.length c8)) := ⟨(HW8.out.below (below_alloc (Below.refl _ _) _) (Nat.le_refl _)).below hb (Nat.le_refl _)⟩; clear HW8; have HW8 := m0; clear m0; have m0 : Aside0 (Wr E1.heap.size w6 (.slice A14 cl.length c14)) := ⟨(HW14.out.below (below_alloc (Below.refl _ _) _) (Nat.le_refl _)).below hb (Nat.le_refl _)⟩; clear HW14; have HW14 := m0; clear m0; clear HB1; have HB1 := n0; clear n0; clear hb; (try clear hz30 hz31); (try clear hz40 hz41); (try clear hz70 hz71); (try clear hz80 hz81); (try clear hz110 hz111); (try clear hz140 hz141); (try clear hz170 hz171); have hz30 : (w6).cell? ⟨w.heap.size, 0, none⟩ = some (.int .i64 o) := (blk_cell (blk_below BK3.out HB1.out) 0).trans rfl; have hz31 : (w6).cell? ⟨w.heap.size, 1, none⟩ = some (.slice A l.length c) := (blk_cell (blk_below BK3.out HB1.out) 1).trans rfl; have hz70 : (w6).cell? ⟨w1.heap.size, 0, none⟩ = some (.int .i64 o) := (blk_cell (blk_below BK7.out HB1.out) 0).trans rfl; have hz71 : (w6).cell? ⟨w1.heap.size, 1, none⟩ = some (.slice A7 l.length c7) := (blk_cell (blk_below BK7.out HB1.out) 1).trans rfl; skip))
    | (go_at_call 15; (with_reducible refine (beadrollref26_Ahead.calls 100 o _ _ l n p pe _ (Kd.C_below HCl.out HB1.out) Hcl.out HT15.out).mono ?_); (rintro e0 w7 ⟨rfl, hb⟩; have n0 : Aside0 (Below E1.heap.size E1 w7) := ⟨below_step HB1.out hb⟩; have m0 : Aside0 (w7.heap[w2.heap.size]? = some (.cells #[.int .i64 ao, .slice A8 al.length c8] 24 (0, 0))) := ⟨blk_below BK8.out hb⟩; clear BK8; have BK8 := m0; clear m0; have m0 : Aside0 (w7.heap[w3.heap.size]? = some (.cells #[.int .i64 ao, .slice A11 al.length c11] 24 (0, 0))) := ⟨blk_below BK11.out hb⟩; clear BK11; have BK11 := m0; clear m0; have m0 : Aside0 (w7.heap[w4.heap.size]? = some (.cells #[.int .i64 co, .slice A14 cl.length c14] 24 (0, 0))) := ⟨blk_below BK14.out hb⟩; clear BK14; have BK14 := m0; clear m0; have m0 : Aside0 (w7.heap[w5.heap.size]? = some (.cells #[.int .i64 co, .slice A17 cl.length c17] 24 (0, 0))) := ⟨blk_below BK17.out hb⟩; clear BK17; have BK17 := m0; clear m0; have m0 : Aside0 (Kd.C (Kd.int .i64) w7 A8 al.length al) := ⟨Kd.C_below HC8.out hb⟩; clear HC8; have HC8 := m0; clear m0; have m0 : Aside0 (Kd.C (Kd.int .i64) w7 A11 al.length al) := ⟨Kd.C_below HC11.out hb⟩; clear HC11; have HC11 := m0; clear m0; have m0 : Aside0 (Kd.C (Kd.int .i64) w7 A14 cl.length cl) := ⟨Kd.C_below HC14.out hb⟩; clear HC14; have HC14 := m0; clear m0; have m0 : Aside0 (Kd.C (Kd.int .i64) w7 A17 cl.length cl) := ⟨Kd.C_below HC17.out hb⟩; clear HC17; have HC17 := m0; clear m0; have m0 : Aside0 (Wr E1.heap.size w7 (.slice A8 al.length c8)) := ⟨(HW8.out).below hb (Nat.le_refl _)⟩; clear HW8; have HW8 := m0; clear m0; have m0 : Aside0 (Wr E1.heap.size w7 (.slice A14 cl.length c14)) := ⟨(HW14.out).below hb (Nat.le_refl _)⟩; clear HW14; have HW14 := m0; clear m0; clear HB1; have HB1 := n0; clear n0; clear hb; (try clear hz30 hz31); (try clear hz40 hz41); (try clear hz70 hz71); (try clear hz80 hz81); (try clear hz110 hz111); (try clear hz140 hz141); (try clear hz170 hz171); have hz80 : (w7).cell? ⟨w2.heap.size, 0, none⟩ = some (.int .i64 ao) := (blk_cell BK8.out 0).trans rfl; have hz81 : (w7).cell? ⟨w2.heap.size, 1, none⟩ = some (.slice A8 al.length c8) := (blk_cell BK8.out 1).trans rfl; have hz110 : (w7).cell? ⟨w3.heap.size, 0, none⟩ = some (.int .i64 ao) := (blk_cell BK11.out 0).trans rfl; have hz111 : (w7).cell? ⟨w3.heap.size, 1, none⟩ = some (.slice A11 al.length c11) := (blk_cell BK11.out 1).trans rfl; skip))
    | (go_at_call 16; (with_reducible refine (beadrollref26_Same.calls 100 ao _ _ al ao _ _ al true _ HC8.out Hc8.out HC11.out Hc11.out HS1.out).mono ?_); (rintro e0 w8 ⟨rfl, hb⟩; have n0 : Aside0 (Below E1.heap.size E1 w8) := ⟨below_step HB1.out hb⟩; have m0 : Aside0 (w8.heap[w2.heap.size]? = some (.cells #[.int .i64 ao, .slice A8 al.length c8] 24 (0, 0))) := ⟨blk_below BK8.out hb⟩; clear BK8; have BK8 := m0; clear m0; have m0 : Aside0 (w8.heap[w3.heap.size]? = some (.cells #[.int .i64 ao, .slice A11 al.length c11] 24 (0, 0))) := ⟨blk_below BK11.out hb⟩; clear BK11; have BK11 := m0; clear m0; have m0 : Aside0 (w8.heap[w4.heap.size]? = some (.cells #[.int .i64 co, .slice A14 cl.length c14] 24 (0, 0))) := ⟨blk_below BK14.out hb⟩; clear BK14; have BK14 := m0; clear m0; have m0 : Aside0 (w8.heap[w5.heap.size]? = some (.cells #[.int .i64 co, .slice A17 cl.length c17] 24 (0, 0))) := ⟨blk_below BK17.out hb⟩; clear BK17; have BK17 := m0; clear m0; have m0 : Aside0 (Kd.C (Kd.int .i64) w8 A8 al.length al) := ⟨Kd.C_below HC8.out hb⟩; clear HC8; have HC8 := m0; clear m0; have m0 : Aside0 (Kd.C (Kd.int .i64) w8 A11 al.length al) := ⟨Kd.C_below HC11.out hb⟩; clear HC11; have HC11 := m0; clear m0; have m0 : Aside0 (Kd.C (Kd.int .i64) w8 A14 cl.length cl) := ⟨Kd.C_below HC14.out hb⟩; clear HC14; have HC14 := m0; clear m0; have m0 : Aside0 (Kd.C (Kd.int .i64) w8 A17 cl.length cl) := ⟨Kd.C_below HC17.out hb⟩; clear HC17; have HC17 := m0; clear m0; have m0 : Aside0 (Wr E1.heap.size w8 (.slice A8 al.length c8)) := ⟨(HW8.out).below hb (Nat.le_refl _)⟩; clear HW8; have HW8 := m0; clear m0; have m0 : Aside0 (Wr E1.heap.size w8 (.slice A14 cl.length c14)) := ⟨(HW14.out).below hb (Nat.le_refl _)⟩; clear HW14; have HW14 := m0; clear m0; clear HB1; have HB1 := n0; clear n0; clear hb; (try clear hz30 hz31); (try clear hz40 hz41); (try clear hz70 hz71); (try clear hz80 hz81); (try clear hz110 hz111); (try clear hz140 hz141); (try clear hz170 hz171); have hz140 : (w8).cell? ⟨w4.heap.size, 0, none⟩ = some (.int .i64 co) := (blk_cell BK14.out 0).trans rfl; have hz141 : (w8).cell? ⟨w4.heap.size, 1, none⟩ = some (.slice A14 cl.length c14) := (blk_cell BK14.out 1).trans rfl; have hz170 : (w8).cell? ⟨w5.heap.size, 0, none⟩ = some (.int .i64 co) := (blk_cell BK17.out 0).trans rfl; have hz171 : (w8).cell? ⟨w5.heap.size, 1, none⟩ = some (.slice A17 cl.length c17) := (blk_cell BK17.out 1).trans rfl; skip))
    | (go_at_call 16; (with_reducible refine (beadrollref26_Same.calls 100 co _ _ cl co _ _ cl true _ HC14.out Hc14.out HC17.out Hc17.out HS2.out).mono ?_); (rintro e0 w9 ⟨rfl, hb⟩; have n0 : Aside0 (Below E1.heap.size E1 w9) := ⟨below_step HB1.out hb⟩; have m0 : Aside0 (w9.heap[w2.heap.size]? = some (.cells #[.int .i64 ao, .slice A8 al.length c8] 24 (0, 0))) := ⟨blk_below BK8.out hb⟩; clear BK8; have BK8 := m0; clear m0; have m0 : Aside0 (w9.heap[w3.heap.size]? = some (.cells #[.int .i64 ao, .slice A11 al.length c11] 24 (0, 0))) := ⟨blk_below BK11.out hb⟩; clear BK11; have BK11 := m0; clear m0; have m0 : Aside0 (w9.heap[w4.heap.size]? = some (.cells #[.int .i64 co, .slice A14 cl.length c14] 24 (0, 0))) := ⟨blk_below BK14.out hb⟩; clear BK14; have BK14 := m0; clear m0; have m0 : Aside0 (w9.heap[w5.heap.size]? = some (.cells #[.int .i64 co, .slice A17 cl.length c17] 24 (0, 0))) := ⟨blk_below BK17.out hb⟩; clear BK17; have BK17 := m0; clear m0; have m0 : Aside0 (Kd.C (Kd.int .i64) w9 A8 al.length al) := ⟨Kd.C_below HC8.out hb⟩; clear HC8; have HC8 := m0; clear m0; have m0 : Aside0 (Kd.C (Kd.int .i64) w9 A11 al.length al) := ⟨Kd.C_below HC11.out hb⟩; clear HC11; have HC11 := m0; clear m0; have m0 : Aside0 (Kd.C (Kd.int .i64) w9 A14 cl.length cl) := ⟨Kd.C_below HC14.out hb⟩; clear HC14; have HC14 := m0; clear m0; have m0 : Aside0 (Kd.C (Kd.int .i64) w9 A17 cl.length cl) := ⟨Kd.C_below HC17.out hb⟩; clear HC17; have HC17 := m0; clear m0; have m0 : Aside0 (Wr E1.heap.size w9 (.slice A8 al.length c8)) := ⟨(HW8.out).below hb (Nat.le_refl _)⟩; clear HW8; have HW8 := m0; clear m0; have m0 : Aside0 (Wr E1.heap.size w9 (.slice A14 cl.length c14)) := ⟨(HW14.out).below hb (Nat.le_refl _)⟩; clear HW14; have HW14 := m0; clear m0; clear HB1; have HB1 := n0; clear n0; clear hb; (try clear hz30 hz31); (try clear hz40 hz41); (try clear hz70 hz71); (try clear hz80 hz81); (try clear hz110 hz111); (try clear hz140 hz141); (try clear hz170 hz171); skip)))
  have n0 : Aside0 (Below E1.heap.size E1 w9.drew) := ⟨below_drew1 HB1.out⟩
  clear HB1
  have HB1 := n0
  clear n0
  have m0 : Aside0 (w9.drew.heap[w2.heap.size]? = some (.cells #[.int .i64 ao, .slice A8 al.length c8] 24 (0, 0))) := ⟨blk_drew BK8.out⟩
  clear BK8
  have BK8 := m0
  clear m0
  have m0 : Aside0 (w9.drew.heap[w3.heap.size]? = some (.cells #[.int .i64 ao, .slice A11 al.length c11] 24 (0, 0))) := ⟨blk_drew BK11.out⟩
  clear BK11
  have BK11 := m0
  clear m0
  have m0 : Aside0 (w9.drew.heap[w4.heap.size]? = some (.cells #[.int .i64 co, .slice A14 cl.length c14] 24 (0, 0))) := ⟨blk_drew BK14.out⟩
  clear BK14
  have BK14 := m0
  clear m0
  have m0 : Aside0 (w9.drew.heap[w5.heap.size]? = some (.cells #[.int .i64 co, .slice A17 cl.length c17] 24 (0, 0))) := ⟨blk_drew BK17.out⟩
  clear BK17
  have BK17 := m0
  clear m0
  have m0 : Aside0 (Wr E1.heap.size w9.drew (.slice A8 al.length c8)) := ⟨HW8.out.below (below_drew (Below.refl _ _)) (Nat.le_refl _)⟩
  clear HW8
  have HW8 := m0
  clear m0
  have m0 : Aside0 (Wr E1.heap.size w9.drew (.slice A14 cl.length c14)) := ⟨HW14.out.below (below_drew (Below.refl _ _)) (Nat.le_refl _)⟩
  clear HW14
  have HW14 := m0
  clear m0
  refine start_ (n := 26) (S := fun w' => w'.cell? ⟨w.heap.size, 0, none⟩ = some (.int .i64 o) ∧ w'.cell? ⟨w.heap.size, 1, none⟩ = some (.slice A l.length c) ∧ w'.cell? ⟨w.heap.size + 1, 0, none⟩ = some (.int .i64 o2) ∧ w'.cell? ⟨w.heap.size + 1, 1, none⟩ = some (.slice A2 l2.length c2) ∧ w'.cell? ⟨w1.heap.size, 0, none⟩ = some (.int .i64 o) ∧ w'.cell? ⟨w1.heap.size, 1, none⟩ = some (.slice A7 l.length c7)) (ds := []) #[false, false, false, false, false, false, false, false, false, false, false, false, false, false, false, false, false, false, false, false, false, false, false, false, false, false] (by kernel_rfl) rfl rfl ⟨(blk_cell (blk_below BK3.out HB1.out) 0).trans rfl, (blk_cell (blk_below BK3.out HB1.out) 1).trans rfl, (blk_cell (blk_below BK4.out HB1.out) 0).trans rfl, (blk_cell (blk_below BK4.out HB1.out) 1).trans rfl, (blk_cell (blk_below BK7.out HB1.out) 0).trans rfl, (blk_cell (blk_below BK7.out HB1.out) 1).trans rfl⟩ (fun hHeld => ?_)
  refine with_tabW does_tab does_bits (fun HT_ HW_ => ?_)
  generalize w9.drew = w9d at HB1 BK8 BK11 BK14 BK17 HW8 HW14 hHeld ⊢
  refine take_ (i := 0) (N := some 116) (v := ?_) (a' := ?_) #[true, false, false, false, false, false, false, false, false, false, false, false, false, false, false, false, false, false, false, false, false, false, false, false, false, false] rfl rfl (take_ofW HT_.out HW_.out (by kernel_rfl)) (fun _ _ _ h => h) (Or.inl ⟨by rfl, ?_⟩) hHeld ?_ ?_
  rotate_left
  · rintro w' ⟨s0, s1, s2, s3, s4, s5⟩
    go_simp
    with_reducible rfl
  rotate_left
  · simp only [Act.put, List.setIfInBounds_toArray, List.set_cons_zero, List.set_cons_succ, i64_w, i32_w]
    rfl
  refine take_ (i := 2) (N := some 118) (v := ?_) (a' := ?_) #[true, false, true, false, false, false, false, false, false, false, false, false, false, false, false, false, false, false, false, false, false, false, false, false, false, false] rfl rfl (take_ofW HT_.out HW_.out (by kernel_rfl)) (fun _ _ _ h => h) (Or.inl ⟨by rfl, ?_⟩) hHeld ?_ ?_
  rotate_left
  · rintro w' ⟨s0, s1, s2, s3, s4, s5⟩
    go_simp
    with_reducible rfl
  rotate_left
  · simp only [Act.put, List.setIfInBounds_toArray, List.set_cons_zero, List.set_cons_succ, i64_w, i32_w]
    rfl
  refine one_ (i := 1) (N := some 117) #[true, true, true, false, false, false, false, false, false, false, false, false, false, false, false, false, false, false, false, false, false, false, false, false, false, false] rfl rfl (one_of HT_.out (by kernel_rfl)) (by decide) (fun K hK => ?_)
  refine goes_ Try.func10 (by kernel_rfl) rfl #[.agg #[.int .i64 o, .slice A7 l.length c7]] (by rfl) rfl rfl (by (try simp only [List.map_toArray, List.map_cons, List.map_nil]); first | done | rfl) ?_
  with_reducible refine (lock_Check.calls o _ _ l ck _ (Kd.C_below HC7.out HB1.out) Hc7.out HK10.out).mono ?_
  rintro e0 w10 ⟨rfl, hb⟩
  refine ⟨_, rfl, ?_⟩
  have n0 : Aside0 (Below E1.heap.size E1 w10) := ⟨below_step HB1.out hb⟩
  have m0 : Aside0 (w10.heap[w2.heap.size]? = some (.cells #[.int .i64 ao, .slice A8 al.length c8] 24 (0, 0))) := ⟨blk_below BK8.out hb⟩
  clear BK8
  have BK8 := m0
  clear m0
  have m0 : Aside0 (w10.heap[w3.heap.size]? = some (.cells #[.int .i64 ao, .slice A11 al.length c11] 24 (0, 0))) := ⟨blk_below BK11.out hb⟩
  clear BK11
  have BK11 := m0
  clear m0
  have m0 : Aside0 (w10.heap[w4.heap.size]? = some (.cells #[.int .i64 co, .slice A14 cl.length c14] 24 (0, 0))) := ⟨blk_below BK14.out hb⟩
  clear BK14
  have BK14 := m0
  clear m0
  have m0 : Aside0 (w10.heap[w5.heap.size]? = some (.cells #[.int .i64 co, .slice A17 cl.length c17] 24 (0, 0))) := ⟨blk_below BK17.out hb⟩
  clear BK17
  have BK17 := m0
  clear m0
  have m0 : Aside0 (Wr E1.heap.size w10 (.slice A8 al.length c8)) := ⟨(HW8.out).below hb (Nat.le_refl _)⟩
  clear HW8
  have HW8 := m0
  clear m0
  have m0 : Aside0 (Wr E1.heap.size w10 (.slice A14 cl.length c14)) := ⟨(HW14.out).below hb (Nat.le_refl _)⟩
  clear HW14
  have HW14 := m0
  clear m0
  clear HB1
  have HB1 := n0
  clear n0
  clear hb
  refine hK.out _ _ ⟨(blk_cell (blk_below BK3.out HB1.out) 0).trans rfl, (blk_cell (blk_below BK3.out HB1.out) 1).trans rfl, (blk_cell (blk_below BK4.out HB1.out) 0).trans rfl, (blk_cell (blk_below BK4.out HB1.out) 1).trans rfl, (blk_cell (blk_below BK7.out HB1.out) 0).trans rfl, (blk_cell (blk_below BK7.out HB1.out) 1).trans rfl⟩ (fun hHeld => ?_)
  clear hK K
  refine norm_ (a' := ?_) ?_ ?_
  rotate_left
  · show Act.put _ (some 117) _ = _
    simp only [Act.put, List.setIfInBounds_toArray, List.set_cons_zero, List.set_cons_succ, i64_w, i32_w]
    rfl
  refine one_ (i := 3) (N := some 119) #[true, true, true, true, false, false, false, false, false, false, false, false, false, false, false, false, false, false, false, false, false, false, false, false, false, false] rfl rfl (one_of HT_.out (by kernel_rfl)) (by decide) (fun K hK => ?_)
  refine goes_ Try.func17 (by kernel_rfl) rfl #[.agg #[.int .i64 o, .slice A l.length c]] (by rfl) rfl rfl (by (try simp only [List.map_toArray, List.map_cons, List.map_nil]); first | done | rfl) ?_
  with_reducible refine (beadrollref26_Check.calls 100 o _ _ l ck _ (Kd.C_below HCl.out HB1.out) Hcl.out HK17.out).mono ?_
  rintro e0 w11 ⟨rfl, hb⟩
  refine ⟨_, rfl, ?_⟩
  have n0 : Aside0 (Below E1.heap.size E1 w11) := ⟨below_step HB1.out hb⟩
  have m0 : Aside0 (w11.heap[w2.heap.size]? = some (.cells #[.int .i64 ao, .slice A8 al.length c8] 24 (0, 0))) := ⟨blk_below BK8.out hb⟩
  clear BK8
  have BK8 := m0
  clear m0
  have m0 : Aside0 (w11.heap[w3.heap.size]? = some (.cells #[.int .i64 ao, .slice A11 al.length c11] 24 (0, 0))) := ⟨blk_below BK11.out hb⟩
  clear BK11
  have BK11 := m0
  clear m0
  have m0 : Aside0 (w11.heap[w4.heap.size]? = some (.cells #[.int .i64 co, .slice A14 cl.length c14] 24 (0, 0))) := ⟨blk_below BK14.out hb⟩
  clear BK14
  have BK14 := m0
  clear m0
  have m0 : Aside0 (w11.heap[w5.heap.size]? = some (.cells #[.int .i64 co, .slice A17 cl.length c17] 24 (0, 0))) := ⟨blk_below BK17.out hb⟩
  clear BK17
  have BK17 := m0
  clear m0
  have m0 : Aside0 (Wr E1.heap.size w11 (.slice A8 al.length c8)) := ⟨(HW8.out).below hb (Nat.le_refl _)⟩
  clear HW8
  have HW8 := m0
  clear m0
  have m0 : Aside0 (Wr E1.heap.size w11 (.slice A14 cl.length c14)) := ⟨(HW14.out).below hb (Nat.le_refl _)⟩
  clear HW14
  have HW14 := m0
  clear m0
  clear HB1
  have HB1 := n0
  clear n0
  clear hb
  refine hK.out _ _ ⟨(blk_cell (blk_below BK3.out HB1.out) 0).trans rfl, (blk_cell (blk_below BK3.out HB1.out) 1).trans rfl, (blk_cell (blk_below BK4.out HB1.out) 0).trans rfl, (blk_cell (blk_below BK4.out HB1.out) 1).trans rfl, (blk_cell (blk_below BK7.out HB1.out) 0).trans rfl, (blk_cell (blk_below BK7.out HB1.out) 1).trans rfl⟩ (fun hHeld => ?_)
  clear hK K
  refine norm_ (a' := ?_) ?_ ?_
  rotate_left
  · show Act.put _ (some 119) _ = _
    simp only [Act.put, List.setIfInBounds_toArray, List.set_cons_zero, List.set_cons_succ, i64_w, i32_w]
    rfl
  refine pure_ (i := 4) (N := some 120) (v := ?_) (a' := ?_) #[true, true, true, true, true, false, false, false, false, false, false, false, false, false, false, false, false, false, false, false, false, false, false, false, false, false] rfl rfl (any_of HT_.out (by kernel_rfl)) (fun _ _ _ h => h) (Or.inl ⟨by rfl, ?_⟩) ?_ ?_
  rotate_left
  · intro w'
    go_simp
    first | with_reducible rfl | (simp; done) | rfl
  rotate_left
  · simp only [Act.put, List.setIfInBounds_toArray, List.set_cons_zero, List.set_cons_succ, i64_w, i32_w]
    rfl
  refine pure_ (i := 5) (N := some 121) (v := ?_) (a' := ?_) #[true, true, true, true, true, true, false, false, false, false, false, false, false, false, false, false, false, false, false, false, false, false, false, false, false, false] rfl rfl (any_of HT_.out (by kernel_rfl)) (fun _ _ _ h => h) (Or.inl ⟨by rfl, ?_⟩) ?_ ?_
  rotate_left
  · intro w'
    go_simp
    first | with_reducible rfl | (simp; done) | rfl
  rotate_left
  · simp only [Act.put, List.setIfInBounds_toArray, List.set_cons_zero, List.set_cons_succ, i64_w, i32_w]
    rfl
  refine take_ (i := 6) (N := some 122) (v := ?_) (a' := ?_) #[true, true, true, true, true, true, true, false, false, false, false, false, false, false, false, false, false, false, false, false, false, false, false, false, false, false] rfl rfl (take_ofW HT_.out HW_.out (by kernel_rfl)) (fun _ _ _ h => h) (Or.inl ⟨by rfl, ?_⟩) hHeld ?_ ?_
  rotate_left
  · rintro w' ⟨s0, s1, s2, s3, s4, s5⟩
    go_simp
    with_reducible rfl
  rotate_left
  · simp only [Act.put, List.setIfInBounds_toArray, List.set_cons_zero, List.set_cons_succ, i64_w, i32_w]
    rfl
  refine take_ (i := 7) (N := some 123) (v := ?_) (a' := ?_) #[true, true, true, true, true, true, true, true, false, false, false, false, false, false, false, false, false, false, false, false, false, false, false, false, false, false] rfl rfl (take_ofW HT_.out HW_.out (by kernel_rfl)) (fun _ _ _ h => h) (Or.inl ⟨by rfl, ?_⟩) hHeld ?_ ?_
  rotate_left
  · rintro w' ⟨s0, s1, s2, s3, s4, s5⟩
    go_simp
    with_reducible rfl
  rotate_left
  · simp only [Act.put, List.setIfInBounds_toArray, List.set_cons_zero, List.set_cons_succ, i64_w, i32_w]
    rfl
  refine take_ (i := 9) (N := some 125) (v := ?_) (a' := ?_) #[true, true, true, true, true, true, true, true, false, true, false, false, false, false, false, false, false, false, false, false, false, false, false, false, false, false] rfl rfl (take_ofW HT_.out HW_.out (by kernel_rfl)) (fun _ _ _ h => h) (Or.inl ⟨by rfl, ?_⟩) hHeld ?_ ?_
  rotate_left
  · rintro w' ⟨s0, s1, s2, s3, s4, s5⟩
    go_simp
    with_reducible rfl
  rotate_left
  · simp only [Act.put, List.setIfInBounds_toArray, List.set_cons_zero, List.set_cons_succ, i64_w, i32_w]
    rfl
  refine take_ (i := 10) (N := some 126) (v := ?_) (a' := ?_) #[true, true, true, true, true, true, true, true, false, true, true, false, false, false, false, false, false, false, false, false, false, false, false, false, false, false] rfl rfl (take_ofW HT_.out HW_.out (by kernel_rfl)) (fun _ _ _ h => h) (Or.inl ⟨by rfl, ?_⟩) hHeld ?_ ?_
  rotate_left
  · rintro w' ⟨s0, s1, s2, s3, s4, s5⟩
    go_simp
    with_reducible rfl
  rotate_left
  · simp only [Act.put, List.setIfInBounds_toArray, List.set_cons_zero, List.set_cons_succ, i64_w, i32_w]
    rfl
  refine one_ (i := 8) (N := some 124) #[true, true, true, true, true, true, true, true, true, true, true, false, false, false, false, false, false, false, false, false, false, false, false, false, false, false] rfl rfl (one_of HT_.out (by kernel_rfl)) (by decide) (fun K hK => ?_)
  refine goes_ Try.func18 (by kernel_rfl) rfl #[.agg #[.int .i64 o, .slice A7 l.length c7], .agg #[.int .i64 o2, .slice A2 l2.length c2]] (by rfl) rfl rfl (by (try simp only [List.map_toArray, List.map_cons, List.map_nil]); first | done | rfl) ?_
  with_reducible refine (lock_Same.calls 100 o _ _ l o2 _ _ l2 sm _ (Kd.C_below HC7.out HB1.out) Hc7.out (Kd.C_below HCo.out HB1.out) Hco.out HS18.out).mono ?_
  rintro e0 w12 ⟨rfl, hb⟩
  refine ⟨_, rfl, ?_⟩
  have n0 : Aside0 (Below E1.heap.size E1 w12) := ⟨below_step HB1.out hb⟩
  have m0 : Aside0 (w12.heap[w2.heap.size]? = some (.cells #[.int .i64 ao, .slice A8 al.length c8] 24 (0, 0))) := ⟨blk_below BK8.out hb⟩
  clear BK8
  have BK8 := m0
  clear m0
  have m0 : Aside0 (w12.heap[w3.heap.size]? = some (.cells #[.int .i64 ao, .slice A11 al.length c11] 24 (0, 0))) := ⟨blk_below BK11.out hb⟩
  clear BK11
  have BK11 := m0
  clear m0
  have m0 : Aside0 (w12.heap[w4.heap.size]? = some (.cells #[.int .i64 co, .slice A14 cl.length c14] 24 (0, 0))) := ⟨blk_below BK14.out hb⟩
  clear BK14
  have BK14 := m0
  clear m0
  have m0 : Aside0 (w12.heap[w5.heap.size]? = some (.cells #[.int .i64 co, .slice A17 cl.length c17] 24 (0, 0))) := ⟨blk_below BK17.out hb⟩
  clear BK17
  have BK17 := m0
  clear m0
  have m0 : Aside0 (Wr E1.heap.size w12 (.slice A8 al.length c8)) := ⟨(HW8.out).below hb (Nat.le_refl _)⟩
  clear HW8
  have HW8 := m0
  clear m0
  have m0 : Aside0 (Wr E1.heap.size w12 (.slice A14 cl.length c14)) := ⟨(HW14.out).below hb (Nat.le_refl _)⟩
  clear HW14
  have HW14 := m0
  clear m0
  clear HB1
  have HB1 := n0
  clear n0
  clear hb
  refine hK.out _ _ ⟨(blk_cell (blk_below BK3.out HB1.out) 0).trans rfl, (blk_cell (blk_below BK3.out HB1.out) 1).trans rfl, (blk_cell (blk_below BK4.out HB1.out) 0).trans rfl, (blk_cell (blk_below BK4.out HB1.out) 1).trans rfl, (blk_cell (blk_below BK7.out HB1.out) 0).trans rfl, (blk_cell (blk_below BK7.out HB1.out) 1).trans rfl⟩ (fun hHeld => ?_)
  clear hK K
  refine norm_ (a' := ?_) ?_ ?_
  rotate_left
  · show Act.put _ (some 124) _ = _
    simp only [Act.put, List.setIfInBounds_toArray, List.set_cons_zero, List.set_cons_succ, i64_w, i32_w]
    rfl
  refine one_ (i := 11) (N := some 127) #[true, true, true, true, true, true, true, true, true, true, true, true, false, false, false, false, false, false, false, false, false, false, false, false, false, false] rfl rfl (one_of HT_.out (by kernel_rfl)) (by decide) (fun K hK => ?_)
  refine goes_ Try.func16 (by kernel_rfl) rfl #[.agg #[.int .i64 o, .slice A l.length c], .agg #[.int .i64 o2, .slice A2 l2.length c2]] (by rfl) rfl rfl (by (try simp only [List.map_toArray, List.map_cons, List.map_nil]); first | done | rfl) ?_
  with_reducible refine (beadrollref26_Same.calls 100 o _ _ l o2 _ _ l2 sm _ (Kd.C_below HCl.out HB1.out) Hcl.out (Kd.C_below HCo.out HB1.out) Hco.out HS16.out).mono ?_
  rintro e0 w13 ⟨rfl, hb⟩
  refine ⟨_, rfl, ?_⟩
  have n0 : Aside0 (Below E1.heap.size E1 w13) := ⟨below_step HB1.out hb⟩
  have m0 : Aside0 (w13.heap[w2.heap.size]? = some (.cells #[.int .i64 ao, .slice A8 al.length c8] 24 (0, 0))) := ⟨blk_below BK8.out hb⟩
  clear BK8
  have BK8 := m0
  clear m0
  have m0 : Aside0 (w13.heap[w3.heap.size]? = some (.cells #[.int .i64 ao, .slice A11 al.length c11] 24 (0, 0))) := ⟨blk_below BK11.out hb⟩
  clear BK11
  have BK11 := m0
  clear m0
  have m0 : Aside0 (w13.heap[w4.heap.size]? = some (.cells #[.int .i64 co, .slice A14 cl.length c14] 24 (0, 0))) := ⟨blk_below BK14.out hb⟩
  clear BK14
  have BK14 := m0
  clear m0
  have m0 : Aside0 (w13.heap[w5.heap.size]? = some (.cells #[.int .i64 co, .slice A17 cl.length c17] 24 (0, 0))) := ⟨blk_below BK17.out hb⟩
  clear BK17
  have BK17 := m0
  clear m0
  have m0 : Aside0 (Wr E1.heap.size w13 (.slice A8 al.length c8)) := ⟨(HW8.out).below hb (Nat.le_refl _)⟩
  clear HW8
  have HW8 := m0
  clear m0
  have m0 : Aside0 (Wr E1.heap.size w13 (.slice A14 cl.length c14)) := ⟨(HW14.out).below hb (Nat.le_refl _)⟩
  clear HW14
  have HW14 := m0
  clear m0
  clear HB1
  have HB1 := n0
  clear n0
  clear hb
  refine hK.out _ _ ⟨(blk_cell (blk_below BK3.out HB1.out) 0).trans rfl, (blk_cell (blk_below BK3.out HB1.out) 1).trans rfl, (blk_cell (blk_below BK4.out HB1.out) 0).trans rfl, (blk_cell (blk_below BK4.out HB1.out) 1).trans rfl, (blk_cell (blk_below BK7.out HB1.out) 0).trans rfl, (blk_cell (blk_below BK7.out HB1.out) 1).trans rfl⟩ (fun hHeld => ?_)
  clear hK K
  refine norm_ (a' := ?_) ?_ ?_
  rotate_left
  · show Act.put _ (some 127) _ = _
    simp only [Act.put, List.setIfInBounds_toArray, List.set_cons_zero, List.set_cons_succ, i64_w, i32_w]
    rfl
  refine pure_ (i := 12) (N := some 128) (v := ?_) (a' := ?_) #[true, true, true, true, true, true, true, true, true, true, true, true, true, false, false, false, false, false, false, false, false, false, false, false, false, false] rfl rfl (any_of HT_.out (by kernel_rfl)) (fun _ _ _ h => h) (Or.inl ⟨by rfl, ?_⟩) ?_ ?_
  rotate_left
  · intro w'
    go_simp
    first | with_reducible rfl | (simp; done) | rfl
  rotate_left
  · simp only [Act.put, List.setIfInBounds_toArray, List.set_cons_zero, List.set_cons_succ, i64_w, i32_w]
    rfl
  refine pure_ (i := 13) (N := some 129) (v := ?_) (a' := ?_) #[true, true, true, true, true, true, true, true, true, true, true, true, true, true, false, false, false, false, false, false, false, false, false, false, false, false] rfl rfl (any_of HT_.out (by kernel_rfl)) (fun _ _ _ h => h) (Or.inl ⟨by rfl, ?_⟩) ?_ ?_
  rotate_left
  · intro w'
    go_simp
    first | with_reducible rfl | (simp; done) | rfl
  rotate_left
  · simp only [Act.put, List.setIfInBounds_toArray, List.set_cons_zero, List.set_cons_succ, i64_w, i32_w]
    rfl
  refine pure_ (i := 14) (N := some 130) (v := ?_) (a' := ?_) #[true, true, true, true, true, true, true, true, true, true, true, true, true, true, true, false, false, false, false, false, false, false, false, false, false, false] rfl rfl (any_of HT_.out (by kernel_rfl)) (fun _ _ _ h => h) (Or.inl ⟨by rfl, ?_⟩) ?_ ?_
  rotate_left
  · intro w'
    go_simp
    first | with_reducible rfl | (simp; done) | rfl
  rotate_left
  · simp only [Act.put, List.setIfInBounds_toArray, List.set_cons_zero, List.set_cons_succ, i64_w, i32_w]
    rfl
  refine take_ (i := 15) (N := some 131) (v := ?_) (a' := ?_) #[true, true, true, true, true, true, true, true, true, true, true, true, true, true, true, true, false, false, false, false, false, false, false, false, false, false] rfl rfl (take_ofW HT_.out HW_.out (by kernel_rfl)) (fun _ _ _ h => h) (Or.inl ⟨by rfl, ?_⟩) hHeld ?_ ?_
  rotate_left
  · rintro w' ⟨s0, s1, s2, s3, s4, s5⟩
    go_simp
    with_reducible rfl
  rotate_left
  · simp only [Act.put, List.setIfInBounds_toArray, List.set_cons_zero, List.set_cons_succ, i64_w, i32_w]
    rfl
  refine take_ (i := 16) (N := some 132) (v := ?_) (a' := ?_) #[true, true, true, true, true, true, true, true, true, true, true, true, true, true, true, true, true, false, false, false, false, false, false, false, false, false] rfl rfl (take_ofW HT_.out HW_.out (by kernel_rfl)) (fun _ _ _ h => h) (Or.inl ⟨by rfl, ?_⟩) hHeld ?_ ?_
  rotate_left
  · rintro w' ⟨s0, s1, s2, s3, s4, s5⟩
    go_simp
    with_reducible rfl
  rotate_left
  · simp only [Act.put, List.setIfInBounds_toArray, List.set_cons_zero, List.set_cons_succ, i64_w, i32_w]
    rfl
  refine one_ (i := 17) (N := some 133) #[true, true, true, true, true, true, true, true, true, true, true, true, true, true, true, true, true, true, false, false, false, false, false, false, false, false] rfl rfl (one_of HT_.out (by kernel_rfl)) (by decide) (fun K hK => ?_)
  refine goes_ Try.func18 (by kernel_rfl) rfl #[.agg #[.int .i64 o, .slice A7 l.length c7], .agg #[.int .i64 o, .slice A l.length c]] (by rfl) rfl rfl (by (try simp only [List.map_toArray, List.map_cons, List.map_nil]); first | done | rfl) ?_
  with_reducible refine (lock_Same.calls 100 o _ _ l o _ _ l true _ (Kd.C_below HC7.out HB1.out) Hc7.out (Kd.C_below HCl.out HB1.out) Hcl.out HS18b.out).mono ?_
  rintro e0 w14 ⟨rfl, hb⟩
  refine ⟨_, rfl, ?_⟩
  have n0 : Aside0 (Below E1.heap.size E1 w14) := ⟨below_step HB1.out hb⟩
  have m0 : Aside0 (w14.heap[w2.heap.size]? = some (.cells #[.int .i64 ao, .slice A8 al.length c8] 24 (0, 0))) := ⟨blk_below BK8.out hb⟩
  clear BK8
  have BK8 := m0
  clear m0
  have m0 : Aside0 (w14.heap[w3.heap.size]? = some (.cells #[.int .i64 ao, .slice A11 al.length c11] 24 (0, 0))) := ⟨blk_below BK11.out hb⟩
  clear BK11
  have BK11 := m0
  clear m0
  have m0 : Aside0 (w14.heap[w4.heap.size]? = some (.cells #[.int .i64 co, .slice A14 cl.length c14] 24 (0, 0))) := ⟨blk_below BK14.out hb⟩
  clear BK14
  have BK14 := m0
  clear m0
  have m0 : Aside0 (w14.heap[w5.heap.size]? = some (.cells #[.int .i64 co, .slice A17 cl.length c17] 24 (0, 0))) := ⟨blk_below BK17.out hb⟩
  clear BK17
  have BK17 := m0
  clear m0
  have m0 : Aside0 (Wr E1.heap.size w14 (.slice A8 al.length c8)) := ⟨(HW8.out).below hb (Nat.le_refl _)⟩
  clear HW8
  have HW8 := m0
  clear m0
  have m0 : Aside0 (Wr E1.heap.size w14 (.slice A14 cl.length c14)) := ⟨(HW14.out).below hb (Nat.le_refl _)⟩
  clear HW14
  have HW14 := m0
  clear m0
  clear HB1
  have HB1 := n0
  clear n0
  clear hb
  refine hK.out _ _ ⟨(blk_cell (blk_below BK3.out HB1.out) 0).trans rfl, (blk_cell (blk_below BK3.out HB1.out) 1).trans rfl, (blk_cell (blk_below BK4.out HB1.out) 0).trans rfl, (blk_cell (blk_below BK4.out HB1.out) 1).trans rfl, (blk_cell (blk_below BK7.out HB1.out) 0).trans rfl, (blk_cell (blk_below BK7.out HB1.out) 1).trans rfl⟩ (fun hHeld => ?_)
  clear hK K
  refine norm_ (a' := ?_) ?_ ?_
  rotate_left
  · show Act.put _ (some 133) _ = _
    simp only [Act.put, List.setIfInBounds_toArray, List.set_cons_zero, List.set_cons_succ, i64_w, i32_w]
    rfl
  refine pure_ (i := 18) (N := some 134) (v := ?_) (a' := ?_) #[true, true, true, true, true, true, true, true, true, true, true, true, true, true, true, true, true, true, true, false, false, false, false, false, false, false] rfl rfl (any_of HT_.out (by kernel_rfl)) (fun _ _ _ h => h) (Or.inl ⟨by rfl, ?_⟩) ?_ ?_
  rotate_left
  · intro w'
    go_simp
    first | with_reducible rfl | (simp; done) | rfl
  rotate_left
  · simp only [Act.put, List.setIfInBounds_toArray, List.set_cons_zero, List.set_cons_succ, i64_w, i32_w]
    rfl
  refine pure_ (i := 19) (N := some 135) (v := ?_) (a' := ?_) #[true, true, true, true, true, true, true, true, true, true, true, true, true, true, true, true, true, true, true, true, false, false, false, false, false, false] rfl rfl (any_of HT_.out (by kernel_rfl)) (fun _ _ _ h => h) (Or.inl ⟨by rfl, ?_⟩) ?_ ?_
  rotate_left
  · intro w'
    go_simp
    first | with_reducible rfl | (simp; done) | rfl
  rotate_left
  · simp only [Act.put, List.setIfInBounds_toArray, List.set_cons_zero, List.set_cons_succ, i64_w, i32_w]
    rfl
  refine take_ (i := 20) (N := some 136) (v := ?_) (a' := ?_) #[true, true, true, true, true, true, true, true, true, true, true, true, true, true, true, true, true, true, true, true, true, false, false, false, false, false] rfl rfl (take_ofW HT_.out HW_.out (by kernel_rfl)) (fun _ _ _ h => h) (Or.inl ⟨by rfl, ?_⟩) hHeld ?_ ?_
  rotate_left
  · rintro w' ⟨s0, s1, s2, s3, s4, s5⟩
    go_simp
    with_reducible rfl
  rotate_left
  · simp only [Act.put, List.setIfInBounds_toArray, List.set_cons_zero, List.set_cons_succ, i64_w, i32_w]
    rfl
  refine take_ (i := 22) (N := some 138) (v := ?_) (a' := ?_) #[true, true, true, true, true, true, true, true, true, true, true, true, true, true, true, true, true, true, true, true, true, false, true, false, false, false] rfl rfl (take_ofW HT_.out HW_.out (by kernel_rfl)) (fun _ _ _ h => h) (Or.inl ⟨by rfl, ?_⟩) hHeld ?_ ?_
  rotate_left
  · rintro w' ⟨s0, s1, s2, s3, s4, s5⟩
    go_simp
    with_reducible rfl
  rotate_left
  · simp only [Act.put, List.setIfInBounds_toArray, List.set_cons_zero, List.set_cons_succ, i64_w, i32_w]
    rfl
  refine one_ (i := 21) (N := some 137) #[true, true, true, true, true, true, true, true, true, true, true, true, true, true, true, true, true, true, true, true, true, true, true, false, false, false] rfl rfl (one_of HT_.out (by kernel_rfl)) (by decide) (fun K hK => ?_)
  refine goes_ Try.func19 (by kernel_rfl) rfl #[.agg #[.int .i64 o, .slice A7 l.length c7]] (by rfl) rfl rfl (by (try simp only [List.map_toArray, List.map_cons, List.map_nil]); first | done | rfl) ?_
  with_reducible refine (lock_Twin.calls o _ _ l o l _ (Kd.C_below HC7.out HB1.out) Hc7.out HT19.out).mono ?_
  rintro e0 w15 ⟨v, rfl, ho, hb⟩
  refine ⟨_, rfl, ?_⟩
  obtain ⟨A20, c20, e0, hc0, hC0⟩ := Kd.R_reads ho
  subst e0
  clear ho
  have n0 : Aside0 (Below E1.heap.size E1 w15) := ⟨below_step HB1.out hb⟩
  have m0 : Aside0 (w15.heap[w2.heap.size]? = some (.cells #[.int .i64 ao, .slice A8 al.length c8] 24 (0, 0))) := ⟨blk_below BK8.out hb⟩
  clear BK8
  have BK8 := m0
  clear m0
  have m0 : Aside0 (w15.heap[w3.heap.size]? = some (.cells #[.int .i64 ao, .slice A11 al.length c11] 24 (0, 0))) := ⟨blk_below BK11.out hb⟩
  clear BK11
  have BK11 := m0
  clear m0
  have m0 : Aside0 (w15.heap[w4.heap.size]? = some (.cells #[.int .i64 co, .slice A14 cl.length c14] 24 (0, 0))) := ⟨blk_below BK14.out hb⟩
  clear BK14
  have BK14 := m0
  clear m0
  have m0 : Aside0 (w15.heap[w5.heap.size]? = some (.cells #[.int .i64 co, .slice A17 cl.length c17] 24 (0, 0))) := ⟨blk_below BK17.out hb⟩
  clear BK17
  have BK17 := m0
  clear m0
  have m0 : Aside0 (Wr E1.heap.size w15 (.slice A8 al.length c8)) := ⟨(HW8.out).below hb (Nat.le_refl _)⟩
  clear HW8
  have HW8 := m0
  clear m0
  have m0 : Aside0 (Wr E1.heap.size w15 (.slice A14 cl.length c14)) := ⟨(HW14.out).below hb (Nat.le_refl _)⟩
  clear HW14
  have HW14 := m0
  clear m0
  clear HB1
  have HB1 := n0
  clear n0
  clear hb
  refine hK.out _ _ ⟨(blk_cell (blk_below BK3.out HB1.out) 0).trans rfl, (blk_cell (blk_below BK3.out HB1.out) 1).trans rfl, (blk_cell (blk_below BK4.out HB1.out) 0).trans rfl, (blk_cell (blk_below BK4.out HB1.out) 1).trans rfl, (blk_cell (blk_below BK7.out HB1.out) 0).trans rfl, (blk_cell (blk_below BK7.out HB1.out) 1).trans rfl⟩ (fun hHeld => ?_)
  clear hK K
  refine norm_ (a' := ?_) ?_ ?_
  rotate_left
  · show Act.put _ (some 137) _ = _
    simp only [Act.put, List.setIfInBounds_toArray, List.set_cons_zero, List.set_cons_succ, i64_w, i32_w]
    rfl
  have HC20 : Aside0 (Kd.C (Kd.int .i64) w15 A20 l.length l) := ⟨hC0⟩
  have Hc20 := Aside0.mk hc0
  clear hC0 hc0
  refine one_ (i := 23) (N := some 139) #[true, true, true, true, true, true, true, true, true, true, true, true, true, true, true, true, true, true, true, true, true, true, true, true, false, false] rfl rfl (one_of HT_.out (by kernel_rfl)) (by decide) (fun K hK => ?_)
  refine goes_ Try.func16 (by kernel_rfl) rfl #[.agg #[.int .i64 o, .slice A20 l.length c20], .agg #[.int .i64 o, .slice A l.length c]] (by rfl) rfl rfl (by (try simp only [List.map_toArray, List.map_cons, List.map_nil]); first | done | rfl) ?_
  with_reducible refine (beadrollref26_Same.calls 100 o _ _ l o _ _ l true _ HC20.out Hc20.out (Kd.C_below HCl.out HB1.out) Hcl.out HS16b.out).mono ?_
  rintro e0 w16 ⟨rfl, hb⟩
  refine ⟨_, rfl, ?_⟩
  have n0 : Aside0 (Below E1.heap.size E1 w16) := ⟨below_step HB1.out hb⟩
  have m0 : Aside0 (w16.heap[w2.heap.size]? = some (.cells #[.int .i64 ao, .slice A8 al.length c8] 24 (0, 0))) := ⟨blk_below BK8.out hb⟩
  clear BK8
  have BK8 := m0
  clear m0
  have m0 : Aside0 (w16.heap[w3.heap.size]? = some (.cells #[.int .i64 ao, .slice A11 al.length c11] 24 (0, 0))) := ⟨blk_below BK11.out hb⟩
  clear BK11
  have BK11 := m0
  clear m0
  have m0 : Aside0 (w16.heap[w4.heap.size]? = some (.cells #[.int .i64 co, .slice A14 cl.length c14] 24 (0, 0))) := ⟨blk_below BK14.out hb⟩
  clear BK14
  have BK14 := m0
  clear m0
  have m0 : Aside0 (w16.heap[w5.heap.size]? = some (.cells #[.int .i64 co, .slice A17 cl.length c17] 24 (0, 0))) := ⟨blk_below BK17.out hb⟩
  clear BK17
  have BK17 := m0
  clear m0
  have m0 : Aside0 (Wr E1.heap.size w16 (.slice A8 al.length c8)) := ⟨(HW8.out).below hb (Nat.le_refl _)⟩
  clear HW8
  have HW8 := m0
  clear m0
  have m0 : Aside0 (Wr E1.heap.size w16 (.slice A14 cl.length c14)) := ⟨(HW14.out).below hb (Nat.le_refl _)⟩
  clear HW14
  have HW14 := m0
  clear m0
  clear HB1
  have HB1 := n0
  clear n0
  clear hb
  refine hK.out _ _ ⟨(blk_cell (blk_below BK3.out HB1.out) 0).trans rfl, (blk_cell (blk_below BK3.out HB1.out) 1).trans rfl, (blk_cell (blk_below BK4.out HB1.out) 0).trans rfl, (blk_cell (blk_below BK4.out HB1.out) 1).trans rfl, (blk_cell (blk_below BK7.out HB1.out) 0).trans rfl, (blk_cell (blk_below BK7.out HB1.out) 1).trans rfl⟩ (fun hHeld => ?_)
  clear hK K
  refine norm_ (a' := ?_) ?_ ?_
  rotate_left
  · show Act.put _ (some 139) _ = _
    simp only [Act.put, List.setIfInBounds_toArray, List.set_cons_zero, List.set_cons_succ, i64_w, i32_w]
    rfl
  refine pure_ (i := 24) (N := some 140) (v := ?_) (a' := ?_) #[true, true, true, true, true, true, true, true, true, true, true, true, true, true, true, true, true, true, true, true, true, true, true, true, true, false] rfl rfl (any_of HT_.out (by kernel_rfl)) (fun _ _ _ h => h) (Or.inl ⟨by rfl, ?_⟩) ?_ ?_
  rotate_left
  · intro w'
    go_simp
    first | with_reducible rfl | (simp; done) | rfl
  rotate_left
  · simp only [Act.put, List.setIfInBounds_toArray, List.set_cons_zero, List.set_cons_succ, i64_w, i32_w]
    rfl
  refine pure_ (i := 25) (N := some 25) (v := ?_) (a' := ?_) #[true, true, true, true, true, true, true, true, true, true, true, true, true, true, true, true, true, true, true, true, true, true, true, true, true, true] rfl rfl (any_of HT_.out (by kernel_rfl)) (fun _ _ _ h => h) (Or.inl ⟨by rfl, ?_⟩) ?_ ?_
  rotate_left
  · intro w'
    go_simp
    first | with_reducible rfl | (simp; done) | rfl
  rotate_left
  · simp only [Act.put, List.setIfInBounds_toArray, List.set_cons_zero, List.set_cons_succ, i64_w, i32_w]
    rfl
  refine done_ (done_of HT_.out (by kernel_rfl)) ?_
  (try clear hz30 hz31)
  (try clear hz40 hz41)
  (try clear hz70 hz71)
  (try clear hz80 hz81)
  (try clear hz110 hz111)
  (try clear hz140 hz141)
  (try clear hz170 hz171)
  have hz80 : (w16).cell? ⟨w2.heap.size, 0, none⟩ = some (.int .i64 ao) := (blk_cell BK8.out 0).trans rfl
  have hz81 : (w16).cell? ⟨w2.heap.size, 1, none⟩ = some (.slice A8 al.length c8) := (blk_cell BK8.out 1).trans rfl
  go_wp2_with (
    first
    | (go_at_call 20; (with_reducible refine (spoil_over E1.heap.size ao _ _ HW8.out HB1.out.size).mono ?_); (rintro e0 w17 ⟨rfl, hb, hw, hoth⟩; have n0 : Aside0 (Below E1.heap.size E1 w17) := ⟨HB1.out.trans hb⟩; have m0 : Aside0 (w17.heap[w4.heap.size]? = some (.cells #[.int .i64 co, .slice A14 cl.length c14] 24 (0, 0))) := ⟨hoth _ _ _ (by decide) BK14.out⟩; have m1 : Aside0 (Wr E1.heap.size w17 (.slice A14 cl.length c14)) := ⟨hw _ HW14.out⟩; clear HB1 BK14 HW14 hb hw hoth; have HB1 := n0; have BK14 := m0; have HW14 := m1; clear n0 m0 m1; (try clear hz30 hz31); (try clear hz40 hz41); (try clear hz70 hz71); (try clear hz80 hz81); (try clear hz110 hz111); (try clear hz140 hz141); (try clear hz170 hz171); have hz140 : (w17).cell? ⟨w4.heap.size, 0, none⟩ = some (.int .i64 co) := (blk_cell BK14.out 0).trans rfl; have hz141 : (w17).cell? ⟨w4.heap.size, 1, none⟩ = some (.slice A14 cl.length c14) := (blk_cell BK14.out 1).trans rfl; skip))
    | (go_at_call 20; (with_reducible refine (spoil_over E1.heap.size co _ _ HW14.out HB1.out.size).mono ?_); (rintro e0 w18 ⟨rfl, hb, hw, hoth⟩; have n0 : Aside0 (Below E1.heap.size E1 w18) := ⟨HB1.out.trans hb⟩; clear HB1 hb hw hoth; have HB1 := n0; clear n0; (try clear hz30 hz31); (try clear hz40 hz41); (try clear hz70 hz71); (try clear hz80 hz81); (try clear hz110 hz111); (try clear hz140 hz141); (try clear hz170 hz171); have hz30 : (w18).cell? ⟨w.heap.size, 0, none⟩ = some (.int .i64 o) := (blk_cell (blk_below BK3.out HB1.out) 0).trans rfl; have hz31 : (w18).cell? ⟨w.heap.size, 1, none⟩ = some (.slice A l.length c) := (blk_cell (blk_below BK3.out HB1.out) 1).trans rfl; have hz70 : (w18).cell? ⟨w1.heap.size, 0, none⟩ = some (.int .i64 o) := (blk_cell (blk_below BK7.out HB1.out) 0).trans rfl; have hz71 : (w18).cell? ⟨w1.heap.size, 1, none⟩ = some (.slice A7 l.length c7) := (blk_cell (blk_below BK7.out HB1.out) 1).trans rfl; skip))
    | (go_at_call 16; (with_reducible refine (beadrollref26_Same.calls 100 o _ _ l o _ _ l true _ (Kd.C_below HC7.out HB1.out) Hc7.out (Kd.C_below HCl.out HB1.out) Hcl.out HS16b.out).mono ?_); (rintro e0 w19 ⟨rfl, hb⟩; have n0 : Aside0 (Below E1.heap.size E1 w19) := ⟨below_step HB1.out hb⟩; clear HB1 hb; have HB1 := n0; clear n0; skip)))
  go_ret
  exact ⟨rfl, below_step HB.out HB1.out⟩

end Go.Proofs.Ytoncnjnicgfhmab.Q
