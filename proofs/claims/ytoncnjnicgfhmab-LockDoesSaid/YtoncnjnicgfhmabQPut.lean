/-
  The contracts, by hand, of the queue's put and take: methods that write through a pointer.
-/
import Derived.Test.YtoncnjnicgfhmabQPre
namespace Go.Proofs.Ytoncnjnicgfhmab.Q
open Go.RowKit Go.Proofs.YtoncnjnicgfhmabW.PrintWords Go.Proofs.YtoncnjnicgfhmabW.PrintLast Go.Proofs.YtoncnjnicgfhmabW.PrintMore
set_option linter.unusedVariables false
set_option linter.unusedSimpArgs false

set_option maxHeartbeats 4000000 in
theorem put_walk (g : Nat) (v : Value) (l : List Int) (t : Int) (base : Nat) (w0 W : World) (BK : Aside0 (W.heap[g]? = some (.cells #[v] 51 (0, 0)))) (HB : Aside0 (Below base w0 W)) (HS : Aside0 (base ≤ W.heap.size)) (HG : Aside0 (base ≤ g))
    (HO : Aside0 (Kd.R (Kd.int .i64) 3 W base (fun _ => True) v l)) (LM : Aside0 (l.length < 17592186044416)) :
    Calls Try.prog 25 #[.pointer (some ⟨g, 0, none⟩), .int .i64 t] W fun e W' => e = .returned (.tuple #[]) ∧ ∃ v', W'.heap[g]? = some (.cells #[v'] 51 (0, 0)) ∧ Kd.R (Kd.int .i64) 3 W' base (fun _ => True) v' (l ++ [t]) ∧ Below base w0 W' ∧
      (∀ k, k < W.heap.size → k ≠ g → some k ≠ v.ownBlock → W'.heap[k]? = W.heap[k]?) := by
  have hcz : W.cell? ⟨g, 0, none⟩ = some v := (blk_cell BK.out 0).trans rfl
  have hf := blk_frozen BK.out 0
  go_enter Try.func25, Try.ntmps25
  go_wp2_with (first
    | ((with_reducible refine gate_builtin (b := .append) (xs := #[.tmp 8, .tmp 10]) rfl ?_); at_builtin;
       refine Kd.R_append (Kd.int .i64) (w0 := w0) base rfl (.tmp 8) (.tmp 10) 22 3 (.int .i64 0) 8 rfl Try.underlying22 info3 rfl (by decide) (by omega) v l t [.int .i64 t] (fun _ => True) (fun _ => False) rfl rfl ?aP (fun _ hk => hk.elim) (fun _ _ => trivial) ?aO ?aB ?aS ?aL ?_;
       (case aP => exact rfl); (case aB => exact HB.out); (case aO => exact HO.out); (case aS => exact HS.out); (case aL => have := LM.out; omega);
       intro v1 w1 ho hb hg hat; obtain ⟨A1, c1, e1⟩ := Kd.R_slice ho; subst e1;
       have bk := blk_grown BK.out hg (Kd.R_ne HO.out BK.out (by decide));
       have hcz1 : w1.cell? ⟨g, 0, none⟩ = some v := (blk_cell bk 0).trans rfl;
       have hf1 := blk_frozen bk 0;
       have HO1 := Aside0.mk ho; have HB1 := Aside0.mk hb; have HGR := Aside0.mk hg; have BK1 := Aside0.mk bk; clear ho hb hg hat bk hcz hf))
  go_end0
  have ho1 := HO1.out
  simp only [List.length_append, List.length_cons, List.length_nil, Nat.zero_add] at ho1
  refine ⟨rfl, _, blk_put BK1.out 0 _ rfl, Kd.R_mono (Kd.R_far (p := ⟨g, 0, none⟩) (Kd.R_types ho1 BK1.out (by decide)) (fun _ hk => hk.2) _) (fun _ _ => trivial), HB1.out.setCell (p := ⟨g, 0, none⟩) HG.out _, fun k hk hkg hko => ?_⟩
  rw [Below.heap_setCell w1 ⟨g, 0, none⟩ _ k hkg]
  exact HGR.out.block k hk hko

set_option maxHeartbeats 4000000 in
theorem take_nil (g : Nat) (A : Option Addr) (c : Nat) (w0 W : World) (base : Nat) (BK : Aside0 (W.heap[g]? = some (.cells #[.slice A 0 c] 51 (0, 0)))) :
    Calls Try.prog 23 #[.pointer (some ⟨g, 0, none⟩)] W fun e W' => e = .returned (.int .i64 0) ∧ W' = W := by
  have hcz : W.cell? ⟨g, 0, none⟩ = some (.slice A 0 c) := (blk_cell BK.out 0).trans rfl
  go_enter Try.func23, Try.ntmps23
  go_wp2
  go_ret
  exact ⟨rfl, rfl⟩

set_option maxHeartbeats 4000000 in
theorem take_cons (g : Nat) (k o : Nat) (c m : Nat) (x : Int) (W : World) (BK : Aside0 (W.heap[g]? = some (.cells #[.slice (some ⟨k, o, none⟩) m c] 51 (0, 0)))) (hx : W.cell? ⟨k, o, none⟩ = some (.int .i64 x)) (hm : 1 ≤ m) (HN : Aside0 (m ≤ 9223372036854775807)) :
    Calls Try.prog 23 #[.pointer (some ⟨g, 0, none⟩)] W fun e W' => e = .returned (.int .i64 x) ∧ W' = (W.setCell ⟨g, 0, none⟩ (.slice (if c = 1 then some ⟨k, o, none⟩ else some ⟨k, o + 1, none⟩) (m - 1) (c - 1))).drew := by
  have hcz : W.cell? ⟨g, 0, none⟩ = some (.slice (some ⟨k, o, none⟩) m c) := (blk_cell BK.out 0).trans rfl
  have hf := blk_frozen BK.out 0
  have p1 : (0 < (m : Int)) = True := eq_true (by omega)
  have p2 : (0 < m) = True := eq_true (by omega)
  have p3 : (1 ≤ (m : Int)) = True := eq_true (by omega)
  have HM := Aside0.mk hm
  have p4 : (1 ≤ m) = True := eq_true hm
  clear hm
  go_enter Try.func23, Try.ntmps23
  go_wp2
  go_region_with (fail)
  all_goals go_wp2
  all_goals go_ret
  all_goals exact ⟨rfl, rfl⟩

end Go.Proofs.Ytoncnjnicgfhmab.Q
