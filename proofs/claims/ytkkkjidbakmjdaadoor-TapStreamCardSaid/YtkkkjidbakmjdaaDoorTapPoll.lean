/-
  tap.Poll: walk (written by wip/tools/gen_tappoll.py).
-/
import Derived.Test.YtkkkjidbakmjdaaDoorTapPush
namespace Go.Proofs.YtkkkjidbakmjdaaDoor.Q
open Go.RowKit Go.Proofs.YtkkkjidbakmjdaaDoorW.PrintWords Go.Proofs.YtkkkjidbakmjdaaDoorW.PrintLast Go.Proofs.YtkkkjidbakmjdaaDoorW.PrintMore
set_option linter.unusedVariables false
set_option linter.unusedSimpArgs false

/-- A tap without what is told. -/
def pollP (t : Tp) : Tp × Itm × Int :=
  if tapOk t.its = true then (match t.its with
    | x :: l => (⟨l, t.lost⟩, x, 0)
    | [] => if t.lost = true then (⟨[], false⟩, gapI, 0) else (⟨[], false⟩, it0, 6))
  else (⟨[], false⟩, it0, 8)
theorem results_cct {P : Program} {fn : Func} {p q u : Tmp} {ty ty' : TypeId} (h : fn.results = #[.cell p ty, .cell q ty', .tmp u]) (tmps : Array Value) (w : World) (g g' : Nat) (t t' : TypeId) (cs cs' : Array Value) (d d' : TypeDesc)
    (hp : tmps.getD p undef = .pointer (some ⟨g, 0, none⟩)) (hg : w.heap[g]? = some (.cells cs t (0, 0)))
    (hu : P.underlying ty = some d) (hd : (match d with | .struct _ | .array _ _ => true | _ => false) = true) (hi : (P.info? ty).map (·.size) = some cs.size)
    (hp' : tmps.getD q undef = .pointer (some ⟨g', 0, none⟩)) (hg' : w.heap[g']? = some (.cells cs' t' (0, 0)))
    (hu' : P.underlying ty' = some d') (hd' : (match d' with | .struct _ | .array _ _ => true | _ => false) = true) (hi' : (P.info? ty').map (·.size) = some cs'.size) :
    (results fn tmps).run P w = .ok (.tuple #[.agg cs, .agg cs', tmps.getD u undef]) w := by
  have h1 : tmps[p]?.getD undef = .pointer (some ⟨g, 0, none⟩) := by simpa using hp
  have h2 : tmps[q]?.getD undef = .pointer (some ⟨g', 0, none⟩) := by simpa using hp'
  simp [results, h, h1, h2, asAddr, run_loadVar_row w g t ty cs (0, 0) d hg hu hd hi, run_loadVar_row w g' t' ty' cs' (0, 0) d' hg' hu' hd' hi']
theorem io_store2 {w w1 : World} {base n c : Nat} {A : Option Addr} {l : List Itm} (h : ItsO w base A n c l) {g : Nat} (hlt : g < base) (hoth : ∀ k, k ≠ g → w1.heap[k]? = w.heap[k]?) : ItsO w1 base A n c l := by
  have each : ∀ ad, A = some ad → ∃ g' k cur, ad = ⟨g', k, none⟩ ∧ base ≤ g' ∧ w.heap[g']? = some (.cells cur 32 (0, 0)) ∧ w1.heap[g']? = some (.cells cur 32 (0, 0)) ∧ k + n * 101 ≤ cur.size := fun ad e => by
    obtain ⟨g', k, cur, e1, h1, h2, h3⟩ := h.2 ad e
    exact ⟨g', k, cur, e1, h1, h2, (hoth g' (fun eg => by omega)).trans h2, h3⟩
  refine ⟨⟨h.1.len, h.1.le, h.1.max, h.1.nil_, fun ad e i v hv => ?_, h.1.wf⟩, fun ad e => ?_⟩
  · obtain ⟨g', k, cur, e1, h1, h2, h3, _⟩ := each ad e
    have hc := h.1.lie ad e i v hv
    subst e1
    have ea : (⟨g', k, none⟩ : Addr).add i = ⟨g', k + i, none⟩ := by rw [← addr0 g' k, addr_add, addr0]
    rw [ea, cell_of_row w g' (k + i) cur 32 (0, 0) h2] at hc
    rw [ea, cell_of_row w1 g' (k + i) cur 32 (0, 0) h3]
    exact hc
  · obtain ⟨g', k, cur, e1, h1, h2, h3, h4⟩ := each ad e
    exact ⟨g', k, cur, e1, h1, h3, h4⟩
theorem its_cut (A : Option Addr) (n c : Nat) (hn : 1 ≤ n) : ∀ W : World, (Instr.slice 22 (.slice A n c) (some (.int .i64 1)) none none).run Tryd.prog W = .ok (.slice (if c = 1 then A else A.map (·.add (1 * 101))) (n - 1) (c - 1)) W := fun W => by
  obtain ⟨j, hj, _, hs, _⟩ := info_parts info_itm
  have := cut_from 22 32 .i64 Tryd.underlying22 hj 101 hs A n c 1 (by omega) (by omega) W
  exact this
theorem ItsO.tail {W : World} {base n c : Nat} {A : Option Addr} {x : Itm} {l : List Itm} (h : ItsO W base A n c (x :: l)) : ItsO W base (if c = 1 then A else A.map (·.add (1 * 101))) (n - 1) (c - 1) l := by
  have hl := h.1.len
  have hle := h.1.le
  have hmax := h.1.max
  rw [List.length_cons] at hl
  have hwf : Wfs l := fun y hy => h.1.wf y (List.mem_cons_of_mem _ hy)
  have hx := icl_len (h.1.wf x List.mem_cons_self)
  obtain ⟨ad, rfl⟩ := h.1.some_ (by omega)
  obtain ⟨g, k, cur, rfl, h1, h2, h3⟩ := h.2 ad rfl
  by_cases hc : c = 1
  · rw [if_pos hc]
    obtain rfl : l = [] := List.eq_nil_of_length_eq_zero (by omega)
    refine ⟨⟨by simp; omega, by omega, by omega, (fun e => by cases e), fun ad e i v hv => by simp [flatI] at hv, hwf⟩, fun ad e => ⟨g, k, cur, (Option.some.inj e).symm, h1, h2, ?_⟩⟩
    have : n - 1 = 0 := by omega
    rw [this]; omega
  · rw [if_neg hc]
    have ea : (⟨g, k, Option.none⟩ : Addr).add (1 * 101) = ⟨g, k + 101, Option.none⟩ := by rw [← addr0 g k, addr_add, addr0]
    refine ⟨⟨by omega, by omega, by omega, (fun e => by simp at e), fun ad e => ?_, hwf⟩, fun ad e => ?_⟩
    · have hlie := h.1.lie _ rfl
      rw [flatI_cons] at hlie
      have h4 := hlie.right
      rw [hx] at h4
      simp only [Option.map_some, Option.some.injEq] at e
      subst e
      exact h4
    · simp only [Option.map_some, Option.some.injEq] at e
      rw [ea] at e
      refine ⟨g, k + 101, cur, e.symm, h1, h2, ?_⟩
      have : n = (n - 1) + 1 := by omega
      rw [this, Nat.add_mul] at h3
      omega

def poll2_T : Bool × List (List Nat × List Nat) := (true, [([], []), ([], []), ([0, 0], [0]), ([1, 2, 0, 1, 2], [1]), ([3, 0, 1, 2, 3], [])])
def poll2_B : List Nat := [0, 0, 1, 7, 15]
theorem poll2_tab : rtab .any (opsOf Tryd.f9 2) = poll2_T := by kernel_rfl
theorem poll2_bits : waitsOk poll2_T.2 poll2_B = true := by kernel_rfl

def poll5_T : Bool × List (List Nat × List Nat) := (true, [([], []), ([0], [0]), ([1], [1]), ([2], [2]), ([], []), ([4], [4]), ([5], [5]), ([3, 0, 1, 2, 3], [3]), ([0, 1, 2, 3, 4, 5, 6, 7], []), ([8, 6, 7, 0, 1, 2, 3, 4, 5, 6, 7], [6, 8])])
def poll5_B : List Nat := [0, 1, 3, 7, 0, 16, 48, 15, 255, 511]
theorem poll5_tab : rtab .any (opsOf Tryd.f9 5) = poll5_T := by kernel_rfl
theorem poll5_bits : waitsOk poll5_T.2 poll5_B = true := by kernel_rfl

def poll6_T : Bool × List (List Nat × List Nat) := (true, [([], []), ([], []), ([0, 0], [0]), ([1, 2, 0, 1, 2], [1]), ([3, 0, 1, 2, 3], [])])
def poll6_B : List Nat := [0, 0, 1, 7, 15]
theorem poll6_tab : rtab .any (opsOf Tryd.f9 6) = poll6_T := by kernel_rfl
theorem poll6_bits : waitsOk poll6_T.2 poll6_B = true := by kernel_rfl

def poll8_T : Bool × List (List Nat × List Nat) := (true, [([], []), ([], []), ([0, 0], [0]), ([1, 2, 0, 1, 2], [1]), ([3, 0, 1, 2, 3], [])])
def poll8_B : List Nat := [0, 0, 1, 7, 15]
theorem poll8_tab : rtab .any (opsOf Tryd.f9 8) = poll8_T := by kernel_rfl
theorem poll8_bits : waitsOk poll8_T.2 poll8_B = true := by kernel_rfl

def poll9_T : Bool × List (List Nat × List Nat) := (true, [([], []), ([], []), ([0, 0], [0]), ([1, 2, 0, 1, 2], [1]), ([3, 0, 1, 2, 3], [])])
def poll9_B : List Nat := [0, 0, 1, 7, 15]
theorem poll9_tab : rtab .any (opsOf Tryd.f9 9) = poll9_T := by kernel_rfl
theorem poll9_bits : waitsOk poll9_T.2 poll9_B = true := by kernel_rfl

theorem op_load {o : Oper} {a : Act} {W : World} {ty : TypeId} {x : Operand} {e : Addr} {v : Value} (hr : (loadVar ty e).run Tryd.prog W = .ok v W) (ho : o.op = .load ty x) (hx : a.eval x = .pointer (some e)) :
    (execOp a.eval o).run Tryd.prog W = .ok (.value v) W := by
  unfold execOp
  simp only [ho, hx, Instr.loadAt, Instr.sureAddr, Sem.run_bind, Sem.run_pure, Result.andThen_ok, hr]
set_option maxHeartbeats 16000000 in
set_option maxRecDepth 100000 in
theorem poll_bad (A : Option Addr) (n c : Nat) (l : List Itm) (lost : Bool) (W : World) (h : Its W A n c l) (hg : GT W) (ho : tapOk l = false) :
    Calls Tryd.prog 9 #[.agg #[.slice A n c, .bool lost]] W fun e W' => ∃ A' n' c', e = .returned (.tuple #[.agg #[.slice A' n' c', .bool (pollP ⟨l, lost⟩).1.lost], .agg (ia (pollP ⟨l, lost⟩).2.1), .int .i64 (pollP ⟨l, lost⟩).2.2]) ∧ ItsO W' W.heap.size A' n' c' (pollP ⟨l, lost⟩).1.its ∧ (pollP ⟨l, lost⟩).2.1.ev.hd.wf ∧ Below W.heap.size W W' := by
  have ep : pollP ⟨l, lost⟩ = (⟨[], false⟩, it0, 8) := by unfold pollP; rw [if_neg (by rw [ho]; decide)]
  rw [ep]
  have IT := Aside0.mk h
  have GG := Aside0.mk hg
  have HB := Aside0.mk (Below.refl W.heap.size W)
  have HCK : Aside0 (∀ w, Below W.heap.size W w → Calls Tryd.prog 15 #[.agg #[.slice A n c, .bool lost]] w fun z W' => z = .returned (.int .i64 (ccode l)) ∧ Below w.heap.size w W') := ⟨fun w hw => check_walk A n c l lost w (IT.out.below hw) (GG.out.below GG.out.lt hw)⟩
  rw [ccode_no ho] at HCK
  clear h hg ho ep
  focus
      skip
      go_enter Tryd.func9, Tryd.ntmps9
      go_wp2_with (
        first
        | ((with_reducible refine gate_dst (N := 1) rfl ?_); refine box_event ?hg (N := 1) ?hd (cs := #[.slice A n c, .bool lost]) (t := 24) ?hr ?_; (case hd => rfl); (case hg => rfl); (case hr => first | (go_simp; done) | (go_simp; rfl)); intro g1 hg w1_ hbox hb; have BK1 := Aside0.mk hbox; have G1 := Aside0.mk (show W.heap.size ≤ g1 by rw [hg]; exact below_size HB.out); have n0 := Aside0.mk (below_step HB.out hb); clear HB; have HB := n0; clear n0; clear hb hbox hg)
        | ((with_reducible refine gate_dst (N := 2) rfl ?_); refine box_event ?hg (N := 2) ?hd (cs := #[.slice none 0 0, .bool false]) (t := 24) ?hr ?_; (case hd => rfl); (case hg => rfl); (case hr => first | (go_simp; done) | (go_simp; rfl)); intro g2 hg w2_ hbox hb; have BK2 := Aside0.mk hbox; have G2 := Aside0.mk (show W.heap.size ≤ g2 by rw [hg]; exact below_size HB.out); have N1_2 := Aside0.mk (show g1 ≠ g2 by rw [hg]; exact Nat.ne_of_lt (blk_lt BK1.out)); have n0 := Aside0.mk (below_step HB.out hb); have n1 := Aside0.mk (blk_below BK1.out hb); clear HB BK1; have HB := n0; have BK1 := n1; clear n0 n1; clear hb hbox hg)
        | ((with_reducible refine gate_dst (N := 3) rfl ?_); refine box_event ?hg (N := 3) ?hd (cs := ia it0) (t := 32) ?hr ?_; (case hd => rfl); (case hg => rfl); (case hr => first | (go_simp; done) | (go_simp; rfl)); intro g3 hg w3_ hbox hb; have BK3 := Aside0.mk hbox; have G3 := Aside0.mk (show W.heap.size ≤ g3 by rw [hg]; exact below_size HB.out); have N1_3 := Aside0.mk (show g1 ≠ g3 by rw [hg]; exact Nat.ne_of_lt (blk_lt BK1.out)); have N2_3 := Aside0.mk (show g2 ≠ g3 by rw [hg]; exact Nat.ne_of_lt (blk_lt BK2.out)); have n0 := Aside0.mk (below_step HB.out hb); have n1 := Aside0.mk (blk_below BK1.out hb); have n2 := Aside0.mk (blk_below BK2.out hb); clear HB BK1 BK2; have HB := n0; have BK1 := n1; have BK2 := n2; clear n0 n1 n2; clear hb hbox hg)
        | ((with_reducible refine gate_dst (N := 6) rfl ?_); refine wl_load rfl rfl rfl (load_row Tryd.underlying24 rfl size_tap BK1.out (rfl)) ?_)
        | (go_at_call 15; (with_reducible refine (HCK.out _ HB.out).mono ?_); rintro e w4_ ⟨rfl, hb⟩; have n0 := Aside0.mk (below_step HB.out hb); have n1 := Aside0.mk (blk_below BK1.out hb); have n2 := Aside0.mk (blk_below BK2.out hb); have n3 := Aside0.mk (blk_below BK3.out hb); clear HB BK1 BK2 BK3; have HB := n0; have BK1 := n1; have BK2 := n2; have BK3 := n3; clear n0 n1 n2 n3; clear hb))
      have hb : Below w4_.heap.size w4_ w4_.drew := below_drew (Below.refl _ _)
      refine start_ (n := 5) (S := fun w' => w'.heap[g2]? = some (.cells #[.slice none 0 0, .bool false] 24 (0, 0)) ∧ w'.heap[g3]? = some (.cells (ia it0) 32 (0, 0))) (ds := []) #[false, false, false, false, false] (by kernel_rfl) rfl rfl ⟨blk_below BK2.out hb, (blk_below BK3.out hb)⟩ (fun hHeld => ?_)
      refine with_tabW poll2_tab poll2_bits (fun HT_ HW_ => ?_)
      have n0 := Aside0.mk (blk_below BK2.out hb)
      have n1 := Aside0.mk (blk_below BK3.out hb)
      have n2 := Aside0.mk (below_step HB.out hb)
      clear BK2 BK3 HB
      have BK2 := n0
      have BK3 := n1
      have HB := n2
      clear n0 n1 n2
      clear hb
      generalize w4_.drew = wd at BK2 BK3 HB hHeld ⊢
      refine take_ (i := 0) (N := (some 9)) (v := .agg #[.slice none 0 0, .bool false]) (a' := ?_) #[true, false, false, false, false] rfl rfl (take_ofW HT_.out HW_.out (by kernel_rfl)) (fun _ _ _ h => h) (Or.inl ⟨by rfl, ?_⟩) hHeld ?_ ?_
      · rintro w' ⟨s2, s3⟩
        refine op_load (x := .tmp 2) (load_row Tryd.underlying24 rfl size_tap s2 rfl) ?_ ?_ <;> rfl
      rotate_left
      · simp only [Act.put, List.setIfInBounds_toArray, List.set_cons_zero, List.set_cons_succ, i64_w, i32_w]
        rfl
      refine take_ (i := 1) (N := (some 10)) (v := .agg (ia it0)) (a' := ?_) #[true, true, false, false, false] rfl rfl (take_ofW HT_.out HW_.out (by kernel_rfl)) (fun _ _ _ h => h) (Or.inl ⟨by rfl, ?_⟩) hHeld ?_ ?_
      · rintro w' ⟨s2, s3⟩
        refine op_load (x := .tmp 3) (load_row Tryd.underlying32 rfl size_itm s3 (ia_size (x := it0) hd0_wf)) ?_ ?_ <;> rfl
      rotate_left
      · simp only [Act.put, List.setIfInBounds_toArray, List.set_cons_zero, List.set_cons_succ, i64_w, i32_w]
        rfl
      refine one_ (i := 2) (N := none) #[true, true, true, false, false] rfl rfl (one_of HT_.out (by kernel_rfl)) (by decide) (fun K hK => ?_)
      rw [if_pos (by rfl)]
      refine wp_store_row 24 (.tmp 2) (.tmp 9) rfl g2 (#[.slice none 0 0, .bool false]) rfl rfl 24 (#[.slice none 0 0, .bool false]) BK2.out size_tap rfl (tap_one _ _ _ _) ?_
      obtain ⟨we, hwe⟩ : ∃ w', World.setRow wd g2 (#[.slice none 0 0, .bool false]) = w' := ⟨_, rfl⟩
      have hoth : ∀ k, k ≠ g2 → we.heap[k]? = wd.heap[k]? := fun k hk => by rw [← hwe]; exact setRow_other wd g2 k _ hk
      have n0 := Aside0.mk (show we.heap[g2]? = some (.cells (#[.slice none 0 0, .bool false]) 24 (0, 0)) by rw [← hwe]; exact setRow_heap _ g2 _ _ _ _ BK2.out)
      have n1 := Aside0.mk ((hoth g3 (blk_ne BK3.out BK2.out (by decide))).trans BK3.out)
      have n2 := Aside0.mk (show Below W.heap.size W we by rw [← hwe]; exact below_setRow HB.out G2.out (#[.slice none 0 0, .bool false]))
      clear BK2 BK3 HB
      have BK2 := n0
      have BK3 := n1
      have HB := n2
      clear n0 n1 n2
      rw [hwe]
      clear hwe hoth
      refine hK.out _ _ ⟨BK2.out, BK3.out⟩ (fun hHeld => ?_)
      clear hK K
      refine one_ (i := 3) (N := none) #[true, true, true, true, false] rfl rfl (one_of HT_.out (by kernel_rfl)) (by decide) (fun K hK => ?_)
      rw [if_pos (by rfl)]
      refine wp_store_row 32 (.tmp 3) (.tmp 10) rfl g3 (ia it0) rfl rfl 32 (ia it0) BK3.out (by rw [ia_size (x := it0) hd0_wf]; exact size_itm) ((ia_size (x := it0) hd0_wf).trans (ia_size (x := it0) hd0_wf).symm) (ia_one _) ?_
      obtain ⟨wf, hwe⟩ : ∃ w', World.setRow we g3 (ia it0) = w' := ⟨_, rfl⟩
      have hoth : ∀ k, k ≠ g3 → wf.heap[k]? = we.heap[k]? := fun k hk => by rw [← hwe]; exact setRow_other we g3 k _ hk
      have n0 := Aside0.mk ((hoth g2 (blk_ne BK2.out BK3.out (by decide))).trans BK2.out)
      have n1 := Aside0.mk (show wf.heap[g3]? = some (.cells (ia it0) 32 (0, 0)) by rw [← hwe]; exact setRow_heap _ g3 _ _ _ _ BK3.out)
      have n2 := Aside0.mk (show Below W.heap.size W wf by rw [← hwe]; exact below_setRow HB.out G3.out (ia it0))
      clear BK2 BK3 HB
      have BK2 := n0
      have BK3 := n1
      have HB := n2
      clear n0 n1 n2
      rw [hwe]
      clear hwe hoth
      refine hK.out _ _ ⟨BK2.out, BK3.out⟩ (fun hHeld => ?_)
      clear hK K
      refine pure_ (i := 4) (N := (some 4)) (v := ?_) (a' := ?_) #[true, true, true, true, true] rfl rfl (any_of HT_.out (by kernel_rfl)) (fun _ _ _ h => h) (Or.inl ⟨by rfl, ?_⟩) ?_ ?_
      rotate_left
      · intro w'
        go_simp
        first | with_reducible rfl | (simp; done) | rfl
      rotate_left
      · simp only [Act.put, List.setIfInBounds_toArray, List.set_cons_zero, List.set_cons_succ, i64_w, i32_w]
        rfl
      refine done_ (done_of HT_.out (by kernel_rfl)) ?_
      go_wp2
      refine bodyPost_ret (results_cct rfl _ _ g2 g3 24 32 #[.slice none 0 0, .bool false] (ia it0) _ _ rfl BK2.out Tryd.underlying24 rfl size_tap rfl BK3.out Tryd.underlying32 rfl (by rw [ia_size (x := it0) hd0_wf]; exact size_itm)) rfl ?_
      exact ⟨_, _, _, rfl, ItsO.none _ _, hd0_wf, HB.out⟩

set_option maxHeartbeats 16000000 in
set_option maxRecDepth 100000 in
theorem poll_none (A : Option Addr) (c : Nat) (W : World) (h : Its W A 0 c []) (hg : GT W) :
    Calls Tryd.prog 9 #[.agg #[.slice A 0 c, .bool false]] W fun e W' => ∃ A' n' c', e = .returned (.tuple #[.agg #[.slice A' n' c', .bool (pollP ⟨[], false⟩).1.lost], .agg (ia (pollP ⟨[], false⟩).2.1), .int .i64 (pollP ⟨[], false⟩).2.2]) ∧ ItsO W' W.heap.size A' n' c' (pollP ⟨[], false⟩).1.its ∧ (pollP ⟨[], false⟩).2.1.ev.hd.wf ∧ Below W.heap.size W W' := by
  have ep : pollP ⟨[], false⟩ = (⟨[], false⟩, it0, 6) := by decide +kernel
  rw [ep]
  have IT := Aside0.mk h
  have GG := Aside0.mk hg
  have HB := Aside0.mk (Below.refl W.heap.size W)
  have HCK : Aside0 (∀ w, Below W.heap.size W w → Calls Tryd.prog 15 #[.agg #[.slice A 0 c, .bool false]] w fun z W' => z = .returned (.int .i64 (ccode [])) ∧ Below w.heap.size w W') := ⟨fun w hw => check_walk A 0 c [] false w (IT.out.below hw) (GG.out.below GG.out.lt hw)⟩
  rw [ccode_yes (by decide +kernel)] at HCK
  clear h hg ep
  focus
      skip
      go_enter Tryd.func9, Tryd.ntmps9
      go_wp2_with (
        first
        | ((with_reducible refine gate_dst (N := 1) rfl ?_); refine box_event ?hg (N := 1) ?hd (cs := #[.slice A 0 c, .bool false]) (t := 24) ?hr ?_; (case hd => rfl); (case hg => rfl); (case hr => first | (go_simp; done) | (go_simp; rfl)); intro g1 hg w1_ hbox hb; have BK1 := Aside0.mk hbox; have G1 := Aside0.mk (show W.heap.size ≤ g1 by rw [hg]; exact below_size HB.out); have n0 := Aside0.mk (below_step HB.out hb); clear HB; have HB := n0; clear n0; clear hb hbox hg)
        | ((with_reducible refine gate_dst (N := 2) rfl ?_); refine box_event ?hg (N := 2) ?hd (cs := #[.slice none 0 0, .bool false]) (t := 24) ?hr ?_; (case hd => rfl); (case hg => rfl); (case hr => first | (go_simp; done) | (go_simp; rfl)); intro g2 hg w2_ hbox hb; have BK2 := Aside0.mk hbox; have G2 := Aside0.mk (show W.heap.size ≤ g2 by rw [hg]; exact below_size HB.out); have N1_2 := Aside0.mk (show g1 ≠ g2 by rw [hg]; exact Nat.ne_of_lt (blk_lt BK1.out)); have n0 := Aside0.mk (below_step HB.out hb); have n1 := Aside0.mk (blk_below BK1.out hb); clear HB BK1; have HB := n0; have BK1 := n1; clear n0 n1; clear hb hbox hg)
        | ((with_reducible refine gate_dst (N := 3) rfl ?_); refine box_event ?hg (N := 3) ?hd (cs := ia it0) (t := 32) ?hr ?_; (case hd => rfl); (case hg => rfl); (case hr => first | (go_simp; done) | (go_simp; rfl)); intro g3 hg w3_ hbox hb; have BK3 := Aside0.mk hbox; have G3 := Aside0.mk (show W.heap.size ≤ g3 by rw [hg]; exact below_size HB.out); have N1_3 := Aside0.mk (show g1 ≠ g3 by rw [hg]; exact Nat.ne_of_lt (blk_lt BK1.out)); have N2_3 := Aside0.mk (show g2 ≠ g3 by rw [hg]; exact Nat.ne_of_lt (blk_lt BK2.out)); have n0 := Aside0.mk (below_step HB.out hb); have n1 := Aside0.mk (blk_below BK1.out hb); have n2 := Aside0.mk (blk_below BK2.out hb); clear HB BK1 BK2; have HB := n0; have BK1 := n1; have BK2 := n2; clear n0 n1 n2; clear hb hbox hg)
        | ((with_reducible refine gate_dst (N := 6) rfl ?_); refine wl_load rfl rfl rfl (load_row Tryd.underlying24 rfl size_tap BK1.out (rfl)) ?_)
        | (go_at_call 15; (with_reducible refine (HCK.out _ HB.out).mono ?_); rintro e w4_ ⟨rfl, hb⟩; have n0 := Aside0.mk (below_step HB.out hb); have n1 := Aside0.mk (blk_below BK1.out hb); have n2 := Aside0.mk (blk_below BK2.out hb); have n3 := Aside0.mk (blk_below BK3.out hb); clear HB BK1 BK2 BK3; have HB := n0; have BK1 := n1; have BK2 := n2; have BK3 := n3; clear n0 n1 n2 n3; clear hb)
        | ((with_reducible refine gate_dst (N := 13) rfl ?_); refine wl_load rfl rfl rfl (load_cell (k := 0) Tryd.underlying22 rfl BK1.out rfl) ?_)
        | ((with_reducible refine gate_dst (N := 30) rfl ?_); refine wl_load rfl rfl rfl (load_cell (k := 1) Tryd.underlying4 rfl BK1.out rfl) ?_))
      have hb : Below w4_.heap.size w4_ w4_.drew := below_drew (Below.refl _ _)
      refine start_ (n := 5) (S := fun w' => w'.heap[g2]? = some (.cells #[.slice none 0 0, .bool false] 24 (0, 0)) ∧ w'.heap[g3]? = some (.cells (ia it0) 32 (0, 0))) (ds := []) #[false, false, false, false, false] (by kernel_rfl) rfl rfl ⟨blk_below BK2.out hb, (blk_below BK3.out hb)⟩ (fun hHeld => ?_)
      refine with_tabW poll9_tab poll9_bits (fun HT_ HW_ => ?_)
      have n0 := Aside0.mk (blk_below BK2.out hb)
      have n1 := Aside0.mk (blk_below BK3.out hb)
      have n2 := Aside0.mk (below_step HB.out hb)
      clear BK2 BK3 HB
      have BK2 := n0
      have BK3 := n1
      have HB := n2
      clear n0 n1 n2
      clear hb
      generalize w4_.drew = wd at BK2 BK3 HB hHeld ⊢
      refine take_ (i := 0) (N := (some 33)) (v := .agg #[.slice none 0 0, .bool false]) (a' := ?_) #[true, false, false, false, false] rfl rfl (take_ofW HT_.out HW_.out (by kernel_rfl)) (fun _ _ _ h => h) (Or.inl ⟨by rfl, ?_⟩) hHeld ?_ ?_
      · rintro w' ⟨s2, s3⟩
        refine op_load (x := .tmp 2) (load_row Tryd.underlying24 rfl size_tap s2 rfl) ?_ ?_ <;> rfl
      rotate_left
      · simp only [Act.put, List.setIfInBounds_toArray, List.set_cons_zero, List.set_cons_succ, i64_w, i32_w]
        rfl
      refine take_ (i := 1) (N := (some 34)) (v := .agg (ia it0)) (a' := ?_) #[true, true, false, false, false] rfl rfl (take_ofW HT_.out HW_.out (by kernel_rfl)) (fun _ _ _ h => h) (Or.inl ⟨by rfl, ?_⟩) hHeld ?_ ?_
      · rintro w' ⟨s2, s3⟩
        refine op_load (x := .tmp 3) (load_row Tryd.underlying32 rfl size_itm s3 (ia_size (x := it0) hd0_wf)) ?_ ?_ <;> rfl
      rotate_left
      · simp only [Act.put, List.setIfInBounds_toArray, List.set_cons_zero, List.set_cons_succ, i64_w, i32_w]
        rfl
      refine one_ (i := 2) (N := none) #[true, true, true, false, false] rfl rfl (one_of HT_.out (by kernel_rfl)) (by decide) (fun K hK => ?_)
      rw [if_pos (by rfl)]
      refine wp_store_row 24 (.tmp 2) (.tmp 33) rfl g2 (#[.slice none 0 0, .bool false]) rfl rfl 24 (#[.slice none 0 0, .bool false]) BK2.out size_tap rfl (tap_one _ _ _ _) ?_
      obtain ⟨we, hwe⟩ : ∃ w', World.setRow wd g2 (#[.slice none 0 0, .bool false]) = w' := ⟨_, rfl⟩
      have hoth : ∀ k, k ≠ g2 → we.heap[k]? = wd.heap[k]? := fun k hk => by rw [← hwe]; exact setRow_other wd g2 k _ hk
      have n0 := Aside0.mk (show we.heap[g2]? = some (.cells (#[.slice none 0 0, .bool false]) 24 (0, 0)) by rw [← hwe]; exact setRow_heap _ g2 _ _ _ _ BK2.out)
      have n1 := Aside0.mk ((hoth g3 (blk_ne BK3.out BK2.out (by decide))).trans BK3.out)
      have n2 := Aside0.mk (show Below W.heap.size W we by rw [← hwe]; exact below_setRow HB.out G2.out (#[.slice none 0 0, .bool false]))
      clear BK2 BK3 HB
      have BK2 := n0
      have BK3 := n1
      have HB := n2
      clear n0 n1 n2
      rw [hwe]
      clear hwe hoth
      refine hK.out _ _ ⟨BK2.out, BK3.out⟩ (fun hHeld => ?_)
      clear hK K
      refine one_ (i := 3) (N := none) #[true, true, true, true, false] rfl rfl (one_of HT_.out (by kernel_rfl)) (by decide) (fun K hK => ?_)
      rw [if_pos (by rfl)]
      refine wp_store_row 32 (.tmp 3) (.tmp 34) rfl g3 (ia it0) rfl rfl 32 (ia it0) BK3.out (by rw [ia_size (x := it0) hd0_wf]; exact size_itm) ((ia_size (x := it0) hd0_wf).trans (ia_size (x := it0) hd0_wf).symm) (ia_one _) ?_
      obtain ⟨wf, hwe⟩ : ∃ w', World.setRow we g3 (ia it0) = w' := ⟨_, rfl⟩
      have hoth : ∀ k, k ≠ g3 → wf.heap[k]? = we.heap[k]? := fun k hk => by rw [← hwe]; exact setRow_other we g3 k _ hk
      have n0 := Aside0.mk ((hoth g2 (blk_ne BK2.out BK3.out (by decide))).trans BK2.out)
      have n1 := Aside0.mk (show wf.heap[g3]? = some (.cells (ia it0) 32 (0, 0)) by rw [← hwe]; exact setRow_heap _ g3 _ _ _ _ BK3.out)
      have n2 := Aside0.mk (show Below W.heap.size W wf by rw [← hwe]; exact below_setRow HB.out G3.out (ia it0))
      clear BK2 BK3 HB
      have BK2 := n0
      have BK3 := n1
      have HB := n2
      clear n0 n1 n2
      rw [hwe]
      clear hwe hoth
      refine hK.out _ _ ⟨BK2.out, BK3.out⟩ (fun hHeld => ?_)
      clear hK K
      refine pure_ (i := 4) (N := (some 4)) (v := ?_) (a' := ?_) #[true, true, true, true, true] rfl rfl (any_of HT_.out (by kernel_rfl)) (fun _ _ _ h => h) (Or.inl ⟨by rfl, ?_⟩) ?_ ?_
      rotate_left
      · intro w'
        go_simp
        first | with_reducible rfl | (simp; done) | rfl
      rotate_left
      · simp only [Act.put, List.setIfInBounds_toArray, List.set_cons_zero, List.set_cons_succ, i64_w, i32_w]
        rfl
      refine done_ (done_of HT_.out (by kernel_rfl)) ?_
      go_wp2
      refine bodyPost_ret (results_cct rfl _ _ g2 g3 24 32 #[.slice none 0 0, .bool false] (ia it0) _ _ rfl BK2.out Tryd.underlying24 rfl size_tap rfl BK3.out Tryd.underlying32 rfl (by rw [ia_size (x := it0) hd0_wf]; exact size_itm)) rfl ?_
      exact ⟨_, _, _, rfl, ItsO.none _ _, hd0_wf, HB.out⟩

set_option maxHeartbeats 16000000 in
set_option maxRecDepth 100000 in
theorem poll_gap (A : Option Addr) (c : Nat) (W : World) (h : Its W A 0 c []) (hg : GT W) :
    Calls Tryd.prog 9 #[.agg #[.slice A 0 c, .bool true]] W fun e W' => ∃ A' n' c', e = .returned (.tuple #[.agg #[.slice A' n' c', .bool (pollP ⟨[], true⟩).1.lost], .agg (ia (pollP ⟨[], true⟩).2.1), .int .i64 (pollP ⟨[], true⟩).2.2]) ∧ ItsO W' W.heap.size A' n' c' (pollP ⟨[], true⟩).1.its ∧ (pollP ⟨[], true⟩).2.1.ev.hd.wf ∧ Below W.heap.size W W' := by
  have ep : pollP ⟨[], true⟩ = (⟨[], false⟩, gapI, 0) := by decide +kernel
  rw [ep]
  have IT := Aside0.mk h
  have GG := Aside0.mk hg
  have HB := Aside0.mk (Below.refl W.heap.size W)
  have HCK : Aside0 (∀ w, Below W.heap.size W w → Calls Tryd.prog 15 #[.agg #[.slice A 0 c, .bool true]] w fun z W' => z = .returned (.int .i64 (ccode [])) ∧ Below w.heap.size w W') := ⟨fun w hw => check_walk A 0 c [] true w (IT.out.below hw) (GG.out.below GG.out.lt hw)⟩
  rw [ccode_yes (by decide +kernel)] at HCK
  clear h hg ep
  focus
      skip
      go_enter Tryd.func9, Tryd.ntmps9
      go_wp2_with (
        first
        | ((with_reducible refine gate_dst (N := 1) rfl ?_); refine box_event ?hg (N := 1) ?hd (cs := #[.slice A 0 c, .bool true]) (t := 24) ?hr ?_; (case hd => rfl); (case hg => rfl); (case hr => first | (go_simp; done) | (go_simp; rfl)); intro g1 hg w1_ hbox hb; have BK1 := Aside0.mk hbox; have G1 := Aside0.mk (show W.heap.size ≤ g1 by rw [hg]; exact below_size HB.out); have n0 := Aside0.mk (below_step HB.out hb); clear HB; have HB := n0; clear n0; clear hb hbox hg)
        | ((with_reducible refine gate_dst (N := 2) rfl ?_); refine box_event ?hg (N := 2) ?hd (cs := #[.slice none 0 0, .bool false]) (t := 24) ?hr ?_; (case hd => rfl); (case hg => rfl); (case hr => first | (go_simp; done) | (go_simp; rfl)); intro g2 hg w2_ hbox hb; have BK2 := Aside0.mk hbox; have G2 := Aside0.mk (show W.heap.size ≤ g2 by rw [hg]; exact below_size HB.out); have N1_2 := Aside0.mk (show g1 ≠ g2 by rw [hg]; exact Nat.ne_of_lt (blk_lt BK1.out)); have n0 := Aside0.mk (below_step HB.out hb); have n1 := Aside0.mk (blk_below BK1.out hb); clear HB BK1; have HB := n0; have BK1 := n1; clear n0 n1; clear hb hbox hg)
        | ((with_reducible refine gate_dst (N := 3) rfl ?_); refine box_event ?hg (N := 3) ?hd (cs := ia it0) (t := 32) ?hr ?_; (case hd => rfl); (case hg => rfl); (case hr => first | (go_simp; done) | (go_simp; rfl)); intro g3 hg w3_ hbox hb; have BK3 := Aside0.mk hbox; have G3 := Aside0.mk (show W.heap.size ≤ g3 by rw [hg]; exact below_size HB.out); have N1_3 := Aside0.mk (show g1 ≠ g3 by rw [hg]; exact Nat.ne_of_lt (blk_lt BK1.out)); have N2_3 := Aside0.mk (show g2 ≠ g3 by rw [hg]; exact Nat.ne_of_lt (blk_lt BK2.out)); have n0 := Aside0.mk (below_step HB.out hb); have n1 := Aside0.mk (blk_below BK1.out hb); have n2 := Aside0.mk (blk_below BK2.out hb); clear HB BK1 BK2; have HB := n0; have BK1 := n1; have BK2 := n2; clear n0 n1 n2; clear hb hbox hg)
        | ((with_reducible refine gate_dst (N := 6) rfl ?_); refine wl_load rfl rfl rfl (load_row Tryd.underlying24 rfl size_tap BK1.out (rfl)) ?_)
        | (go_at_call 15; (with_reducible refine (HCK.out _ HB.out).mono ?_); rintro e w4_ ⟨rfl, hb⟩; have n0 := Aside0.mk (below_step HB.out hb); have n1 := Aside0.mk (blk_below BK1.out hb); have n2 := Aside0.mk (blk_below BK2.out hb); have n3 := Aside0.mk (blk_below BK3.out hb); clear HB BK1 BK2 BK3; have HB := n0; have BK1 := n1; have BK2 := n2; have BK3 := n3; clear n0 n1 n2 n3; clear hb)
        | ((with_reducible refine gate_dst (N := 13) rfl ?_); refine wl_load rfl rfl rfl (load_cell (k := 0) Tryd.underlying22 rfl BK1.out rfl) ?_)
        | ((with_reducible refine gate_dst (N := 30) rfl ?_); refine wl_load rfl rfl rfl (load_cell (k := 1) Tryd.underlying4 rfl BK1.out rfl) ?_))
      have hb : Below w4_.heap.size w4_ w4_.drew := below_drew (Below.refl _ _)
      refine start_ (n := 5) (S := fun w' => w'.heap[g2]? = some (.cells #[.slice none 0 0, .bool false] 24 (0, 0)) ∧ Lie w' ⟨0, 0, none⟩ (icl gapI)) (ds := []) #[false, false, false, false, false] (by kernel_rfl) rfl rfl ⟨blk_below BK2.out hb, (GG.out.below GG.out.lt (below_step HB.out hb))⟩ (fun hHeld => ?_)
      refine with_tabW poll8_tab poll8_bits (fun HT_ HW_ => ?_)
      have n0 := Aside0.mk (blk_below BK2.out hb)
      have n1 := Aside0.mk (blk_below BK3.out hb)
      have n2 := Aside0.mk (below_step HB.out hb)
      clear BK2 BK3 HB
      have BK2 := n0
      have BK3 := n1
      have HB := n2
      clear n0 n1 n2
      clear hb
      generalize w4_.drew = wd at BK2 BK3 HB hHeld ⊢
      refine take_ (i := 0) (N := (some 31)) (v := .agg #[.slice none 0 0, .bool false]) (a' := ?_) #[true, false, false, false, false] rfl rfl (take_ofW HT_.out HW_.out (by kernel_rfl)) (fun _ _ _ h => h) (Or.inl ⟨by rfl, ?_⟩) hHeld ?_ ?_
      · rintro w' ⟨s2, s3⟩
        refine op_load (x := .tmp 2) (load_row Tryd.underlying24 rfl size_tap s2 rfl) ?_ ?_ <;> rfl
      rotate_left
      · simp only [Act.put, List.setIfInBounds_toArray, List.set_cons_zero, List.set_cons_succ, i64_w, i32_w]
        rfl
      refine take_ (i := 1) (N := (some 32)) (v := .agg (ia gapI)) (a' := ?_) #[true, true, false, false, false] rfl rfl (take_ofW HT_.out HW_.out (by kernel_rfl)) (fun _ _ _ h => h) (Or.inl ⟨by rfl, ?_⟩) hHeld ?_ ?_
      · rintro w' ⟨s2, s3⟩
        refine op_load (x := .global 0) (load_itm (x := gapI) hd0_wf s3) ?_ ?_ <;> rfl
      rotate_left
      · simp only [Act.put, List.setIfInBounds_toArray, List.set_cons_zero, List.set_cons_succ, i64_w, i32_w]
        rfl
      refine one_ (i := 2) (N := none) #[true, true, true, false, false] rfl rfl (one_of HT_.out (by kernel_rfl)) (by decide) (fun K hK => ?_)
      rw [if_pos (by rfl)]
      refine wp_store_row 24 (.tmp 2) (.tmp 31) rfl g2 (#[.slice none 0 0, .bool false]) rfl rfl 24 (#[.slice none 0 0, .bool false]) BK2.out size_tap rfl (tap_one _ _ _ _) ?_
      obtain ⟨we, hwe⟩ : ∃ w', World.setRow wd g2 (#[.slice none 0 0, .bool false]) = w' := ⟨_, rfl⟩
      have hoth : ∀ k, k ≠ g2 → we.heap[k]? = wd.heap[k]? := fun k hk => by rw [← hwe]; exact setRow_other wd g2 k _ hk
      have n0 := Aside0.mk (show we.heap[g2]? = some (.cells (#[.slice none 0 0, .bool false]) 24 (0, 0)) by rw [← hwe]; exact setRow_heap _ g2 _ _ _ _ BK2.out)
      have n1 := Aside0.mk ((hoth g3 (blk_ne BK3.out BK2.out (by decide))).trans BK3.out)
      have n2 := Aside0.mk (show Below W.heap.size W we by rw [← hwe]; exact below_setRow HB.out G2.out (#[.slice none 0 0, .bool false]))
      clear BK2 BK3 HB
      have BK2 := n0
      have BK3 := n1
      have HB := n2
      clear n0 n1 n2
      rw [hwe]
      clear hwe hoth
      refine hK.out _ _ ⟨BK2.out, GG.out.below GG.out.lt HB.out⟩ (fun hHeld => ?_)
      clear hK K
      refine one_ (i := 3) (N := none) #[true, true, true, true, false] rfl rfl (one_of HT_.out (by kernel_rfl)) (by decide) (fun K hK => ?_)
      rw [if_pos (by rfl)]
      refine wp_store_row 32 (.tmp 3) (.tmp 32) rfl g3 (ia gapI) rfl rfl 32 (ia it0) BK3.out (by rw [ia_size (x := gapI) hd0_wf]; exact size_itm) ((ia_size (x := it0) hd0_wf).trans (ia_size (x := gapI) hd0_wf).symm) (ia_one _) ?_
      obtain ⟨wf, hwe⟩ : ∃ w', World.setRow we g3 (ia gapI) = w' := ⟨_, rfl⟩
      have hoth : ∀ k, k ≠ g3 → wf.heap[k]? = we.heap[k]? := fun k hk => by rw [← hwe]; exact setRow_other we g3 k _ hk
      have n0 := Aside0.mk ((hoth g2 (blk_ne BK2.out BK3.out (by decide))).trans BK2.out)
      have n1 := Aside0.mk (show wf.heap[g3]? = some (.cells (ia gapI) 32 (0, 0)) by rw [← hwe]; exact setRow_heap _ g3 _ _ _ _ BK3.out)
      have n2 := Aside0.mk (show Below W.heap.size W wf by rw [← hwe]; exact below_setRow HB.out G3.out (ia gapI))
      clear BK2 BK3 HB
      have BK2 := n0
      have BK3 := n1
      have HB := n2
      clear n0 n1 n2
      rw [hwe]
      clear hwe hoth
      refine hK.out _ _ ⟨BK2.out, GG.out.below GG.out.lt HB.out⟩ (fun hHeld => ?_)
      clear hK K
      refine pure_ (i := 4) (N := (some 4)) (v := ?_) (a' := ?_) #[true, true, true, true, true] rfl rfl (any_of HT_.out (by kernel_rfl)) (fun _ _ _ h => h) (Or.inl ⟨by rfl, ?_⟩) ?_ ?_
      rotate_left
      · intro w'
        go_simp
        first | with_reducible rfl | (simp; done) | rfl
      rotate_left
      · simp only [Act.put, List.setIfInBounds_toArray, List.set_cons_zero, List.set_cons_succ, i64_w, i32_w]
        rfl
      refine done_ (done_of HT_.out (by kernel_rfl)) ?_
      go_wp2
      refine bodyPost_ret (results_cct rfl _ _ g2 g3 24 32 #[.slice none 0 0, .bool false] (ia gapI) _ _ rfl BK2.out Tryd.underlying24 rfl size_tap rfl BK3.out Tryd.underlying32 rfl (by rw [ia_size (x := gapI) hd0_wf]; exact size_itm)) rfl ?_
      exact ⟨_, _, _, rfl, ItsO.none _ _, hd0_wf, HB.out⟩

theorem lie_of {w : World} {base n c : Nat} {ad : Addr} {x : Itm} {l : List Itm} (h : ItsO w base (some ad) n c (x :: l)) : Lie w ad (icl x) := by
  have := h.1.lie ad rfl
  rw [flatI_cons] at this
  exact this.left
set_option maxHeartbeats 16000000 in
set_option maxRecDepth 100000 in
theorem poll_item (A : Option Addr) (n c : Nat) (x : Itm) (l : List Itm) (lost : Bool) (W : World) (h : Its W A n c (x :: l)) (hg : GT W) (ho : tapOk (x :: l) = true) :
    Calls Tryd.prog 9 #[.agg #[.slice A n c, .bool lost]] W fun e W' => ∃ A' n' c', e = .returned (.tuple #[.agg #[.slice A' n' c', .bool (pollP ⟨x :: l, lost⟩).1.lost], .agg (ia (pollP ⟨x :: l, lost⟩).2.1), .int .i64 (pollP ⟨x :: l, lost⟩).2.2]) ∧ ItsO W' W.heap.size A' n' c' (pollP ⟨x :: l, lost⟩).1.its ∧ (pollP ⟨x :: l, lost⟩).2.1.ev.hd.wf ∧ Below W.heap.size W W' := by
  have hn64 : n ≤ 64 := by
    have := ho
    unfold tapOk at this
    simp only [Bool.and_eq_true, decide_eq_true_eq] at this
    rw [← h.len]
    exact this.1
  have hn1 : 1 ≤ n := by have := h.len; rw [List.length_cons] at this; omega
  have hpos : 0 < n := hn1
  have ep : pollP ⟨x :: l, lost⟩ = (⟨l, lost⟩, x, 0) := by unfold pollP; rw [if_pos ho]
  rw [ep]
  have IT := Aside0.mk h
  have GG := Aside0.mk hg
  have HB := Aside0.mk (Below.refl W.heap.size W)
  have HCK : Aside0 (∀ w, Below W.heap.size W w → Calls Tryd.prog 15 #[.agg #[.slice A n c, .bool lost]] w fun z W' => z = .returned (.int .i64 (ccode (x :: l))) ∧ Below w.heap.size w W') := ⟨fun w hw => check_walk A n c (x :: l) lost w (IT.out.below hw) (GG.out.below GG.out.lt hw)⟩
  rw [ccode_yes ho] at HCK
  have HX : Aside0 (x.ev.hd.wf) := ⟨h.wf x List.mem_cons_self⟩
  have HWF : Aside0 (Wfs (x :: l)) := ⟨h.wf⟩
  have HTW : Aside0 (∀ w, Below W.heap.size W w → Calls Tryd.prog 37 #[.agg #[.slice A n c, .bool lost]] w fun z W' => ∃ v, z = .returned (.agg #[v, .bool lost]) ∧ W'.ownsRow w.heap.size 32 101 v n (flatI (x :: l)) ∧ Below w.heap.size w W') := ⟨fun w hw => taptwin_walk A n c (x :: l) lost w (IT.out.below hw) (by omega)⟩
  have HN1 := Aside0.mk hn1
  clear h hg ho ep hn1
  focus
      skip
      go_enter Tryd.func9, Tryd.ntmps9
      go_wp2_with (
        first
        | ((with_reducible refine gate_dst (N := 1) rfl ?_); refine box_event ?hg (N := 1) ?hd (cs := #[.slice A n c, .bool lost]) (t := 24) ?hr ?_; (case hd => rfl); (case hg => rfl); (case hr => first | (go_simp; done) | (go_simp; rfl)); intro g1 hg w1_ hbox hb; have BK1 := Aside0.mk hbox; have G1 := Aside0.mk (show W.heap.size ≤ g1 by rw [hg]; exact below_size HB.out); have n0 := Aside0.mk (below_step HB.out hb); clear HB; have HB := n0; clear n0; clear hb hbox hg)
        | ((with_reducible refine gate_dst (N := 2) rfl ?_); refine box_event ?hg (N := 2) ?hd (cs := #[.slice none 0 0, .bool false]) (t := 24) ?hr ?_; (case hd => rfl); (case hg => rfl); (case hr => first | (go_simp; done) | (go_simp; rfl)); intro g2 hg w2_ hbox hb; have BK2 := Aside0.mk hbox; have G2 := Aside0.mk (show W.heap.size ≤ g2 by rw [hg]; exact below_size HB.out); have N1_2 := Aside0.mk (show g1 ≠ g2 by rw [hg]; exact Nat.ne_of_lt (blk_lt BK1.out)); have n0 := Aside0.mk (below_step HB.out hb); have n1 := Aside0.mk (blk_below BK1.out hb); clear HB BK1; have HB := n0; have BK1 := n1; clear n0 n1; clear hb hbox hg)
        | ((with_reducible refine gate_dst (N := 3) rfl ?_); refine box_event ?hg (N := 3) ?hd (cs := ia it0) (t := 32) ?hr ?_; (case hd => rfl); (case hg => rfl); (case hr => first | (go_simp; done) | (go_simp; rfl)); intro g3 hg w3_ hbox hb; have BK3 := Aside0.mk hbox; have G3 := Aside0.mk (show W.heap.size ≤ g3 by rw [hg]; exact below_size HB.out); have N1_3 := Aside0.mk (show g1 ≠ g3 by rw [hg]; exact Nat.ne_of_lt (blk_lt BK1.out)); have N2_3 := Aside0.mk (show g2 ≠ g3 by rw [hg]; exact Nat.ne_of_lt (blk_lt BK2.out)); have n0 := Aside0.mk (below_step HB.out hb); have n1 := Aside0.mk (blk_below BK1.out hb); have n2 := Aside0.mk (blk_below BK2.out hb); clear HB BK1 BK2; have HB := n0; have BK1 := n1; have BK2 := n2; clear n0 n1 n2; clear hb hbox hg)
        | ((with_reducible refine gate_dst (N := 6) rfl ?_); refine wl_load rfl rfl rfl (load_row Tryd.underlying24 rfl size_tap BK1.out (rfl)) ?_)
        | (go_at_call 15; (with_reducible refine (HCK.out _ HB.out).mono ?_); rintro e w4_ ⟨rfl, hb⟩; have n0 := Aside0.mk (below_step HB.out hb); have n1 := Aside0.mk (blk_below BK1.out hb); have n2 := Aside0.mk (blk_below BK2.out hb); have n3 := Aside0.mk (blk_below BK3.out hb); clear HB BK1 BK2 BK3; have HB := n0; have BK1 := n1; have BK2 := n2; have BK3 := n3; clear n0 n1 n2 n3; clear hb)
        | ((with_reducible refine gate_dst (N := 13) rfl ?_); refine wl_load rfl rfl rfl (load_cell (k := 0) Tryd.underlying22 rfl BK1.out rfl) ?_)
        | ((with_reducible refine gate_dst (N := 16) rfl ?_); refine wl_load rfl rfl rfl (load_row Tryd.underlying24 rfl size_tap BK1.out (rfl)) ?_)
        | (go_at_call 37; have L3 := Aside0.mk (blk_lt BK3.out); have HB0 := HB; (with_reducible refine (HTW.out _ HB.out).mono ?_); rintro e w5_ ⟨v17, rfl, ho, hb⟩; obtain ⟨A17, c17, rfl, hio⟩ := own_its ho HWF.out; have n0 := Aside0.mk (below_step HB.out hb); have n1 := Aside0.mk (blk_below BK1.out hb); have n2 := Aside0.mk (blk_below BK2.out hb); have n3 := Aside0.mk (blk_below BK3.out hb); clear HB BK1 BK2 BK3; have HB := n0; have BK1 := n1; have BK2 := n2; have BK3 := n3; clear n0 n1 n2 n3; have IO := Aside0.mk hio; clear hb)
        | ((with_reducible refine gate_store (p := 2) rfl ?_); refine row_store rfl size_tap (.tmp 2) (.tmp 17) rfl g2 (#[.slice A17 n c17, .bool lost]) (#[.slice none 0 0, .bool false]) rfl rfl BK2.out (rfl) (rfl) (tap_one _ _ _ _) ?_; intro s6_ bk hoth hbel; have n0 := Aside0.mk (hbel _ _ HB.out G2.out); have n1 := Aside0.mk ((hoth g1 N1_2.out).trans BK1.out); have n2 := Aside0.mk bk; have n3 := Aside0.mk ((hoth g3 (fun e => N2_3.out e.symm)).trans BK3.out); have n4 := Aside0.mk (io_store IO.out BK2.out (by decide) hoth); clear HB BK1 BK2 BK3 IO; have HB := n0; have BK1 := n1; have BK2 := n2; have BK3 := n3; have IO := n4; clear n0 n1 n2 n3 n4; clear bk hoth hbel))
      obtain ⟨ad17, rfl⟩ := IO.out.1.some_ hpos
      have LX := Aside0.mk (lie_of IO.out)
      have hix := fun X => idx_its ad17 n c17 0 hpos X
      have e0 : ad17.add (0 * 101) = ad17 := by simp [Addr.add]
      simp only [e0] at hix
      have hix2 : ∀ X : World, (Instr.indexAt 22 (.slice (some ad17) n c17) (.int .i64 0)).run Tryd.prog X = .ok (.pointer (some ad17)) X := hix
      obtain ⟨A24, hA24⟩ : ∃ A', (if c17 = 1 then some ad17 else (some ad17).map (·.add (1 * 101))) = A' := ⟨_, rfl⟩
      have hcut := its_cut (some ad17) n c17 HN1.out
      rw [hA24] at hcut
      have HA := Aside0.mk hA24
      clear hA24 hix e0
      have hb : Below s6_.heap.size s6_ s6_.drew := below_drew (Below.refl _ _)
      refine start_ (n := 10) (S := fun w' => w'.heap[g2]? = some (.cells #[.slice (some ad17) n c17, .bool lost] 24 (0, 0)) ∧ Lie w' ad17 (icl x)) (ds := [9]) #[false, false, false, false, false, false, false, false, false, false] (by kernel_rfl) rfl rfl ⟨blk_below BK2.out hb, LX.out.below hb⟩ (fun hHeld => ?_)
      refine with_tabW poll5_tab poll5_bits (fun HT_ HW_ => ?_)
      have n0 := Aside0.mk (blk_below BK2.out hb)
      have n1 := Aside0.mk (blk_below BK3.out hb)
      have n2 := Aside0.mk (below_step HB.out hb)
      have n3 := Aside0.mk (IO.out.below hb)
      clear BK2 BK3 HB IO
      have BK2 := n0
      have BK3 := n1
      have HB := n2
      have IO := n3
      clear n0 n1 n2 n3
      clear hb
      generalize s6_.drew = wd at BK2 BK3 HB IO hHeld ⊢
      refine pure_ (i := 0) (N := (some 18)) (v := ?_) (a' := ?_) #[true, false, false, false, false, false, false, false, false, false] rfl rfl (any_of HT_.out (by kernel_rfl)) (fun _ _ _ h => h) (Or.inl ⟨by rfl, ?_⟩) ?_ ?_
      rotate_left
      · intro w'
        go_simp
        first | with_reducible rfl | (simp; done) | rfl
      rotate_left
      · simp only [Act.put, List.setIfInBounds_toArray, List.set_cons_zero, List.set_cons_succ, i64_w, i32_w]
        rfl
      refine take_ (i := 1) (N := (some 19)) (v := .slice (some ad17) n c17) (a' := ?_) #[true, true, false, false, false, false, false, false, false, false] rfl rfl (take_ofW HT_.out HW_.out (by kernel_rfl)) (fun _ _ _ h => h) (Or.inl ⟨by rfl, ?_⟩) hHeld ?_ ?_
      · rintro w' ⟨s2, sl⟩
        refine op_load (x := .tmp 18) (load_cell (k := 0) Tryd.underlying22 rfl s2 rfl) ?_ ?_ <;> rfl
      rotate_left
      · simp only [Act.put, List.setIfInBounds_toArray, List.set_cons_zero, List.set_cons_succ, i64_w, i32_w]
        rfl
      refine pure_ (i := 2) (N := (some 20)) (v := ?_) (a' := ?_) #[true, true, true, false, false, false, false, false, false, false] rfl rfl (any_of HT_.out (by kernel_rfl)) (fun _ _ _ h => h) (Or.inl ⟨by rfl, ?_⟩) ?_ ?_
      rotate_left
      · intro w'
        go_simp
        first | with_reducible rfl | (simp; done) | rfl
      rotate_left
      · simp only [Act.put, List.setIfInBounds_toArray, List.set_cons_zero, List.set_cons_succ, i64_w, i32_w]
        rfl
      refine take_ (i := 3) (N := (some 21)) (v := .agg (ia x)) (a' := ?_) #[true, true, true, true, false, false, false, false, false, false] rfl rfl (take_ofW HT_.out HW_.out (by kernel_rfl)) (fun _ _ _ h => h) (Or.inl ⟨by rfl, ?_⟩) hHeld ?_ ?_
      · rintro w' ⟨s2, sl⟩
        refine op_load (x := .tmp 20) (load_itm HX.out sl) ?_ ?_ <;> rfl
      rotate_left
      · simp only [Act.put, List.setIfInBounds_toArray, List.set_cons_zero, List.set_cons_succ, i64_w, i32_w]
        rfl
      refine pure_ (i := 4) (N := (some 22)) (v := ?_) (a' := ?_) #[true, true, true, true, true, false, false, false, false, false] rfl rfl (any_of HT_.out (by kernel_rfl)) (fun _ _ _ h => h) (Or.inl ⟨by rfl, ?_⟩) ?_ ?_
      rotate_left
      · intro w'
        go_simp
        first | with_reducible rfl | (simp; done) | rfl
      rotate_left
      · simp only [Act.put, List.setIfInBounds_toArray, List.set_cons_zero, List.set_cons_succ, i64_w, i32_w]
        rfl
      refine take_ (i := 5) (N := (some 23)) (v := .slice (some ad17) n c17) (a' := ?_) #[true, true, true, true, true, true, false, false, false, false] rfl rfl (take_ofW HT_.out HW_.out (by kernel_rfl)) (fun _ _ _ h => h) (Or.inl ⟨by rfl, ?_⟩) hHeld ?_ ?_
      · rintro w' ⟨s2, sl⟩
        refine op_load (x := .tmp 22) (load_cell (k := 0) Tryd.underlying22 rfl s2 rfl) ?_ ?_ <;> rfl
      rotate_left
      · simp only [Act.put, List.setIfInBounds_toArray, List.set_cons_zero, List.set_cons_succ, i64_w, i32_w]
        rfl
      refine pure_ (i := 6) (N := (some 24)) (v := ?_) (a' := ?_) #[true, true, true, true, true, true, true, false, false, false] rfl rfl (any_of HT_.out (by kernel_rfl)) (fun _ _ _ h => h) (Or.inl ⟨by rfl, ?_⟩) ?_ ?_
      rotate_left
      · intro w'
        go_simp
        first | with_reducible rfl | (simp; done) | rfl
      rotate_left
      · simp only [Act.put, List.setIfInBounds_toArray, List.set_cons_zero, List.set_cons_succ, i64_w, i32_w]
        rfl
      refine one_ (i := 7) (N := none) #[true, true, true, true, true, true, true, true, false, false] rfl rfl (one_of HT_.out (by kernel_rfl)) (by decide) (fun K hK => ?_)
      rw [if_pos (by rfl)]
      refine wp_store_row 32 (.tmp 3) (.tmp 21) rfl g3 (ia x) rfl rfl 32 (ia it0) BK3.out (by rw [ia_size HX.out]; exact size_itm) ((ia_size (x := it0) hd0_wf).trans (ia_size HX.out).symm) (ia_one _) ?_
      obtain ⟨we, hwe⟩ : ∃ w', World.setRow wd g3 (ia x) = w' := ⟨_, rfl⟩
      have hoth : ∀ k, k ≠ g3 → we.heap[k]? = wd.heap[k]? := fun k hk => by rw [← hwe]; exact setRow_other wd g3 k _ hk
      have n0 := Aside0.mk ((hoth g2 (blk_ne BK2.out BK3.out (by decide))).trans BK2.out)
      have n1 := Aside0.mk (show we.heap[g3]? = some (.cells (ia x) 32 (0, 0)) by rw [← hwe]; exact setRow_heap _ g3 _ _ _ _ BK3.out)
      have n2 := Aside0.mk (show Below W.heap.size W we by rw [← hwe]; exact below_setRow HB.out G3.out (ia x))
      have n3 := Aside0.mk (io_store2 IO.out L3.out hoth)
      clear BK2 BK3 HB IO
      have BK2 := n0
      have BK3 := n1
      have HB := n2
      have IO := n3
      clear n0 n1 n2 n3
      rw [hwe]
      clear hwe hoth
      have LY := Aside0.mk (lie_of IO.out)
      refine hK.out _ _ ⟨BK2.out, LY.out⟩ (fun hHeld => ?_)
      clear hK K
      refine pure_ (i := 8) (N := (some 25)) (v := ?_) (a' := ?_) #[true, true, true, true, true, true, true, true, true, false] rfl rfl (any_of HT_.out (by kernel_rfl)) (fun _ _ _ h => h) (Or.inl ⟨by rfl, ?_⟩) ?_ ?_
      rotate_left
      · intro w'
        go_simp
        first | with_reducible rfl | (simp; done) | rfl
      rotate_left
      · simp only [Act.put, List.setIfInBounds_toArray, List.set_cons_zero, List.set_cons_succ, i64_w, i32_w]
        rfl
      refine last_ (i := 9) (N := none) #[true, true, true, true, true, true, true, true, true, true] rfl rfl (one_of HT_.out (by kernel_rfl)) (by decide) (fun K hK => ?_)
      have hcb : we.cell? ⟨g2, 0, none⟩ = some (.slice (some ad17) n c17) := (blk_cell BK2.out 0).trans rfl
      have hfb : we.frozen? ⟨g2, 0, none⟩ = false := blk_frozen BK2.out 0
      refine skip_ (w1 := we.setCell ⟨g2, 0, none⟩ (.slice A24 (n - 1) (c17 - 1))) (by rfl) rfl ?_ ?_
      · go_simp
      obtain ⟨wh, hwe⟩ : ∃ w', we.setCell ⟨g2, 0, none⟩ (.slice A24 (n - 1) (c17 - 1)) = w' := ⟨_, rfl⟩
      have hoth : ∀ k, k ≠ g2 → wh.heap[k]? = we.heap[k]? := fun k hk => by rw [← hwe]; exact Below.heap_setCell we ⟨g2, 0, none⟩ _ k hk
      have n0 := Aside0.mk (show wh.heap[g2]? = some (.cells #[.slice A24 (n - 1) (c17 - 1), .bool lost] 24 (0, 0)) by rw [← hwe]; exact blk_put BK2.out 0 _ rfl)
      have n1 := Aside0.mk ((hoth g3 (blk_ne BK3.out BK2.out (by decide))).trans BK3.out)
      have n2 := Aside0.mk (show Below W.heap.size W wh by rw [← hwe]; exact HB.out.setCell (p := ⟨g2, 0, none⟩) G2.out _)
      have n3 := Aside0.mk (io_store IO.out BK2.out (by decide) hoth)
      clear BK2 BK3 HB IO
      have BK2 := n0
      have BK3 := n1
      have HB := n2
      have IO := n3
      clear n0 n1 n2 n3
      rw [hwe]
      clear hwe hoth hcb hfb
      refine hK.out _ _ ?_
      clear hK K
      refine done_ (done_of HT_.out (by kernel_rfl)) ?_
      go_wp2
      have hb : Below wh.heap.size wh wh.drew := below_drew (Below.refl _ _)
      refine start_ (n := 5) (S := fun w' => w'.heap[g2]? = some (.cells #[.slice A24 (n - 1) (c17 - 1), .bool lost] 24 (0, 0)) ∧ w'.heap[g3]? = some (.cells (ia x) 32 (0, 0))) (ds := []) #[false, false, false, false, false] (by kernel_rfl) rfl rfl ⟨blk_below BK2.out hb, (blk_below BK3.out hb)⟩ (fun hHeld => ?_)
      refine with_tabW poll6_tab poll6_bits (fun HT_ HW_ => ?_)
      have n0 := Aside0.mk (blk_below BK2.out hb)
      have n1 := Aside0.mk (blk_below BK3.out hb)
      have n2 := Aside0.mk (below_step HB.out hb)
      have n3 := Aside0.mk (IO.out.below hb)
      clear BK2 BK3 HB IO
      have BK2 := n0
      have BK3 := n1
      have HB := n2
      have IO := n3
      clear n0 n1 n2 n3
      clear hb
      generalize wh.drew = wd at BK2 BK3 HB IO hHeld ⊢
      refine take_ (i := 0) (N := (some 26)) (v := .agg #[.slice A24 (n - 1) (c17 - 1), .bool lost]) (a' := ?_) #[true, false, false, false, false] rfl rfl (take_ofW HT_.out HW_.out (by kernel_rfl)) (fun _ _ _ h => h) (Or.inl ⟨by rfl, ?_⟩) hHeld ?_ ?_
      · rintro w' ⟨s2, s3⟩
        refine op_load (x := .tmp 2) (load_row Tryd.underlying24 rfl size_tap s2 rfl) ?_ ?_ <;> rfl
      rotate_left
      · simp only [Act.put, List.setIfInBounds_toArray, List.set_cons_zero, List.set_cons_succ, i64_w, i32_w]
        rfl
      refine take_ (i := 1) (N := (some 27)) (v := .agg (ia x)) (a' := ?_) #[true, true, false, false, false] rfl rfl (take_ofW HT_.out HW_.out (by kernel_rfl)) (fun _ _ _ h => h) (Or.inl ⟨by rfl, ?_⟩) hHeld ?_ ?_
      · rintro w' ⟨s2, s3⟩
        refine op_load (x := .tmp 3) (load_row Tryd.underlying32 rfl size_itm s3 (ia_size HX.out)) ?_ ?_ <;> rfl
      rotate_left
      · simp only [Act.put, List.setIfInBounds_toArray, List.set_cons_zero, List.set_cons_succ, i64_w, i32_w]
        rfl
      refine one_ (i := 2) (N := none) #[true, true, true, false, false] rfl rfl (one_of HT_.out (by kernel_rfl)) (by decide) (fun K hK => ?_)
      rw [if_pos (by rfl)]
      refine wp_store_row 24 (.tmp 2) (.tmp 26) rfl g2 (#[.slice A24 (n - 1) (c17 - 1), .bool lost]) rfl rfl 24 (#[.slice A24 (n - 1) (c17 - 1), .bool lost]) BK2.out size_tap rfl (tap_one _ _ _ _) ?_
      obtain ⟨we, hwe⟩ : ∃ w', World.setRow wd g2 (#[.slice A24 (n - 1) (c17 - 1), .bool lost]) = w' := ⟨_, rfl⟩
      have hoth : ∀ k, k ≠ g2 → we.heap[k]? = wd.heap[k]? := fun k hk => by rw [← hwe]; exact setRow_other wd g2 k _ hk
      have n0 := Aside0.mk (show we.heap[g2]? = some (.cells (#[.slice A24 (n - 1) (c17 - 1), .bool lost]) 24 (0, 0)) by rw [← hwe]; exact setRow_heap _ g2 _ _ _ _ BK2.out)
      have n1 := Aside0.mk ((hoth g3 (blk_ne BK3.out BK2.out (by decide))).trans BK3.out)
      have n2 := Aside0.mk (show Below W.heap.size W we by rw [← hwe]; exact below_setRow HB.out G2.out (#[.slice A24 (n - 1) (c17 - 1), .bool lost]))
      have n3 := Aside0.mk (io_store IO.out BK2.out (by decide) hoth)
      clear BK2 BK3 HB IO
      have BK2 := n0
      have BK3 := n1
      have HB := n2
      have IO := n3
      clear n0 n1 n2 n3
      rw [hwe]
      clear hwe hoth
      refine hK.out _ _ ⟨BK2.out, BK3.out⟩ (fun hHeld => ?_)
      clear hK K
      refine one_ (i := 3) (N := none) #[true, true, true, true, false] rfl rfl (one_of HT_.out (by kernel_rfl)) (by decide) (fun K hK => ?_)
      rw [if_pos (by rfl)]
      refine wp_store_row 32 (.tmp 3) (.tmp 27) rfl g3 (ia x) rfl rfl 32 (ia x) BK3.out (by rw [ia_size HX.out]; exact size_itm) ((ia_size HX.out).trans (ia_size HX.out).symm) (ia_one _) ?_
      obtain ⟨wf, hwe⟩ : ∃ w', World.setRow we g3 (ia x) = w' := ⟨_, rfl⟩
      have hoth : ∀ k, k ≠ g3 → wf.heap[k]? = we.heap[k]? := fun k hk => by rw [← hwe]; exact setRow_other we g3 k _ hk
      have n0 := Aside0.mk ((hoth g2 (blk_ne BK2.out BK3.out (by decide))).trans BK2.out)
      have n1 := Aside0.mk (show wf.heap[g3]? = some (.cells (ia x) 32 (0, 0)) by rw [← hwe]; exact setRow_heap _ g3 _ _ _ _ BK3.out)
      have n2 := Aside0.mk (show Below W.heap.size W wf by rw [← hwe]; exact below_setRow HB.out G3.out (ia x))
      have n3 := Aside0.mk (io_store2 IO.out L3.out hoth)
      clear BK2 BK3 HB IO
      have BK2 := n0
      have BK3 := n1
      have HB := n2
      have IO := n3
      clear n0 n1 n2 n3
      rw [hwe]
      clear hwe hoth
      refine hK.out _ _ ⟨BK2.out, BK3.out⟩ (fun hHeld => ?_)
      clear hK K
      refine pure_ (i := 4) (N := (some 4)) (v := ?_) (a' := ?_) #[true, true, true, true, true] rfl rfl (any_of HT_.out (by kernel_rfl)) (fun _ _ _ h => h) (Or.inl ⟨by rfl, ?_⟩) ?_ ?_
      rotate_left
      · intro w'
        go_simp
        first | with_reducible rfl | (simp; done) | rfl
      rotate_left
      · simp only [Act.put, List.setIfInBounds_toArray, List.set_cons_zero, List.set_cons_succ, i64_w, i32_w]
        rfl
      refine done_ (done_of HT_.out (by kernel_rfl)) ?_
      go_wp2
      refine bodyPost_ret (results_cct rfl _ _ g2 g3 24 32 #[.slice A24 (n - 1) (c17 - 1), .bool lost] (ia x) _ _ rfl BK2.out Tryd.underlying24 rfl size_tap rfl BK3.out Tryd.underlying32 rfl (by rw [ia_size HX.out]; exact size_itm)) rfl ?_
      have hT := IO.out.tail
      rw [HA.out] at hT
      exact ⟨_, _, _, rfl, hT.mono (below_size HB0.out), HX.out, HB.out⟩

theorem poll_walk (A : Option Addr) (n c : Nat) (l : List Itm) (lost : Bool) (W : World) (h : Its W A n c l) (hg : GT W) :
    Calls Tryd.prog 9 #[.agg #[.slice A n c, .bool lost]] W fun e W' => ∃ A' n' c', e = .returned (.tuple #[.agg #[.slice A' n' c', .bool (pollP ⟨l, lost⟩).1.lost], .agg (ia (pollP ⟨l, lost⟩).2.1), .int .i64 (pollP ⟨l, lost⟩).2.2]) ∧ ItsO W' W.heap.size A' n' c' (pollP ⟨l, lost⟩).1.its ∧ (pollP ⟨l, lost⟩).2.1.ev.hd.wf ∧ Below W.heap.size W W' := by
  cases ho : tapOk l with
  | false => exact poll_bad A n c l lost W h hg ho
  | true =>
    cases l with
    | cons x l => exact poll_item A n c x l lost W h hg ho
    | nil =>
      obtain rfl : n = 0 := h.len.symm
      cases lost with
      | true => exact poll_gap A c W h hg
      | false => exact poll_none A c W h hg
end Go.Proofs.YtkkkjidbakmjdaaDoor.Q
