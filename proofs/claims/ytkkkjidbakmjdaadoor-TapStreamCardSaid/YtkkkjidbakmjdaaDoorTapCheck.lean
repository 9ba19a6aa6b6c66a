/-
  tap.Check: walk (written by wip/tools/gen_tapcheck.py).
-/
import Derived.Test.YtkkkjidbakmjdaaDoorTapTwin
namespace Go.Proofs.YtkkkjidbakmjdaaDoor.Q
open Go.RowKit Go.Proofs.YtkkkjidbakmjdaaDoorW.PrintWords Go.Proofs.YtkkkjidbakmjdaaDoorW.PrintLast Go.Proofs.YtkkkjidbakmjdaaDoorW.PrintMore
set_option linter.unusedVariables false
set_option linter.unusedSimpArgs false

/-- The variable tap.gap, as the program's text lays it. -/
def GT (W : World) : Prop := Lie W ⟨0, 0, none⟩ (icl gapI)
theorem GT.lt {W : World} (h : GT W) : 0 < W.heap.size := World.block_lt_of_cell? W _ (h 0 _ rfl)
theorem GT.below {W w : World} (h : GT W) {base : Nat} (hb0 : 0 < base) (hb : Below base W w) : GT w := fun i v hv => by
  rw [addr0]
  exact (hb.cell (p := ⟨0, i, none⟩) hb0).trans (by have := h i v hv; rwa [addr0] at this)
/-- May a tap be? -/
def okAt (last x : Itm) : Bool := if x.gap = true then decide (x = gapI) && !decide (last = gapI) else evOk x.ev
def chkL : List Itm → Itm → Bool
  | [], last => !decide (last = gapI)
  | x :: xs, last => okAt last x && chkL xs x
theorem chk_cons (x : Itm) (xs : List Itm) (last : Itm) (h : okAt last x = true) : chkL (x :: xs) last = chkL xs x := by
  show (okAt last x && chkL xs x) = _
  rw [h, Bool.true_and]
theorem chk_no (x : Itm) (xs : List Itm) (last : Itm) (h : okAt last x = false) : chkL (x :: xs) last = false := by
  show (okAt last x && chkL xs x) = _
  rw [h, Bool.false_and]
def tapOk (l : List Itm) : Bool := decide (l.length ≤ 64) && chkL l it0
def ccode (l : List Itm) : Int := if tapOk l = true then 0 else 8
theorem ccode_yes {l : List Itm} (h : tapOk l = true) : ccode l = 0 := if_pos h
theorem ccode_no {l : List Itm} (h : tapOk l = false) : ccode l = 8 := if_neg (by rw [h]; decide)
theorem ia_gap (x : Itm) : (ia x)[0]? = some (.bool x.gap) := by simp [ia, icl]
set_option maxRecDepth 100000 in
theorem built_it0 : Tryd.prog.built 32 [] = some (ia it0) := by kernel_rfl
theorem wl_build0 {ops : Array Oper} {rest : List Oper} {o : Oper} {a : Act} {w : World} {Q : Exit → Act → World → Prop} (hg : o.guard = none) {t : TypeId} (ho : o.op = .build t #[]) {cells : Array Value} (hf : Tryd.prog.built t [] = some cells)
    (h : wpList Tryd.prog ops Q rest (a.put o.dst (.agg cells)) w) : wpList Tryd.prog ops Q (o :: rest) a w := by
  refine wpList_build hg t #[] ho (by simp [hf]) ?_
  simpa [hf] using h
theorem wl_build1 {ops : Array Oper} {rest : List Oper} {o : Oper} {a : Act} {w : World} {Q : Exit → Act → World → Prop} (hg : o.guard = none) {t : TypeId} {i : Nat} {x : Operand} {v : Value} (ho : o.op = .build t #[(i, x)]) (hx : a.eval x = v) {cells : Array Value} (hf : Tryd.prog.built t [(i, v)] = some cells)
    (h : wpList Tryd.prog ops Q rest (a.put o.dst (.agg cells)) w) : wpList Tryd.prog ops Q (o :: rest) a w := by
  refine wpList_build hg t #[(i, x)] ho (by simp [hx, hf]) ?_
  simpa [hx, hf] using h

set_option maxHeartbeats 16000000 in
set_option maxRecDepth 100000 in
theorem check_walk (A : Option Addr) (n c : Nat) (l : List Itm) (lost : Bool) (W : World) (h : Its W A n c l) (hg : GT W) :
    Calls Tryd.prog 15 #[.agg #[.slice A n c, .bool lost]] W fun e W' => e = .returned (.int .i64 (ccode l)) ∧ Below W.heap.size W W' := by
  have HI := Aside0.mk h
  have GG := Aside0.mk hg
  have HB := Aside0.mk (Below.refl W.heap.size W)
  have hmx : n ≤ 9223372036854775807 := by have := h.le; have := h.max; omega
  have HLN := Aside0.mk h.len
  by_cases hn : n ≤ 64
  rotate_left
  · have h64 : (64 : Int) < (n : Int) := by omega
    have h64' : 64 < n := by omega
    have TN : Aside0 (tapOk l = false) := ⟨by unfold tapOk; rw [decide_eq_false (by rw [h.len]; exact hn)]; rfl⟩
    clear h hg hn
    go_enter Tryd.func15, Tryd.ntmps15
    go_wp2_with (
      first
      | ((with_reducible refine gate_dst (N := 1) rfl ?_); refine box_event ?hg (N := 1) ?hd (cs := #[.slice A n c, .bool lost]) (t := 24) ?hr ?_; (case hd => rfl); (case hg => rfl); (case hr => first | (go_simp; done) | (go_simp; rfl)); intro g1 hg w1_ hbox hb; have BK1 := Aside0.mk hbox; have G1 := Aside0.mk (show W.heap.size ≤ g1 by rw [hg]; exact below_size HB.out); have n0 := Aside0.mk (below_step HB.out hb); clear HB; have HB := n0; clear n0; clear hb hbox hg)
      | ((with_reducible refine gate_dst (N := 7) rfl ?_); refine wl_load rfl rfl rfl (load_cell (k := 0) Tryd.underlying22 rfl BK1.out rfl) ?_))
    go_ret
    exact ⟨ret_int (ccode_no TN.out), HB.out⟩
  · have h64 : ¬ (64 : Int) < (n : Int) := by omega
    have TN : Aside0 (tapOk l = chkL l it0) := ⟨by unfold tapOk; rw [decide_eq_true (by rw [h.len]; exact hn)]; rfl⟩
    clear h hg
    go_enter Tryd.func15, Tryd.ntmps15
    go_wp2_with (
      first
      | ((with_reducible refine gate_dst (N := 1) rfl ?_); refine box_event ?hg (N := 1) ?hd (cs := #[.slice A n c, .bool lost]) (t := 24) ?hr ?_; (case hd => rfl); (case hg => rfl); (case hr => first | (go_simp; done) | (go_simp; rfl)); intro g1 hg w1_ hbox hb; have BK1 := Aside0.mk hbox; have G1 := Aside0.mk (show W.heap.size ≤ g1 by rw [hg]; exact below_size HB.out); have n0 := Aside0.mk (below_step HB.out hb); clear HB; have HB := n0; clear n0; clear hb hbox hg)
      | ((with_reducible refine gate_dst (N := 7) rfl ?_); refine wl_load rfl rfl rfl (load_cell (k := 0) Tryd.underlying22 rfl BK1.out rfl) ?_)
      | ((with_reducible refine gate_dst (N := 10) rfl ?_); refine wl_build0 (cells := ia it0) rfl rfl built_it0 ?_)
      | ((with_reducible refine gate_dst (N := 3) rfl ?_); refine box_event ?hg (N := 3) ?hd (cs := ia it0) (t := 32) ?hr ?_; (case hd => rfl); (case hg => rfl); (case hr => first | (go_simp; done) | (go_simp; rfl)); intro g3 hg w2_ hbox hb; have BK3 := Aside0.mk hbox; have G3 := Aside0.mk (show W.heap.size ≤ g3 by rw [hg]; exact below_size HB.out); have N1_3 := Aside0.mk (show g1 ≠ g3 by rw [hg]; exact Nat.ne_of_lt (blk_lt BK1.out)); have n0 := Aside0.mk (below_step HB.out hb); have n1 := Aside0.mk (blk_below BK1.out hb); clear HB BK1; have HB := n0; have BK1 := n1; clear n0 n1; clear hb hbox hg)
      | ((with_reducible refine gate_store (p := 3) rfl ?_); refine row_store rfl size_itm (.tmp 3) (.tmp 10) rfl g3 (ia it0) (ia it0) rfl rfl BK3.out (ia_size hd0_wf) (ia_size hd0_wf) (ia_one _) ?_; intro s3_ bk hoth hbel; have n0 := Aside0.mk (hbel _ _ HB.out G3.out); have n1 := Aside0.mk ((hoth g1 N1_3.out).trans BK1.out); have n2 := Aside0.mk bk; clear HB BK1 BK3; have HB := n0; have BK1 := n1; have BK3 := n2; clear n0 n1 n2; clear bk hoth hbel)
      | ((with_reducible refine gate_dst (N := 12) rfl ?_); refine wl_load rfl rfl rfl (load_cell (k := 0) Tryd.underlying22 rfl BK1.out rfl) ?_))
    go_loopw [14] (fun y wr => ∃ (k : Nat) (last : Itm), k ≤ n ∧ y = .int .i64 (k : Int) ∧ Aside0 (chkL (l.drop k) last = chkL l it0) ∧ Aside0 last.ev.hd.wf ∧ Aside0 (wr.heap[g3]? = some (.cells (ia last) 32 (0, 0))) ∧ Aside0 (Below W.heap.size W wr)) (fun y _ => n - (intOf y).toNat)
    case atStart => exact ⟨0, it0, by omega, rfl, ⟨rfl⟩, ⟨hd0_wf⟩, BK3, HB⟩
    case round =>
      obtain ⟨k, last, hk, rfl, HC, HWL, hb3, hbB⟩ := hrel
      clear BK3 HB
      have BK3 := hb3
      have HB := hbB
      clear hb3 hbB
      by_cases hlt : k < n
      · obtain ⟨x, hx⟩ : ∃ x, l[k]? = some x := ⟨_, List.getElem?_eq_getElem (by rw [HLN.out]; exact hlt)⟩
        obtain ⟨ad, rfl, hlx, hwx⟩ := (HI.out.below HB.out).get hx
        have HD : Aside0 (l.drop k = x :: l.drop (k + 1)) := ⟨by
          obtain ⟨hkl, rfl⟩ := List.getElem?_eq_some_iff.1 hx
          exact List.drop_eq_getElem_cons hkl⟩
        have LX := Aside0.mk hlx
        have HWX := Aside0.mk hwx
        have hix := fun X => idx_its ad n c k hlt X
        have HE0 : Aside0 (∀ w, Calls Tryd.prog 38 #[.agg (ea x.ev)] w fun e W' => e = .returned (.bool (evOk x.ev)) ∧ Below w.heap.size w W') := ⟨fun w => event_walk x.ev HWX.out w⟩
        clear hlx hwx hx
        cases hgap : x.gap with
        | true =>
          have IG : Aside0 ((ia x)[0]? = some (.bool true)) := ⟨by rw [ia_gap, hgap]⟩
          have HE := HE0
          have HGP := Aside0.mk hgap
          clear hgap HE0
          by_cases hxg : x = gapI
          · have HXG : Aside0 (decide (x = gapI) = true) := ⟨decide_eq_true hxg⟩
            by_cases hlg : last = gapI
            · have HLG : Aside0 (decide (last = gapI) = true) := ⟨decide_eq_true hlg⟩
              have OK : Aside0 (okAt last x = false) := ⟨by unfold okAt; rw [if_pos HGP.out, decide_eq_true hlg]; simp⟩
              clear hxg hlg
              go_wp2_with (
                first
                | ((with_reducible refine gate_dst (N := 17) rfl ?_); refine wl_load rfl rfl rfl (load_itm HWX.out LX.out) ?_)
                | ((with_reducible refine gate_dst (N := 5) rfl ?_); refine box_event ?hg (N := 5) ?hd (cs := ia it0) (t := 32) ?hr ?_; (case hd => rfl); (case hg => rfl); (case hr => first | (go_simp; done) | (go_simp; rfl)); intro g5 hg w1_ hbox hb; have BK5 := Aside0.mk hbox; have G5 := Aside0.mk (show W.heap.size ≤ g5 by rw [hg]; exact below_size HB.out); have N3_5 := Aside0.mk (show g3 ≠ g5 by rw [hg]; exact Nat.ne_of_lt (blk_lt BK3.out)); have n0 := Aside0.mk (blk_below BK3.out hb); have n1 := Aside0.mk (below_step HB.out hb); clear BK3 HB; have BK3 := n0; have HB := n1; clear n0 n1; clear hb hbox hg)
                | ((with_reducible refine gate_store (p := 5) rfl ?_); refine row_store rfl size_itm (.tmp 5) (.tmp 17) rfl g5 (ia x) (ia it0) rfl rfl BK5.out (ia_size HWX.out) (ia_size hd0_wf) (ia_one _) ?_; intro s2_ bk hoth hbel; have n0 := Aside0.mk ((hoth g3 N3_5.out).trans BK3.out); have n1 := Aside0.mk (hbel _ _ HB.out G5.out); have n2 := Aside0.mk bk; clear BK3 HB BK5; have BK3 := n0; have HB := n1; have BK5 := n2; clear n0 n1 n2; clear bk hoth hbel)
                | ((with_reducible refine gate_dst (N := 19) rfl ?_); refine wl_load rfl rfl rfl (load_cell (k := 0) Tryd.underlying4 rfl BK5.out IG.out) ?_)
                | ((with_reducible refine gate_dst (N := 21) rfl ?_); refine gate_guard (by rfl) ?_; refine wl_load rfl rfl rfl (load_row Tryd.underlying32 rfl size_itm BK5.out (ia_size HWX.out)) ?_)
                | ((with_reducible refine gate_dst (N := 22) rfl ?_); refine gate_guard (by rfl) ?_; refine wl_load rfl rfl rfl (load_itm (x := gapI) hd0_wf (GG.out.below GG.out.lt HB.out)) ?_)
                | ((with_reducible refine gate_dst (N := 23) rfl ?_); refine gate_guard (by rfl) ?_; refine wl_pure rfl (op_neq_itm (p := .tmp 21) (q := .tmp 22) rfl rfl rfl HWX.out hd0_wf HXG.out) ?_)
                | ((with_reducible refine gate_dst (N := 27) rfl ?_); refine gate_guard (by rfl) ?_; refine wl_pure rfl (op_eql_itm (p := .tmp 25) (q := .tmp 26) rfl rfl rfl HWL.out hd0_wf HLG.out) ?_)
                | ((with_reducible refine gate_dst (N := 25) rfl ?_); refine gate_guard (by rfl) ?_; refine wl_load rfl rfl rfl (load_row Tryd.underlying32 rfl size_itm BK3.out (ia_size HWL.out)) ?_)
                | ((with_reducible refine gate_dst (N := 26) rfl ?_); refine gate_guard (by rfl) ?_; refine wl_load rfl rfl rfl (load_itm (x := gapI) hd0_wf (GG.out.below GG.out.lt HB.out)) ?_)
                | ((with_reducible refine gate_dst (N := 32) rfl ?_); refine gate_guard (by rfl) ?_; refine wl_load rfl rfl rfl (load_cell (k := 0) Tryd.underlying4 rfl BK5.out IG.out) ?_)
                | ((with_reducible refine gate_dst (N := 41) rfl ?_); refine wl_load rfl rfl rfl (load_row Tryd.underlying32 rfl size_itm BK5.out (ia_size HWX.out)) ?_)
                | ((with_reducible refine gate_store (p := 3) rfl ?_); refine row_store rfl size_itm (.tmp 3) (.tmp 41) rfl g3 (ia x) (ia last) rfl rfl BK3.out (ia_size HWX.out) (ia_size HWL.out) (ia_one _) ?_; intro s3_ bk hoth hbel; have n0 := Aside0.mk bk; have n1 := Aside0.mk (hbel _ _ HB.out G3.out); have n2 := Aside0.mk ((hoth g5 (fun e => N3_5.out e.symm)).trans BK5.out); clear BK3 HB BK5; have BK3 := n0; have HB := n1; have BK5 := n2; clear n0 n1 n2; clear bk hoth hbel))
              go_ret
              exact ⟨ret_int (ccode_no (by rw [TN.out, ← HC.out, HD.out]; exact chk_no _ _ _ OK.out)), HB.out⟩
            · have HLG : Aside0 (decide (last = gapI) = false) := ⟨decide_eq_false hlg⟩
              have OK : Aside0 (okAt last x = true) := ⟨by unfold okAt; rw [if_pos HGP.out, decide_eq_false hlg, decide_eq_true hxg]; rfl⟩
              clear hxg hlg
              go_wp2_with (
                first
                | ((with_reducible refine gate_dst (N := 17) rfl ?_); refine wl_load rfl rfl rfl (load_itm HWX.out LX.out) ?_)
                | ((with_reducible refine gate_dst (N := 5) rfl ?_); refine box_event ?hg (N := 5) ?hd (cs := ia it0) (t := 32) ?hr ?_; (case hd => rfl); (case hg => rfl); (case hr => first | (go_simp; done) | (go_simp; rfl)); intro g5 hg w1_ hbox hb; have BK5 := Aside0.mk hbox; have G5 := Aside0.mk (show W.heap.size ≤ g5 by rw [hg]; exact below_size HB.out); have N3_5 := Aside0.mk (show g3 ≠ g5 by rw [hg]; exact Nat.ne_of_lt (blk_lt BK3.out)); have n0 := Aside0.mk (blk_below BK3.out hb); have n1 := Aside0.mk (below_step HB.out hb); clear BK3 HB; have BK3 := n0; have HB := n1; clear n0 n1; clear hb hbox hg)
                | ((with_reducible refine gate_store (p := 5) rfl ?_); refine row_store rfl size_itm (.tmp 5) (.tmp 17) rfl g5 (ia x) (ia it0) rfl rfl BK5.out (ia_size HWX.out) (ia_size hd0_wf) (ia_one _) ?_; intro s2_ bk hoth hbel; have n0 := Aside0.mk ((hoth g3 N3_5.out).trans BK3.out); have n1 := Aside0.mk (hbel _ _ HB.out G5.out); have n2 := Aside0.mk bk; clear BK3 HB BK5; have BK3 := n0; have HB := n1; have BK5 := n2; clear n0 n1 n2; clear bk hoth hbel)
                | ((with_reducible refine gate_dst (N := 19) rfl ?_); refine wl_load rfl rfl rfl (load_cell (k := 0) Tryd.underlying4 rfl BK5.out IG.out) ?_)
                | ((with_reducible refine gate_dst (N := 21) rfl ?_); refine gate_guard (by rfl) ?_; refine wl_load rfl rfl rfl (load_row Tryd.underlying32 rfl size_itm BK5.out (ia_size HWX.out)) ?_)
                | ((with_reducible refine gate_dst (N := 22) rfl ?_); refine gate_guard (by rfl) ?_; refine wl_load rfl rfl rfl (load_itm (x := gapI) hd0_wf (GG.out.below GG.out.lt HB.out)) ?_)
                | ((with_reducible refine gate_dst (N := 23) rfl ?_); refine gate_guard (by rfl) ?_; refine wl_pure rfl (op_neq_itm (p := .tmp 21) (q := .tmp 22) rfl rfl rfl HWX.out hd0_wf HXG.out) ?_)
                | ((with_reducible refine gate_dst (N := 27) rfl ?_); refine gate_guard (by rfl) ?_; refine wl_pure rfl (op_eql_itm (p := .tmp 25) (q := .tmp 26) rfl rfl rfl HWL.out hd0_wf HLG.out) ?_)
                | ((with_reducible refine gate_dst (N := 25) rfl ?_); refine gate_guard (by rfl) ?_; refine wl_load rfl rfl rfl (load_row Tryd.underlying32 rfl size_itm BK3.out (ia_size HWL.out)) ?_)
                | ((with_reducible refine gate_dst (N := 26) rfl ?_); refine gate_guard (by rfl) ?_; refine wl_load rfl rfl rfl (load_itm (x := gapI) hd0_wf (GG.out.below GG.out.lt HB.out)) ?_)
                | ((with_reducible refine gate_dst (N := 32) rfl ?_); refine gate_guard (by rfl) ?_; refine wl_load rfl rfl rfl (load_cell (k := 0) Tryd.underlying4 rfl BK5.out IG.out) ?_)
                | ((with_reducible refine gate_dst (N := 41) rfl ?_); refine wl_load rfl rfl rfl (load_row Tryd.underlying32 rfl size_itm BK5.out (ia_size HWX.out)) ?_)
                | ((with_reducible refine gate_store (p := 3) rfl ?_); refine row_store rfl size_itm (.tmp 3) (.tmp 41) rfl g3 (ia x) (ia last) rfl rfl BK3.out (ia_size HWX.out) (ia_size HWL.out) (ia_one _) ?_; intro s3_ bk hoth hbel; have n0 := Aside0.mk bk; have n1 := Aside0.mk (hbel _ _ HB.out G3.out); have n2 := Aside0.mk ((hoth g5 (fun e => N3_5.out e.symm)).trans BK5.out); clear BK3 HB BK5; have BK3 := n0; have HB := n1; have BK5 := n2; clear n0 n1 n2; clear bk hoth hbel))
              exact ⟨⟨k + 1, x, by omega, by simp, ⟨by rw [← HC.out, HD.out]; exact (chk_cons _ _ _ OK.out).symm⟩, HWX, BK3, HB⟩, by simp [intOf]; omega⟩
          · have HXG : Aside0 (decide (x = gapI) = false) := ⟨decide_eq_false hxg⟩
            have OK : Aside0 (okAt last x = false) := ⟨by unfold okAt; rw [if_pos HGP.out, decide_eq_false hxg]; rfl⟩
            clear hxg
            go_wp2_with (
              first
              | ((with_reducible refine gate_dst (N := 17) rfl ?_); refine wl_load rfl rfl rfl (load_itm HWX.out LX.out) ?_)
              | ((with_reducible refine gate_dst (N := 5) rfl ?_); refine box_event ?hg (N := 5) ?hd (cs := ia it0) (t := 32) ?hr ?_; (case hd => rfl); (case hg => rfl); (case hr => first | (go_simp; done) | (go_simp; rfl)); intro g5 hg w1_ hbox hb; have BK5 := Aside0.mk hbox; have G5 := Aside0.mk (show W.heap.size ≤ g5 by rw [hg]; exact below_size HB.out); have N3_5 := Aside0.mk (show g3 ≠ g5 by rw [hg]; exact Nat.ne_of_lt (blk_lt BK3.out)); have n0 := Aside0.mk (blk_below BK3.out hb); have n1 := Aside0.mk (below_step HB.out hb); clear BK3 HB; have BK3 := n0; have HB := n1; clear n0 n1; clear hb hbox hg)
              | ((with_reducible refine gate_store (p := 5) rfl ?_); refine row_store rfl size_itm (.tmp 5) (.tmp 17) rfl g5 (ia x) (ia it0) rfl rfl BK5.out (ia_size HWX.out) (ia_size hd0_wf) (ia_one _) ?_; intro s2_ bk hoth hbel; have n0 := Aside0.mk ((hoth g3 N3_5.out).trans BK3.out); have n1 := Aside0.mk (hbel _ _ HB.out G5.out); have n2 := Aside0.mk bk; clear BK3 HB BK5; have BK3 := n0; have HB := n1; have BK5 := n2; clear n0 n1 n2; clear bk hoth hbel)
              | ((with_reducible refine gate_dst (N := 19) rfl ?_); refine wl_load rfl rfl rfl (load_cell (k := 0) Tryd.underlying4 rfl BK5.out IG.out) ?_)
              | ((with_reducible refine gate_dst (N := 21) rfl ?_); refine gate_guard (by rfl) ?_; refine wl_load rfl rfl rfl (load_row Tryd.underlying32 rfl size_itm BK5.out (ia_size HWX.out)) ?_)
              | ((with_reducible refine gate_dst (N := 22) rfl ?_); refine gate_guard (by rfl) ?_; refine wl_load rfl rfl rfl (load_itm (x := gapI) hd0_wf (GG.out.below GG.out.lt HB.out)) ?_)
              | ((with_reducible refine gate_dst (N := 23) rfl ?_); refine gate_guard (by rfl) ?_; refine wl_pure rfl (op_neq_itm (p := .tmp 21) (q := .tmp 22) rfl rfl rfl HWX.out hd0_wf HXG.out) ?_)
              | ((with_reducible refine gate_dst (N := 41) rfl ?_); refine wl_load rfl rfl rfl (load_row Tryd.underlying32 rfl size_itm BK5.out (ia_size HWX.out)) ?_)
              | ((with_reducible refine gate_store (p := 3) rfl ?_); refine row_store rfl size_itm (.tmp 3) (.tmp 41) rfl g3 (ia x) (ia last) rfl rfl BK3.out (ia_size HWX.out) (ia_size HWL.out) (ia_one _) ?_; intro s3_ bk hoth hbel; have n0 := Aside0.mk bk; have n1 := Aside0.mk (hbel _ _ HB.out G3.out); have n2 := Aside0.mk ((hoth g5 (fun e => N3_5.out e.symm)).trans BK5.out); clear BK3 HB BK5; have BK3 := n0; have HB := n1; have BK5 := n2; clear n0 n1 n2; clear bk hoth hbel))
            go_ret
            exact ⟨ret_int (ccode_no (by rw [TN.out, ← HC.out, HD.out]; exact chk_no _ _ _ OK.out)), HB.out⟩
        | false =>
          have IG : Aside0 ((ia x)[0]? = some (.bool false)) := ⟨by rw [ia_gap, hgap]⟩
          cases hev : evOk x.ev with
          | true =>
            have HE := HE0
            rw [hev] at HE
            have OK : Aside0 (okAt last x = true) := ⟨by unfold okAt; rw [if_neg (by rw [hgap]; decide)]; exact hev⟩
            clear hgap hev HE0
            go_wp2_with (
              first
              | ((with_reducible refine gate_dst (N := 17) rfl ?_); refine wl_load rfl rfl rfl (load_itm HWX.out LX.out) ?_)
              | ((with_reducible refine gate_dst (N := 5) rfl ?_); refine box_event ?hg (N := 5) ?hd (cs := ia it0) (t := 32) ?hr ?_; (case hd => rfl); (case hg => rfl); (case hr => first | (go_simp; done) | (go_simp; rfl)); intro g5 hg w1_ hbox hb; have BK5 := Aside0.mk hbox; have G5 := Aside0.mk (show W.heap.size ≤ g5 by rw [hg]; exact below_size HB.out); have N3_5 := Aside0.mk (show g3 ≠ g5 by rw [hg]; exact Nat.ne_of_lt (blk_lt BK3.out)); have n0 := Aside0.mk (blk_below BK3.out hb); have n1 := Aside0.mk (below_step HB.out hb); clear BK3 HB; have BK3 := n0; have HB := n1; clear n0 n1; clear hb hbox hg)
              | ((with_reducible refine gate_store (p := 5) rfl ?_); refine row_store rfl size_itm (.tmp 5) (.tmp 17) rfl g5 (ia x) (ia it0) rfl rfl BK5.out (ia_size HWX.out) (ia_size hd0_wf) (ia_one _) ?_; intro s2_ bk hoth hbel; have n0 := Aside0.mk ((hoth g3 N3_5.out).trans BK3.out); have n1 := Aside0.mk (hbel _ _ HB.out G5.out); have n2 := Aside0.mk bk; clear BK3 HB BK5; have BK3 := n0; have HB := n1; have BK5 := n2; clear n0 n1 n2; clear bk hoth hbel)
              | ((with_reducible refine gate_dst (N := 19) rfl ?_); refine wl_load rfl rfl rfl (load_cell (k := 0) Tryd.underlying4 rfl BK5.out IG.out) ?_)
              | ((with_reducible refine gate_dst (N := 32) rfl ?_); refine gate_guard (by rfl) ?_; refine wl_load rfl rfl rfl (load_cell (k := 0) Tryd.underlying4 rfl BK5.out IG.out) ?_)
              | ((with_reducible refine gate_dst (N := 36) rfl ?_); refine gate_guard (by rfl) ?_; refine wl_load rfl rfl rfl (load_evt (x := x.ev) HWX.out (blk_ev BK5.out)) ?_)
              | (go_at_call 38; (with_reducible refine (HE.out _).mono ?_); rintro e w3_ ⟨rfl, hb⟩; have n0 := Aside0.mk (blk_below BK3.out hb); have n1 := Aside0.mk (below_step HB.out hb); have n2 := Aside0.mk (blk_below BK5.out hb); clear BK3 HB BK5; have BK3 := n0; have HB := n1; have BK5 := n2; clear n0 n1 n2; clear hb)
              | ((with_reducible refine gate_dst (N := 41) rfl ?_); refine wl_load rfl rfl rfl (load_row Tryd.underlying32 rfl size_itm BK5.out (ia_size HWX.out)) ?_)
              | ((with_reducible refine gate_store (p := 3) rfl ?_); refine row_store rfl size_itm (.tmp 3) (.tmp 41) rfl g3 (ia x) (ia last) rfl rfl BK3.out (ia_size HWX.out) (ia_size HWL.out) (ia_one _) ?_; intro s4_ bk hoth hbel; have n0 := Aside0.mk bk; have n1 := Aside0.mk (hbel _ _ HB.out G3.out); have n2 := Aside0.mk ((hoth g5 (fun e => N3_5.out e.symm)).trans BK5.out); clear BK3 HB BK5; have BK3 := n0; have HB := n1; have BK5 := n2; clear n0 n1 n2; clear bk hoth hbel))
            exact ⟨⟨k + 1, x, by omega, by simp, ⟨by rw [← HC.out, HD.out]; exact (chk_cons _ _ _ OK.out).symm⟩, HWX, BK3, HB⟩, by simp [intOf]; omega⟩
          | false =>
            have HE := HE0
            rw [hev] at HE
            have OK : Aside0 (okAt last x = false) := ⟨by unfold okAt; rw [if_neg (by rw [hgap]; decide)]; exact hev⟩
            clear hgap hev HE0
            go_wp2_with (
              first
              | ((with_reducible refine gate_dst (N := 17) rfl ?_); refine wl_load rfl rfl rfl (load_itm HWX.out LX.out) ?_)
              | ((with_reducible refine gate_dst (N := 5) rfl ?_); refine box_event ?hg (N := 5) ?hd (cs := ia it0) (t := 32) ?hr ?_; (case hd => rfl); (case hg => rfl); (case hr => first | (go_simp; done) | (go_simp; rfl)); intro g5 hg w1_ hbox hb; have BK5 := Aside0.mk hbox; have G5 := Aside0.mk (show W.heap.size ≤ g5 by rw [hg]; exact below_size HB.out); have N3_5 := Aside0.mk (show g3 ≠ g5 by rw [hg]; exact Nat.ne_of_lt (blk_lt BK3.out)); have n0 := Aside0.mk (blk_below BK3.out hb); have n1 := Aside0.mk (below_step HB.out hb); clear BK3 HB; have BK3 := n0; have HB := n1; clear n0 n1; clear hb hbox hg)
              | ((with_reducible refine gate_store (p := 5) rfl ?_); refine row_store rfl size_itm (.tmp 5) (.tmp 17) rfl g5 (ia x) (ia it0) rfl rfl BK5.out (ia_size HWX.out) (ia_size hd0_wf) (ia_one _) ?_; intro s2_ bk hoth hbel; have n0 := Aside0.mk ((hoth g3 N3_5.out).trans BK3.out); have n1 := Aside0.mk (hbel _ _ HB.out G5.out); have n2 := Aside0.mk bk; clear BK3 HB BK5; have BK3 := n0; have HB := n1; have BK5 := n2; clear n0 n1 n2; clear bk hoth hbel)
              | ((with_reducible refine gate_dst (N := 19) rfl ?_); refine wl_load rfl rfl rfl (load_cell (k := 0) Tryd.underlying4 rfl BK5.out IG.out) ?_)
              | ((with_reducible refine gate_dst (N := 32) rfl ?_); refine gate_guard (by rfl) ?_; refine wl_load rfl rfl rfl (load_cell (k := 0) Tryd.underlying4 rfl BK5.out IG.out) ?_)
              | ((with_reducible refine gate_dst (N := 36) rfl ?_); refine gate_guard (by rfl) ?_; refine wl_load rfl rfl rfl (load_evt (x := x.ev) HWX.out (blk_ev BK5.out)) ?_)
              | (go_at_call 38; (with_reducible refine (HE.out _).mono ?_); rintro e w3_ ⟨rfl, hb⟩; have n0 := Aside0.mk (blk_below BK3.out hb); have n1 := Aside0.mk (below_step HB.out hb); have n2 := Aside0.mk (blk_below BK5.out hb); clear BK3 HB BK5; have BK3 := n0; have HB := n1; have BK5 := n2; clear n0 n1 n2; clear hb)
              | ((with_reducible refine gate_dst (N := 41) rfl ?_); refine wl_load rfl rfl rfl (load_row Tryd.underlying32 rfl size_itm BK5.out (ia_size HWX.out)) ?_)
              | ((with_reducible refine gate_store (p := 3) rfl ?_); refine row_store rfl size_itm (.tmp 3) (.tmp 41) rfl g3 (ia x) (ia last) rfl rfl BK3.out (ia_size HWX.out) (ia_size HWL.out) (ia_one _) ?_; intro s4_ bk hoth hbel; have n0 := Aside0.mk bk; have n1 := Aside0.mk (hbel _ _ HB.out G3.out); have n2 := Aside0.mk ((hoth g5 (fun e => N3_5.out e.symm)).trans BK5.out); clear BK3 HB BK5; have BK3 := n0; have HB := n1; have BK5 := n2; clear n0 n1 n2; clear bk hoth hbel))
            go_ret
            exact ⟨ret_int (ccode_no (by rw [TN.out, ← HC.out, HD.out]; exact chk_no _ _ _ OK.out)), HB.out⟩
      · have HD : Aside0 (l.drop k = []) := ⟨List.drop_of_length_le (by rw [HLN.out]; omega)⟩
        by_cases hlg : last = gapI
        · have HLG : Aside0 (decide (last = gapI) = true) := ⟨decide_eq_true hlg⟩
          have TF : Aside0 (tapOk l = false) := ⟨by rw [TN.out, ← HC.out, HD.out]; unfold chkL; rw [decide_eq_true hlg]; rfl⟩
          clear hlg
          go_wp2_with (
            first
            | ((with_reducible refine gate_dst (N := 43) rfl ?_); refine wl_load rfl rfl rfl (load_row Tryd.underlying32 rfl size_itm BK3.out (ia_size HWL.out)) ?_)
            | ((with_reducible refine gate_dst (N := 45) rfl ?_); refine wl_pure rfl (op_eql_itm (p := .tmp 43) (q := .tmp 44) rfl rfl rfl HWL.out hd0_wf HLG.out) ?_)
            | ((with_reducible refine gate_dst (N := 44) rfl ?_); refine wl_load rfl rfl rfl (load_itm (x := gapI) hd0_wf (GG.out.below GG.out.lt HB.out)) ?_))
          go_ret
          exact ⟨ret_int (ccode_no TF.out), HB.out⟩
        · have HLG : Aside0 (decide (last = gapI) = false) := ⟨decide_eq_false hlg⟩
          have TF : Aside0 (tapOk l = true) := ⟨by rw [TN.out, ← HC.out, HD.out]; unfold chkL; rw [decide_eq_false hlg]; rfl⟩
          clear hlg
          go_wp2_with (
            first
            | ((with_reducible refine gate_dst (N := 43) rfl ?_); refine wl_load rfl rfl rfl (load_row Tryd.underlying32 rfl size_itm BK3.out (ia_size HWL.out)) ?_)
            | ((with_reducible refine gate_dst (N := 45) rfl ?_); refine wl_pure rfl (op_eql_itm (p := .tmp 43) (q := .tmp 44) rfl rfl rfl HWL.out hd0_wf HLG.out) ?_)
            | ((with_reducible refine gate_dst (N := 44) rfl ?_); refine wl_load rfl rfl rfl (load_itm (x := gapI) hd0_wf (GG.out.below GG.out.lt HB.out)) ?_))
          go_ret
          exact ⟨ret_int (ccode_yes TF.out), HB.out⟩

end Go.Proofs.YtkkkjidbakmjdaaDoor.Q
