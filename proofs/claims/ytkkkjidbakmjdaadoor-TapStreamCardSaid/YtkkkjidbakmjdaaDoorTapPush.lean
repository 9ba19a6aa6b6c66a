/-
  tap.Push: walk (written by wip/tools/gen_tappush.py).
-/
import Derived.Test.YtkkkjidbakmjdaaDoorTapBuild
namespace Go.Proofs.YtkkkjidbakmjdaaDoor.Q
open Go.RowKit Go.Proofs.YtkkkjidbakmjdaaDoorW.PrintWords Go.Proofs.YtkkkjidbakmjdaaDoorW.PrintLast Go.Proofs.YtkkkjidbakmjdaaDoorW.PrintMore
set_option linter.unusedVariables false
set_option linter.unusedSimpArgs false

/-- A tap with an event more, or lost; and the code. -/
structure Tp where
  its : List Itm
  lost : Bool
  deriving DecidableEq
def withP (t : Tp) (room : Int) (e : Evt) : Tp :=
  if t.lost = true ∧ 2 ≤ room - t.its.length then ⟨t.its ++ [gapI, ⟨false, e⟩], false⟩
  else if t.lost = false ∧ 1 ≤ room - t.its.length then ⟨t.its ++ [⟨false, e⟩], false⟩
  else ⟨t.its, true⟩
def pushP (t : Tp) (room : Int) (e : Evt) : Tp × Int :=
  if tapOk t.its = true ∧ evOk e = true then (if 1 ≤ room ∧ room ≤ 64 then (withP t room e, 0) else (⟨[], false⟩, 2)) else (⟨[], false⟩, 8)
def tapV (A : Option Addr) (n c : Nat) (lost : Bool) : Value := .agg #[.slice A n c, .bool lost]

set_option maxHeartbeats 16000000 in
set_option maxRecDepth 100000 in
theorem push_bad (A : Option Addr) (n c : Nat) (l : List Itm) (lost : Bool) (room : Int) (e : Evt) (W : World) (h : Its W A n c l) (hg : GT W) (he : e.hd.wf) (hb : tapOk l = false ∨ tapOk l = true ∧ evOk e = false) :
    Calls Tryd.prog 11 #[.agg #[.slice A n c, .bool lost], .int .i64 room, .agg (ea e)] W fun x W' => ∃ v, x = .returned (.tuple #[.agg #[v, .bool (pushP ⟨l, lost⟩ room e).1.lost], .int .i64 (pushP ⟨l, lost⟩ room e).2]) ∧ W'.ownsRow W.heap.size 32 101 v (pushP ⟨l, lost⟩ room e).1.its.length (flatI (pushP ⟨l, lost⟩ room e).1.its) ∧ Below W.heap.size W W' := by
  have ep : pushP ⟨l, lost⟩ room e = (⟨[], false⟩, 8) := by
    unfold pushP
    rw [if_neg (by rcases hb with hb | ⟨_, hb⟩ <;> simp [hb])]
  rw [ep]
  have IT := Aside0.mk h
  have GG := Aside0.mk hg
  have HE := Aside0.mk he
  have HB := Aside0.mk (Below.refl W.heap.size W)
  have HLN := Aside0.mk h.len
  have HCK : Aside0 (∀ w, Below W.heap.size W w → Calls Tryd.prog 15 #[.agg #[.slice A n c, .bool lost]] w fun x W' => x = .returned (.int .i64 (ccode l)) ∧ Below w.heap.size w W') := ⟨fun w hw => check_walk A n c l lost w (IT.out.below hw) (GG.out.below GG.out.lt hw)⟩
  have HEV : Aside0 (∀ w, Calls Tryd.prog 38 #[.agg (ea e)] w fun x W' => x = .returned (.bool (evOk e)) ∧ Below w.heap.size w W') := ⟨fun w => event_walk e HE.out w⟩
  clear h hg he ep
  rcases hb with hb | ⟨hb1, hb2⟩
  · rw [ccode_no hb] at HCK
    clear hb
    go_enter Tryd.func11, Tryd.ntmps11
    go_wp2_with (
      first
      | ((with_reducible refine gate_dst (N := 3) rfl ?_); refine box_event ?hg (N := 3) ?hd (cs := #[.slice A n c, .bool lost]) (t := 24) ?hr ?_; (case hd => rfl); (case hg => rfl); (case hr => first | (go_simp; done) | (go_simp; rfl)); intro g3 hg w1_ hbox hb; have BK3 := Aside0.mk hbox; have G3 := Aside0.mk (show W.heap.size ≤ g3 by rw [hg]; exact below_size HB.out); have n0 := Aside0.mk (below_step HB.out hb); clear HB; have HB := n0; clear n0; clear hb hbox hg)
      | ((with_reducible refine gate_dst (N := 5) rfl ?_); refine box_event ?hg (N := 5) ?hd (cs := ea e) (t := 30) ?hr ?_; (case hd => rfl); (case hg => rfl); (case hr => first | (go_simp; done) | (go_simp; rfl)); intro g5 hg w2_ hbox hb; have BK5 := Aside0.mk hbox; have G5 := Aside0.mk (show W.heap.size ≤ g5 by rw [hg]; exact below_size HB.out); have N3_5 := Aside0.mk (show g3 ≠ g5 by rw [hg]; exact Nat.ne_of_lt (blk_lt BK3.out)); have n0 := Aside0.mk (below_step HB.out hb); have n1 := Aside0.mk (blk_below BK3.out hb); clear HB BK3; have HB := n0; have BK3 := n1; clear n0 n1; clear hb hbox hg)
      | ((with_reducible refine gate_dst (N := 6) rfl ?_); refine box_event ?hg (N := 6) ?hd (cs := #[.slice none 0 0, .bool false]) (t := 24) ?hr ?_; (case hd => rfl); (case hg => rfl); (case hr => first | (go_simp; done) | (go_simp; rfl)); intro g6 hg w3_ hbox hb; have BK6 := Aside0.mk hbox; have G6 := Aside0.mk (show W.heap.size ≤ g6 by rw [hg]; exact below_size HB.out); have N3_6 := Aside0.mk (show g3 ≠ g6 by rw [hg]; exact Nat.ne_of_lt (blk_lt BK3.out)); have N5_6 := Aside0.mk (show g5 ≠ g6 by rw [hg]; exact Nat.ne_of_lt (blk_lt BK5.out)); have n0 := Aside0.mk (below_step HB.out hb); have n1 := Aside0.mk (blk_below BK3.out hb); have n2 := Aside0.mk (blk_below BK5.out hb); clear HB BK3 BK5; have HB := n0; have BK3 := n1; have BK5 := n2; clear n0 n1 n2; clear hb hbox hg)
      | ((with_reducible refine gate_dst (N := 13) rfl ?_); refine wl_load rfl rfl rfl (load_cell (k := 0) Tryd.underlying22 rfl BK3.out rfl) ?_)
      | ((with_reducible refine gate_dst (N := 16) rfl ?_); refine wl_load rfl rfl rfl (load_row Tryd.underlying30 rfl size_evt BK5.out (ea_size HE.out)) ?_)
      | ((with_reducible refine gate_dst (N := 17) rfl ?_); refine wl_build1 (v := .agg (ea e)) (cells := ia ⟨false, e⟩) rfl rfl rfl (built_itm e HE.out) ?_)
      | ((with_reducible refine gate_dst (N := 9) rfl ?_); refine box_event ?hg (N := 9) ?hd (cs := ia it0) (t := 32) ?hr ?_; (case hd => rfl); (case hg => rfl); (case hr => first | (go_simp; done) | (go_simp; rfl)); intro g9 hg w4_ hbox hb; have BK9 := Aside0.mk hbox; have G9 := Aside0.mk (show W.heap.size ≤ g9 by rw [hg]; exact below_size HB.out); have N3_9 := Aside0.mk (show g3 ≠ g9 by rw [hg]; exact Nat.ne_of_lt (blk_lt BK3.out)); have N5_9 := Aside0.mk (show g5 ≠ g9 by rw [hg]; exact Nat.ne_of_lt (blk_lt BK5.out)); have N6_9 := Aside0.mk (show g6 ≠ g9 by rw [hg]; exact Nat.ne_of_lt (blk_lt BK6.out)); have n0 := Aside0.mk (below_step HB.out hb); have n1 := Aside0.mk (blk_below BK3.out hb); have n2 := Aside0.mk (blk_below BK5.out hb); have n3 := Aside0.mk (blk_below BK6.out hb); clear HB BK3 BK5 BK6; have HB := n0; have BK3 := n1; have BK5 := n2; have BK6 := n3; clear n0 n1 n2 n3; clear hb hbox hg)
      | ((with_reducible refine gate_store (p := 9) rfl ?_); refine row_store rfl size_itm (.tmp 9) (.tmp 17) rfl g9 (ia ⟨false, e⟩) (ia it0) rfl rfl BK9.out (ia_size (x := ⟨false, e⟩) HE.out) (ia_size hd0_wf) (ia_one _) ?_; intro s5_ bk hoth hbel; have n0 := Aside0.mk (hbel _ _ HB.out G9.out); have n1 := Aside0.mk ((hoth g3 N3_9.out).trans BK3.out); have n2 := Aside0.mk ((hoth g5 N5_9.out).trans BK5.out); have n3 := Aside0.mk ((hoth g6 N6_9.out).trans BK6.out); have n4 := Aside0.mk bk; clear HB BK3 BK5 BK6 BK9; have HB := n0; have BK3 := n1; have BK5 := n2; have BK6 := n3; have BK9 := n4; clear n0 n1 n2 n3 n4; clear bk hoth hbel)
      | ((with_reducible refine gate_dst (N := 19) rfl ?_); refine wl_load rfl rfl rfl (load_row Tryd.underlying24 rfl size_tap BK3.out (rfl)) ?_)
      | (go_at_call 15; (with_reducible refine (HCK.out _ HB.out).mono ?_); rintro e w6_ ⟨rfl, hb⟩; have n0 := Aside0.mk (below_step HB.out hb); have n1 := Aside0.mk (blk_below BK3.out hb); have n2 := Aside0.mk (blk_below BK5.out hb); have n3 := Aside0.mk (blk_below BK6.out hb); have n4 := Aside0.mk (blk_below BK9.out hb); clear HB BK3 BK5 BK6 BK9; have HB := n0; have BK3 := n1; have BK5 := n2; have BK6 := n3; have BK9 := n4; clear n0 n1 n2 n3 n4; clear hb)
      | ((with_reducible refine gate_store (p := 6) rfl ?_); refine row_store rfl size_tap (.tmp 6) (.tmp 27) rfl g6 (#[.slice none 0 0, .bool false]) (#[.slice none 0 0, .bool false]) rfl rfl BK6.out (rfl) (rfl) (tap_one _ _ _ _) ?_; intro s7_ bk hoth hbel; have n0 := Aside0.mk (hbel _ _ HB.out G6.out); have n1 := Aside0.mk ((hoth g3 N3_6.out).trans BK3.out); have n2 := Aside0.mk ((hoth g5 N5_6.out).trans BK5.out); have n3 := Aside0.mk bk; have n4 := Aside0.mk ((hoth g9 (fun e => N6_9.out e.symm)).trans BK9.out); clear HB BK3 BK5 BK6 BK9; have HB := n0; have BK3 := n1; have BK5 := n2; have BK6 := n3; have BK9 := n4; clear n0 n1 n2 n3 n4; clear bk hoth hbel))
    refine bodyPost_ret (results_ct rfl _ _ g6 24 #[.slice none 0 0, .bool false] (0, 0) _ rfl BK6.out Tryd.underlying24 rfl size_tap) rfl ?_
    exact ⟨_, rfl, own_nil _ _ _ _, HB.out⟩
  · rw [ccode_yes hb1] at HCK
    rw [hb2] at HEV
    clear hb1 hb2
    go_enter Tryd.func11, Tryd.ntmps11
    go_wp2_with (
      first
      | ((with_reducible refine gate_dst (N := 3) rfl ?_); refine box_event ?hg (N := 3) ?hd (cs := #[.slice A n c, .bool lost]) (t := 24) ?hr ?_; (case hd => rfl); (case hg => rfl); (case hr => first | (go_simp; done) | (go_simp; rfl)); intro g3 hg w1_ hbox hb; have BK3 := Aside0.mk hbox; have G3 := Aside0.mk (show W.heap.size ≤ g3 by rw [hg]; exact below_size HB.out); have n0 := Aside0.mk (below_step HB.out hb); clear HB; have HB := n0; clear n0; clear hb hbox hg)
      | ((with_reducible refine gate_dst (N := 5) rfl ?_); refine box_event ?hg (N := 5) ?hd (cs := ea e) (t := 30) ?hr ?_; (case hd => rfl); (case hg => rfl); (case hr => first | (go_simp; done) | (go_simp; rfl)); intro g5 hg w2_ hbox hb; have BK5 := Aside0.mk hbox; have G5 := Aside0.mk (show W.heap.size ≤ g5 by rw [hg]; exact below_size HB.out); have N3_5 := Aside0.mk (show g3 ≠ g5 by rw [hg]; exact Nat.ne_of_lt (blk_lt BK3.out)); have n0 := Aside0.mk (below_step HB.out hb); have n1 := Aside0.mk (blk_below BK3.out hb); clear HB BK3; have HB := n0; have BK3 := n1; clear n0 n1; clear hb hbox hg)
      | ((with_reducible refine gate_dst (N := 6) rfl ?_); refine box_event ?hg (N := 6) ?hd (cs := #[.slice none 0 0, .bool false]) (t := 24) ?hr ?_; (case hd => rfl); (case hg => rfl); (case hr => first | (go_simp; done) | (go_simp; rfl)); intro g6 hg w3_ hbox hb; have BK6 := Aside0.mk hbox; have G6 := Aside0.mk (show W.heap.size ≤ g6 by rw [hg]; exact below_size HB.out); have N3_6 := Aside0.mk (show g3 ≠ g6 by rw [hg]; exact Nat.ne_of_lt (blk_lt BK3.out)); have N5_6 := Aside0.mk (show g5 ≠ g6 by rw [hg]; exact Nat.ne_of_lt (blk_lt BK5.out)); have n0 := Aside0.mk (below_step HB.out hb); have n1 := Aside0.mk (blk_below BK3.out hb); have n2 := Aside0.mk (blk_below BK5.out hb); clear HB BK3 BK5; have HB := n0; have BK3 := n1; have BK5 := n2; clear n0 n1 n2; clear hb hbox hg)
      | ((with_reducible refine gate_dst (N := 13) rfl ?_); refine wl_load rfl rfl rfl (load_cell (k := 0) Tryd.underlying22 rfl BK3.out rfl) ?_)
      | ((with_reducible refine gate_dst (N := 16) rfl ?_); refine wl_load rfl rfl rfl (load_row Tryd.underlying30 rfl size_evt BK5.out (ea_size HE.out)) ?_)
      | ((with_reducible refine gate_dst (N := 17) rfl ?_); refine wl_build1 (v := .agg (ea e)) (cells := ia ⟨false, e⟩) rfl rfl rfl (built_itm e HE.out) ?_)
      | ((with_reducible refine gate_dst (N := 9) rfl ?_); refine box_event ?hg (N := 9) ?hd (cs := ia it0) (t := 32) ?hr ?_; (case hd => rfl); (case hg => rfl); (case hr => first | (go_simp; done) | (go_simp; rfl)); intro g9 hg w4_ hbox hb; have BK9 := Aside0.mk hbox; have G9 := Aside0.mk (show W.heap.size ≤ g9 by rw [hg]; exact below_size HB.out); have N3_9 := Aside0.mk (show g3 ≠ g9 by rw [hg]; exact Nat.ne_of_lt (blk_lt BK3.out)); have N5_9 := Aside0.mk (show g5 ≠ g9 by rw [hg]; exact Nat.ne_of_lt (blk_lt BK5.out)); have N6_9 := Aside0.mk (show g6 ≠ g9 by rw [hg]; exact Nat.ne_of_lt (blk_lt BK6.out)); have n0 := Aside0.mk (below_step HB.out hb); have n1 := Aside0.mk (blk_below BK3.out hb); have n2 := Aside0.mk (blk_below BK5.out hb); have n3 := Aside0.mk (blk_below BK6.out hb); clear HB BK3 BK5 BK6; have HB := n0; have BK3 := n1; have BK5 := n2; have BK6 := n3; clear n0 n1 n2 n3; clear hb hbox hg)
      | ((with_reducible refine gate_store (p := 9) rfl ?_); refine row_store rfl size_itm (.tmp 9) (.tmp 17) rfl g9 (ia ⟨false, e⟩) (ia it0) rfl rfl BK9.out (ia_size (x := ⟨false, e⟩) HE.out) (ia_size hd0_wf) (ia_one _) ?_; intro s5_ bk hoth hbel; have n0 := Aside0.mk (hbel _ _ HB.out G9.out); have n1 := Aside0.mk ((hoth g3 N3_9.out).trans BK3.out); have n2 := Aside0.mk ((hoth g5 N5_9.out).trans BK5.out); have n3 := Aside0.mk ((hoth g6 N6_9.out).trans BK6.out); have n4 := Aside0.mk bk; clear HB BK3 BK5 BK6 BK9; have HB := n0; have BK3 := n1; have BK5 := n2; have BK6 := n3; have BK9 := n4; clear n0 n1 n2 n3 n4; clear bk hoth hbel)
      | ((with_reducible refine gate_dst (N := 19) rfl ?_); refine wl_load rfl rfl rfl (load_row Tryd.underlying24 rfl size_tap BK3.out (rfl)) ?_)
      | (go_at_call 15; (with_reducible refine (HCK.out _ HB.out).mono ?_); rintro e w6_ ⟨rfl, hb⟩; have n0 := Aside0.mk (below_step HB.out hb); have n1 := Aside0.mk (blk_below BK3.out hb); have n2 := Aside0.mk (blk_below BK5.out hb); have n3 := Aside0.mk (blk_below BK6.out hb); have n4 := Aside0.mk (blk_below BK9.out hb); clear HB BK3 BK5 BK6 BK9; have HB := n0; have BK3 := n1; have BK5 := n2; have BK6 := n3; have BK9 := n4; clear n0 n1 n2 n3 n4; clear hb)
      | ((with_reducible refine gate_dst (N := 23) rfl ?_); refine gate_guard (by rfl) ?_; refine wl_load rfl rfl rfl (load_row Tryd.underlying30 rfl size_evt BK5.out (ea_size HE.out)) ?_)
      | (go_at_call 38; (with_reducible refine (HEV.out _).mono ?_); rintro e w7_ ⟨rfl, hb⟩; have n0 := Aside0.mk (below_step HB.out hb); have n1 := Aside0.mk (blk_below BK3.out hb); have n2 := Aside0.mk (blk_below BK5.out hb); have n3 := Aside0.mk (blk_below BK6.out hb); have n4 := Aside0.mk (blk_below BK9.out hb); clear HB BK3 BK5 BK6 BK9; have HB := n0; have BK3 := n1; have BK5 := n2; have BK6 := n3; have BK9 := n4; clear n0 n1 n2 n3 n4; clear hb)
      | ((with_reducible refine gate_store (p := 6) rfl ?_); refine row_store rfl size_tap (.tmp 6) (.tmp 27) rfl g6 (#[.slice none 0 0, .bool false]) (#[.slice none 0 0, .bool false]) rfl rfl BK6.out (rfl) (rfl) (tap_one _ _ _ _) ?_; intro s8_ bk hoth hbel; have n0 := Aside0.mk (hbel _ _ HB.out G6.out); have n1 := Aside0.mk ((hoth g3 N3_6.out).trans BK3.out); have n2 := Aside0.mk ((hoth g5 N5_6.out).trans BK5.out); have n3 := Aside0.mk bk; have n4 := Aside0.mk ((hoth g9 (fun e => N6_9.out e.symm)).trans BK9.out); clear HB BK3 BK5 BK6 BK9; have HB := n0; have BK3 := n1; have BK5 := n2; have BK6 := n3; have BK9 := n4; clear n0 n1 n2 n3 n4; clear bk hoth hbel))
    refine bodyPost_ret (results_ct rfl _ _ g6 24 #[.slice none 0 0, .bool false] (0, 0) _ rfl BK6.out Tryd.underlying24 rfl size_tap) rfl ?_
    exact ⟨_, rfl, own_nil _ _ _ _, HB.out⟩

set_option maxHeartbeats 16000000 in
set_option maxRecDepth 100000 in
theorem push_arg (A : Option Addr) (n c : Nat) (l : List Itm) (lost : Bool) (room : Int) (e : Evt) (W : World) (h : Its W A n c l) (hg : GT W) (he : e.hd.wf) (hb1 : tapOk l = true) (hb2 : evOk e = true) (hr : ¬ (1 ≤ room ∧ room ≤ 64)) :
    Calls Tryd.prog 11 #[.agg #[.slice A n c, .bool lost], .int .i64 room, .agg (ea e)] W fun x W' => ∃ v, x = .returned (.tuple #[.agg #[v, .bool (pushP ⟨l, lost⟩ room e).1.lost], .int .i64 (pushP ⟨l, lost⟩ room e).2]) ∧ W'.ownsRow W.heap.size 32 101 v (pushP ⟨l, lost⟩ room e).1.its.length (flatI (pushP ⟨l, lost⟩ room e).1.its) ∧ Below W.heap.size W W' := by
  have ep : pushP ⟨l, lost⟩ room e = (⟨[], false⟩, 2) := by
    unfold pushP
    rw [if_pos ⟨hb1, hb2⟩, if_neg hr]
  rw [ep]
  have IT := Aside0.mk h
  have GG := Aside0.mk hg
  have HE := Aside0.mk he
  have HB := Aside0.mk (Below.refl W.heap.size W)
  have HLN := Aside0.mk h.len
  have HCK : Aside0 (∀ w, Below W.heap.size W w → Calls Tryd.prog 15 #[.agg #[.slice A n c, .bool lost]] w fun x W' => x = .returned (.int .i64 (ccode l)) ∧ Below w.heap.size w W') := ⟨fun w hw => check_walk A n c l lost w (IT.out.below hw) (GG.out.below GG.out.lt hw)⟩
  have HEV : Aside0 (∀ w, Calls Tryd.prog 38 #[.agg (ea e)] w fun x W' => x = .returned (.bool (evOk e)) ∧ Below w.heap.size w W') := ⟨fun w => event_walk e HE.out w⟩
  rw [ccode_yes hb1] at HCK
  rw [hb2] at HEV
  clear h hg he ep hb1 hb2
  by_cases hr1 : room < 1
  · clear hr
    go_enter Tryd.func11, Tryd.ntmps11
    go_wp2_with (
      first
      | ((with_reducible refine gate_dst (N := 3) rfl ?_); refine box_event ?hg (N := 3) ?hd (cs := #[.slice A n c, .bool lost]) (t := 24) ?hr ?_; (case hd => rfl); (case hg => rfl); (case hr => first | (go_simp; done) | (go_simp; rfl)); intro g3 hg w1_ hbox hb; have BK3 := Aside0.mk hbox; have G3 := Aside0.mk (show W.heap.size ≤ g3 by rw [hg]; exact below_size HB.out); have n0 := Aside0.mk (below_step HB.out hb); clear HB; have HB := n0; clear n0; clear hb hbox hg)
      | ((with_reducible refine gate_dst (N := 5) rfl ?_); refine box_event ?hg (N := 5) ?hd (cs := ea e) (t := 30) ?hr ?_; (case hd => rfl); (case hg => rfl); (case hr => first | (go_simp; done) | (go_simp; rfl)); intro g5 hg w2_ hbox hb; have BK5 := Aside0.mk hbox; have G5 := Aside0.mk (show W.heap.size ≤ g5 by rw [hg]; exact below_size HB.out); have N3_5 := Aside0.mk (show g3 ≠ g5 by rw [hg]; exact Nat.ne_of_lt (blk_lt BK3.out)); have n0 := Aside0.mk (below_step HB.out hb); have n1 := Aside0.mk (blk_below BK3.out hb); clear HB BK3; have HB := n0; have BK3 := n1; clear n0 n1; clear hb hbox hg)
      | ((with_reducible refine gate_dst (N := 6) rfl ?_); refine box_event ?hg (N := 6) ?hd (cs := #[.slice none 0 0, .bool false]) (t := 24) ?hr ?_; (case hd => rfl); (case hg => rfl); (case hr => first | (go_simp; done) | (go_simp; rfl)); intro g6 hg w3_ hbox hb; have BK6 := Aside0.mk hbox; have G6 := Aside0.mk (show W.heap.size ≤ g6 by rw [hg]; exact below_size HB.out); have N3_6 := Aside0.mk (show g3 ≠ g6 by rw [hg]; exact Nat.ne_of_lt (blk_lt BK3.out)); have N5_6 := Aside0.mk (show g5 ≠ g6 by rw [hg]; exact Nat.ne_of_lt (blk_lt BK5.out)); have n0 := Aside0.mk (below_step HB.out hb); have n1 := Aside0.mk (blk_below BK3.out hb); have n2 := Aside0.mk (blk_below BK5.out hb); clear HB BK3 BK5; have HB := n0; have BK3 := n1; have BK5 := n2; clear n0 n1 n2; clear hb hbox hg)
      | ((with_reducible refine gate_dst (N := 13) rfl ?_); refine wl_load rfl rfl rfl (load_cell (k := 0) Tryd.underlying22 rfl BK3.out rfl) ?_)
      | ((with_reducible refine gate_dst (N := 16) rfl ?_); refine wl_load rfl rfl rfl (load_row Tryd.underlying30 rfl size_evt BK5.out (ea_size HE.out)) ?_)
      | ((with_reducible refine gate_dst (N := 17) rfl ?_); refine wl_build1 (v := .agg (ea e)) (cells := ia ⟨false, e⟩) rfl rfl rfl (built_itm e HE.out) ?_)
      | ((with_reducible refine gate_dst (N := 9) rfl ?_); refine box_event ?hg (N := 9) ?hd (cs := ia it0) (t := 32) ?hr ?_; (case hd => rfl); (case hg => rfl); (case hr => first | (go_simp; done) | (go_simp; rfl)); intro g9 hg w4_ hbox hb; have BK9 := Aside0.mk hbox; have G9 := Aside0.mk (show W.heap.size ≤ g9 by rw [hg]; exact below_size HB.out); have N3_9 := Aside0.mk (show g3 ≠ g9 by rw [hg]; exact Nat.ne_of_lt (blk_lt BK3.out)); have N5_9 := Aside0.mk (show g5 ≠ g9 by rw [hg]; exact Nat.ne_of_lt (blk_lt BK5.out)); have N6_9 := Aside0.mk (show g6 ≠ g9 by rw [hg]; exact Nat.ne_of_lt (blk_lt BK6.out)); have n0 := Aside0.mk (below_step HB.out hb); have n1 := Aside0.mk (blk_below BK3.out hb); have n2 := Aside0.mk (blk_below BK5.out hb); have n3 := Aside0.mk (blk_below BK6.out hb); clear HB BK3 BK5 BK6; have HB := n0; have BK3 := n1; have BK5 := n2; have BK6 := n3; clear n0 n1 n2 n3; clear hb hbox hg)
      | ((with_reducible refine gate_store (p := 9) rfl ?_); refine row_store rfl size_itm (.tmp 9) (.tmp 17) rfl g9 (ia ⟨false, e⟩) (ia it0) rfl rfl BK9.out (ia_size (x := ⟨false, e⟩) HE.out) (ia_size hd0_wf) (ia_one _) ?_; intro s5_ bk hoth hbel; have n0 := Aside0.mk (hbel _ _ HB.out G9.out); have n1 := Aside0.mk ((hoth g3 N3_9.out).trans BK3.out); have n2 := Aside0.mk ((hoth g5 N5_9.out).trans BK5.out); have n3 := Aside0.mk ((hoth g6 N6_9.out).trans BK6.out); have n4 := Aside0.mk bk; clear HB BK3 BK5 BK6 BK9; have HB := n0; have BK3 := n1; have BK5 := n2; have BK6 := n3; have BK9 := n4; clear n0 n1 n2 n3 n4; clear bk hoth hbel)
      | ((with_reducible refine gate_dst (N := 19) rfl ?_); refine wl_load rfl rfl rfl (load_row Tryd.underlying24 rfl size_tap BK3.out (rfl)) ?_)
      | (go_at_call 15; (with_reducible refine (HCK.out _ HB.out).mono ?_); rintro e w6_ ⟨rfl, hb⟩; have n0 := Aside0.mk (below_step HB.out hb); have n1 := Aside0.mk (blk_below BK3.out hb); have n2 := Aside0.mk (blk_below BK5.out hb); have n3 := Aside0.mk (blk_below BK6.out hb); have n4 := Aside0.mk (blk_below BK9.out hb); clear HB BK3 BK5 BK6 BK9; have HB := n0; have BK3 := n1; have BK5 := n2; have BK6 := n3; have BK9 := n4; clear n0 n1 n2 n3 n4; clear hb)
      | ((with_reducible refine gate_dst (N := 23) rfl ?_); refine gate_guard (by rfl) ?_; refine wl_load rfl rfl rfl (load_row Tryd.underlying30 rfl size_evt BK5.out (ea_size HE.out)) ?_)
      | (go_at_call 38; (with_reducible refine (HEV.out _).mono ?_); rintro e w7_ ⟨rfl, hb⟩; have n0 := Aside0.mk (below_step HB.out hb); have n1 := Aside0.mk (blk_below BK3.out hb); have n2 := Aside0.mk (blk_below BK5.out hb); have n3 := Aside0.mk (blk_below BK6.out hb); have n4 := Aside0.mk (blk_below BK9.out hb); clear HB BK3 BK5 BK6 BK9; have HB := n0; have BK3 := n1; have BK5 := n2; have BK6 := n3; have BK9 := n4; clear n0 n1 n2 n3 n4; clear hb)
      | ((with_reducible refine gate_store (p := 6) rfl ?_); refine row_store rfl size_tap (.tmp 6) (.tmp 35) rfl g6 (#[.slice none 0 0, .bool false]) (#[.slice none 0 0, .bool false]) rfl rfl BK6.out (rfl) (rfl) (tap_one _ _ _ _) ?_; intro s8_ bk hoth hbel; have n0 := Aside0.mk (hbel _ _ HB.out G6.out); have n1 := Aside0.mk ((hoth g3 N3_6.out).trans BK3.out); have n2 := Aside0.mk ((hoth g5 N5_6.out).trans BK5.out); have n3 := Aside0.mk bk; have n4 := Aside0.mk ((hoth g9 (fun e => N6_9.out e.symm)).trans BK9.out); clear HB BK3 BK5 BK6 BK9; have HB := n0; have BK3 := n1; have BK5 := n2; have BK6 := n3; have BK9 := n4; clear n0 n1 n2 n3 n4; clear bk hoth hbel))
    refine bodyPost_ret (results_ct rfl _ _ g6 24 #[.slice none 0 0, .bool false] (0, 0) _ rfl BK6.out Tryd.underlying24 rfl size_tap) rfl ?_
    exact ⟨_, rfl, own_nil _ _ _ _, HB.out⟩
  · have hr2 : 64 < room := by omega
    clear hr
    go_enter Tryd.func11, Tryd.ntmps11
    go_wp2_with (
      first
      | ((with_reducible refine gate_dst (N := 3) rfl ?_); refine box_event ?hg (N := 3) ?hd (cs := #[.slice A n c, .bool lost]) (t := 24) ?hr ?_; (case hd => rfl); (case hg => rfl); (case hr => first | (go_simp; done) | (go_simp; rfl)); intro g3 hg w1_ hbox hb; have BK3 := Aside0.mk hbox; have G3 := Aside0.mk (show W.heap.size ≤ g3 by rw [hg]; exact below_size HB.out); have n0 := Aside0.mk (below_step HB.out hb); clear HB; have HB := n0; clear n0; clear hb hbox hg)
      | ((with_reducible refine gate_dst (N := 5) rfl ?_); refine box_event ?hg (N := 5) ?hd (cs := ea e) (t := 30) ?hr ?_; (case hd => rfl); (case hg => rfl); (case hr => first | (go_simp; done) | (go_simp; rfl)); intro g5 hg w2_ hbox hb; have BK5 := Aside0.mk hbox; have G5 := Aside0.mk (show W.heap.size ≤ g5 by rw [hg]; exact below_size HB.out); have N3_5 := Aside0.mk (show g3 ≠ g5 by rw [hg]; exact Nat.ne_of_lt (blk_lt BK3.out)); have n0 := Aside0.mk (below_step HB.out hb); have n1 := Aside0.mk (blk_below BK3.out hb); clear HB BK3; have HB := n0; have BK3 := n1; clear n0 n1; clear hb hbox hg)
      | ((with_reducible refine gate_dst (N := 6) rfl ?_); refine box_event ?hg (N := 6) ?hd (cs := #[.slice none 0 0, .bool false]) (t := 24) ?hr ?_; (case hd => rfl); (case hg => rfl); (case hr => first | (go_simp; done) | (go_simp; rfl)); intro g6 hg w3_ hbox hb; have BK6 := Aside0.mk hbox; have G6 := Aside0.mk (show W.heap.size ≤ g6 by rw [hg]; exact below_size HB.out); have N3_6 := Aside0.mk (show g3 ≠ g6 by rw [hg]; exact Nat.ne_of_lt (blk_lt BK3.out)); have N5_6 := Aside0.mk (show g5 ≠ g6 by rw [hg]; exact Nat.ne_of_lt (blk_lt BK5.out)); have n0 := Aside0.mk (below_step HB.out hb); have n1 := Aside0.mk (blk_below BK3.out hb); have n2 := Aside0.mk (blk_below BK5.out hb); clear HB BK3 BK5; have HB := n0; have BK3 := n1; have BK5 := n2; clear n0 n1 n2; clear hb hbox hg)
      | ((with_reducible refine gate_dst (N := 13) rfl ?_); refine wl_load rfl rfl rfl (load_cell (k := 0) Tryd.underlying22 rfl BK3.out rfl) ?_)
      | ((with_reducible refine gate_dst (N := 16) rfl ?_); refine wl_load rfl rfl rfl (load_row Tryd.underlying30 rfl size_evt BK5.out (ea_size HE.out)) ?_)
      | ((with_reducible refine gate_dst (N := 17) rfl ?_); refine wl_build1 (v := .agg (ea e)) (cells := ia ⟨false, e⟩) rfl rfl rfl (built_itm e HE.out) ?_)
      | ((with_reducible refine gate_dst (N := 9) rfl ?_); refine box_event ?hg (N := 9) ?hd (cs := ia it0) (t := 32) ?hr ?_; (case hd => rfl); (case hg => rfl); (case hr => first | (go_simp; done) | (go_simp; rfl)); intro g9 hg w4_ hbox hb; have BK9 := Aside0.mk hbox; have G9 := Aside0.mk (show W.heap.size ≤ g9 by rw [hg]; exact below_size HB.out); have N3_9 := Aside0.mk (show g3 ≠ g9 by rw [hg]; exact Nat.ne_of_lt (blk_lt BK3.out)); have N5_9 := Aside0.mk (show g5 ≠ g9 by rw [hg]; exact Nat.ne_of_lt (blk_lt BK5.out)); have N6_9 := Aside0.mk (show g6 ≠ g9 by rw [hg]; exact Nat.ne_of_lt (blk_lt BK6.out)); have n0 := Aside0.mk (below_step HB.out hb); have n1 := Aside0.mk (blk_below BK3.out hb); have n2 := Aside0.mk (blk_below BK5.out hb); have n3 := Aside0.mk (blk_below BK6.out hb); clear HB BK3 BK5 BK6; have HB := n0; have BK3 := n1; have BK5 := n2; have BK6 := n3; clear n0 n1 n2 n3; clear hb hbox hg)
      | ((with_reducible refine gate_store (p := 9) rfl ?_); refine row_store rfl size_itm (.tmp 9) (.tmp 17) rfl g9 (ia ⟨false, e⟩) (ia it0) rfl rfl BK9.out (ia_size (x := ⟨false, e⟩) HE.out) (ia_size hd0_wf) (ia_one _) ?_; intro s5_ bk hoth hbel; have n0 := Aside0.mk (hbel _ _ HB.out G9.out); have n1 := Aside0.mk ((hoth g3 N3_9.out).trans BK3.out); have n2 := Aside0.mk ((hoth g5 N5_9.out).trans BK5.out); have n3 := Aside0.mk ((hoth g6 N6_9.out).trans BK6.out); have n4 := Aside0.mk bk; clear HB BK3 BK5 BK6 BK9; have HB := n0; have BK3 := n1; have BK5 := n2; have BK6 := n3; have BK9 := n4; clear n0 n1 n2 n3 n4; clear bk hoth hbel)
      | ((with_reducible refine gate_dst (N := 19) rfl ?_); refine wl_load rfl rfl rfl (load_row Tryd.underlying24 rfl size_tap BK3.out (rfl)) ?_)
      | (go_at_call 15; (with_reducible refine (HCK.out _ HB.out).mono ?_); rintro e w6_ ⟨rfl, hb⟩; have n0 := Aside0.mk (below_step HB.out hb); have n1 := Aside0.mk (blk_below BK3.out hb); have n2 := Aside0.mk (blk_below BK5.out hb); have n3 := Aside0.mk (blk_below BK6.out hb); have n4 := Aside0.mk (blk_below BK9.out hb); clear HB BK3 BK5 BK6 BK9; have HB := n0; have BK3 := n1; have BK5 := n2; have BK6 := n3; have BK9 := n4; clear n0 n1 n2 n3 n4; clear hb)
      | ((with_reducible refine gate_dst (N := 23) rfl ?_); refine gate_guard (by rfl) ?_; refine wl_load rfl rfl rfl (load_row Tryd.underlying30 rfl size_evt BK5.out (ea_size HE.out)) ?_)
      | (go_at_call 38; (with_reducible refine (HEV.out _).mono ?_); rintro e w7_ ⟨rfl, hb⟩; have n0 := Aside0.mk (below_step HB.out hb); have n1 := Aside0.mk (blk_below BK3.out hb); have n2 := Aside0.mk (blk_below BK5.out hb); have n3 := Aside0.mk (blk_below BK6.out hb); have n4 := Aside0.mk (blk_below BK9.out hb); clear HB BK3 BK5 BK6 BK9; have HB := n0; have BK3 := n1; have BK5 := n2; have BK6 := n3; have BK9 := n4; clear n0 n1 n2 n3 n4; clear hb)
      | ((with_reducible refine gate_store (p := 6) rfl ?_); refine row_store rfl size_tap (.tmp 6) (.tmp 35) rfl g6 (#[.slice none 0 0, .bool false]) (#[.slice none 0 0, .bool false]) rfl rfl BK6.out (rfl) (rfl) (tap_one _ _ _ _) ?_; intro s8_ bk hoth hbel; have n0 := Aside0.mk (hbel _ _ HB.out G6.out); have n1 := Aside0.mk ((hoth g3 N3_6.out).trans BK3.out); have n2 := Aside0.mk ((hoth g5 N5_6.out).trans BK5.out); have n3 := Aside0.mk bk; have n4 := Aside0.mk ((hoth g9 (fun e => N6_9.out e.symm)).trans BK9.out); clear HB BK3 BK5 BK6 BK9; have HB := n0; have BK3 := n1; have BK5 := n2; have BK6 := n3; have BK9 := n4; clear n0 n1 n2 n3 n4; clear bk hoth hbel))
    refine bodyPost_ret (results_ct rfl _ _ g6 24 #[.slice none 0 0, .bool false] (0, 0) _ rfl BK6.out Tryd.underlying24 rfl size_tap) rfl ?_
    exact ⟨_, rfl, own_nil _ _ _ _, HB.out⟩

theorem len_lit (l : List Itm) (k : List Itm) (n m : Nat) (hl : l.length = n) (hk : k.length = m) : (l ++ k).length = n + m := by rw [List.length_append, hl, hk]
set_option maxHeartbeats 16000000 in
set_option maxRecDepth 100000 in
theorem push_gap (A : Option Addr) (n c : Nat) (l : List Itm) (lost : Bool) (room : Int) (e : Evt) (W : World) (h : Its W A n c l) (hg : GT W) (he : e.hd.wf) (hb1 : tapOk l = true) (hb2 : evOk e = true) (hr1 : 1 ≤ room) (hr2 : room ≤ 64) (hlost : lost = true) (hl : 2 ≤ room - (n : Int)) :
    Calls Tryd.prog 11 #[.agg #[.slice A n c, .bool lost], .int .i64 room, .agg (ea e)] W fun x W' => ∃ v, x = .returned (.tuple #[.agg #[v, .bool (pushP ⟨l, lost⟩ room e).1.lost], .int .i64 (pushP ⟨l, lost⟩ room e).2]) ∧ W'.ownsRow W.heap.size 32 101 v (pushP ⟨l, lost⟩ room e).1.its.length (flatI (pushP ⟨l, lost⟩ room e).1.its) ∧ Below W.heap.size W W' := by
  have hn64 : n ≤ 64 := by
    have := hb1
    unfold tapOk at this
    simp only [Bool.and_eq_true, decide_eq_true_eq] at this
    rw [← h.len]
    exact this.1
  have hsub : wrap64 (room - (n : Int)) = room - (n : Int) := by unfold wrap64; omega
  have ep : pushP ⟨l, lost⟩ room e = (⟨l ++ [gapI, ⟨false, e⟩], false⟩, 0) := by
    unfold pushP withP
    rw [if_pos ⟨hb1, hb2⟩, if_pos ⟨hr1, hr2⟩, if_pos ⟨hlost, by rw [h.len]; exact hl⟩]
  rw [ep]
  have IT := Aside0.mk h
  have GG := Aside0.mk hg
  have HE := Aside0.mk he
  have HB := Aside0.mk (Below.refl W.heap.size W)
  have HLN := Aside0.mk h.len
  have HCK : Aside0 (∀ w, Below W.heap.size W w → Calls Tryd.prog 15 #[.agg #[.slice A n c, .bool lost]] w fun x W' => x = .returned (.int .i64 (ccode l)) ∧ Below w.heap.size w W') := ⟨fun w hw => check_walk A n c l lost w (IT.out.below hw) (GG.out.below GG.out.lt hw)⟩
  have HEV : Aside0 (∀ w, Calls Tryd.prog 38 #[.agg (ea e)] w fun x W' => x = .returned (.bool (evOk e)) ∧ Below w.heap.size w W') := ⟨fun w => event_walk e HE.out w⟩
  rw [ccode_yes hb1] at HCK
  rw [hb2] at HEV
  have HN : Aside0 (n + 2 ≤ 1000) := ⟨by omega⟩
  have HW2 : Aside0 (Wfs [gapI, ⟨false, e⟩]) := ⟨by intro x hx; simp only [List.mem_cons, List.not_mem_nil, or_false] at hx; rcases hx with rfl | rfl; exact hd0_wf; exact he⟩
  have HNW : Aside0 (∀ w : World, Its (w.alloc (.cells (flatI [gapI, ⟨false, e⟩]).toArray 32)) (some ⟨w.heap.size, 0, none⟩) 2 2 [gapI, ⟨false, e⟩]) := ⟨fun w => its_new w _ 2 rfl HW2.out (by omega)⟩
  have HWI : Aside0 (∀ w ad c2, Below W.heap.size W w → Its w (some ad) 2 c2 [gapI, ⟨false, e⟩] → Calls Tryd.prog 39 #[.agg #[.slice A n c, .bool lost], .slice (some ad) 2 c2] w fun x W' => ∃ v, x = .returned (.agg #[v, .bool false]) ∧ W'.ownsRow w.heap.size 32 101 v (n + 2) (flatI (l ++ [gapI, ⟨false, e⟩])) ∧ Below w.heap.size w W') := ⟨fun w ad c2 hw hi => with_walk A n c l lost ad 2 c2 _ w (IT.out.below hw) hi HN.out⟩
  have HLL : Aside0 ((l ++ [gapI, (⟨false, e⟩ : Itm)]).length = n + 2) := ⟨len_lit _ _ n 2 h.len rfl⟩
  subst hlost
  clear h hg he ep hb1 hb2
  go_enter Tryd.func11, Tryd.ntmps11
  go_wp2_with (
    first
    | ((with_reducible refine gate_dst (N := 3) rfl ?_); refine box_event ?hg (N := 3) ?hd (cs := #[.slice A n c, .bool true]) (t := 24) ?hr ?_; (case hd => rfl); (case hg => rfl); (case hr => first | (go_simp; done) | (go_simp; rfl)); intro g3 hg w1_ hbox hb; have BK3 := Aside0.mk hbox; have G3 := Aside0.mk (show W.heap.size ≤ g3 by rw [hg]; exact below_size HB.out); have n0 := Aside0.mk (below_step HB.out hb); clear HB; have HB := n0; clear n0; clear hb hbox hg)
    | ((with_reducible refine gate_dst (N := 5) rfl ?_); refine box_event ?hg (N := 5) ?hd (cs := ea e) (t := 30) ?hr ?_; (case hd => rfl); (case hg => rfl); (case hr => first | (go_simp; done) | (go_simp; rfl)); intro g5 hg w2_ hbox hb; have BK5 := Aside0.mk hbox; have G5 := Aside0.mk (show W.heap.size ≤ g5 by rw [hg]; exact below_size HB.out); have N3_5 := Aside0.mk (show g3 ≠ g5 by rw [hg]; exact Nat.ne_of_lt (blk_lt BK3.out)); have n0 := Aside0.mk (below_step HB.out hb); have n1 := Aside0.mk (blk_below BK3.out hb); clear HB BK3; have HB := n0; have BK3 := n1; clear n0 n1; clear hb hbox hg)
    | ((with_reducible refine gate_dst (N := 6) rfl ?_); refine box_event ?hg (N := 6) ?hd (cs := #[.slice none 0 0, .bool false]) (t := 24) ?hr ?_; (case hd => rfl); (case hg => rfl); (case hr => first | (go_simp; done) | (go_simp; rfl)); intro g6 hg w3_ hbox hb; have BK6 := Aside0.mk hbox; have G6 := Aside0.mk (show W.heap.size ≤ g6 by rw [hg]; exact below_size HB.out); have N3_6 := Aside0.mk (show g3 ≠ g6 by rw [hg]; exact Nat.ne_of_lt (blk_lt BK3.out)); have N5_6 := Aside0.mk (show g5 ≠ g6 by rw [hg]; exact Nat.ne_of_lt (blk_lt BK5.out)); have n0 := Aside0.mk (below_step HB.out hb); have n1 := Aside0.mk (blk_below BK3.out hb); have n2 := Aside0.mk (blk_below BK5.out hb); clear HB BK3 BK5; have HB := n0; have BK3 := n1; have BK5 := n2; clear n0 n1 n2; clear hb hbox hg)
    | ((with_reducible refine gate_dst (N := 13) rfl ?_); refine wl_load rfl rfl rfl (load_cell (k := 0) Tryd.underlying22 rfl BK3.out rfl) ?_)
    | ((with_reducible refine gate_dst (N := 16) rfl ?_); refine wl_load rfl rfl rfl (load_row Tryd.underlying30 rfl size_evt BK5.out (ea_size HE.out)) ?_)
    | ((with_reducible refine gate_dst (N := 17) rfl ?_); refine wl_build1 (v := .agg (ea e)) (cells := ia ⟨false, e⟩) rfl rfl rfl (built_itm e HE.out) ?_)
    | ((with_reducible refine gate_dst (N := 9) rfl ?_); refine box_event ?hg (N := 9) ?hd (cs := ia it0) (t := 32) ?hr ?_; (case hd => rfl); (case hg => rfl); (case hr => first | (go_simp; done) | (go_simp; rfl)); intro g9 hg w4_ hbox hb; have BK9 := Aside0.mk hbox; have G9 := Aside0.mk (show W.heap.size ≤ g9 by rw [hg]; exact below_size HB.out); have N3_9 := Aside0.mk (show g3 ≠ g9 by rw [hg]; exact Nat.ne_of_lt (blk_lt BK3.out)); have N5_9 := Aside0.mk (show g5 ≠ g9 by rw [hg]; exact Nat.ne_of_lt (blk_lt BK5.out)); have N6_9 := Aside0.mk (show g6 ≠ g9 by rw [hg]; exact Nat.ne_of_lt (blk_lt BK6.out)); have n0 := Aside0.mk (below_step HB.out hb); have n1 := Aside0.mk (blk_below BK3.out hb); have n2 := Aside0.mk (blk_below BK5.out hb); have n3 := Aside0.mk (blk_below BK6.out hb); clear HB BK3 BK5 BK6; have HB := n0; have BK3 := n1; have BK5 := n2; have BK6 := n3; clear n0 n1 n2 n3; clear hb hbox hg)
    | ((with_reducible refine gate_store (p := 9) rfl ?_); refine row_store rfl size_itm (.tmp 9) (.tmp 17) rfl g9 (ia ⟨false, e⟩) (ia it0) rfl rfl BK9.out (ia_size (x := ⟨false, e⟩) HE.out) (ia_size hd0_wf) (ia_one _) ?_; intro s5_ bk hoth hbel; have n0 := Aside0.mk (hbel _ _ HB.out G9.out); have n1 := Aside0.mk ((hoth g3 N3_9.out).trans BK3.out); have n2 := Aside0.mk ((hoth g5 N5_9.out).trans BK5.out); have n3 := Aside0.mk ((hoth g6 N6_9.out).trans BK6.out); have n4 := Aside0.mk bk; clear HB BK3 BK5 BK6 BK9; have HB := n0; have BK3 := n1; have BK5 := n2; have BK6 := n3; have BK9 := n4; clear n0 n1 n2 n3 n4; clear bk hoth hbel)
    | ((with_reducible refine gate_dst (N := 19) rfl ?_); refine wl_load rfl rfl rfl (load_row Tryd.underlying24 rfl size_tap BK3.out (rfl)) ?_)
    | (go_at_call 15; (with_reducible refine (HCK.out _ HB.out).mono ?_); rintro e w6_ ⟨rfl, hb⟩; have n0 := Aside0.mk (below_step HB.out hb); have n1 := Aside0.mk (blk_below BK3.out hb); have n2 := Aside0.mk (blk_below BK5.out hb); have n3 := Aside0.mk (blk_below BK6.out hb); have n4 := Aside0.mk (blk_below BK9.out hb); clear HB BK3 BK5 BK6 BK9; have HB := n0; have BK3 := n1; have BK5 := n2; have BK6 := n3; have BK9 := n4; clear n0 n1 n2 n3 n4; clear hb)
    | ((with_reducible refine gate_dst (N := 23) rfl ?_); refine gate_guard (by rfl) ?_; refine wl_load rfl rfl rfl (load_row Tryd.underlying30 rfl size_evt BK5.out (ea_size HE.out)) ?_)
    | (go_at_call 38; (with_reducible refine (HEV.out _).mono ?_); rintro e w7_ ⟨rfl, hb⟩; have n0 := Aside0.mk (below_step HB.out hb); have n1 := Aside0.mk (blk_below BK3.out hb); have n2 := Aside0.mk (blk_below BK5.out hb); have n3 := Aside0.mk (blk_below BK6.out hb); have n4 := Aside0.mk (blk_below BK9.out hb); clear HB BK3 BK5 BK6 BK9; have HB := n0; have BK3 := n1; have BK5 := n2; have BK6 := n3; have BK9 := n4; clear n0 n1 n2 n3 n4; clear hb)
    | ((with_reducible refine gate_dst (N := 38) rfl ?_); refine wl_load rfl rfl rfl (load_cell (k := 1) Tryd.underlying4 rfl BK3.out rfl) ?_)
    | ((with_reducible refine gate_dst (N := 43) rfl ?_); refine wl_load rfl rfl rfl (load_row Tryd.underlying24 rfl size_tap BK3.out (rfl)) ?_)
    | ((with_reducible refine gate_dst (N := 44) rfl ?_); refine wl_load rfl rfl rfl (load_itm (x := gapI) hd0_wf (GG.out.below GG.out.lt HB.out)) ?_)
    | ((with_reducible refine gate_dst (N := 45) rfl ?_); refine wl_load rfl rfl rfl (load_row Tryd.underlying32 rfl size_itm BK9.out (ia_size (x := ⟨false, e⟩) HE.out)) ?_)
    | ((with_reducible refine gate_dst (N := 46) rfl ?_); refine wl_its_two rfl gapI ⟨false, e⟩ HW2.out (.tmp 44) (.tmp 45) rfl rfl rfl ?_)
    | (go_at_call 39; have HB0 := HB; (with_reducible refine (HWI.out _ _ _ (below_alloc HB.out _) (HNW.out _)).mono ?_); rintro x w8_ ⟨v47, rfl, ho, hb⟩; obtain ⟨A47, c47, rfl⟩ := own_slice ho; have n0 := Aside0.mk (below_step (below_alloc HB.out _) hb); have n1 := Aside0.mk (blk_below (blk_alloc BK3.out _) hb); have n2 := Aside0.mk (blk_below (blk_alloc BK5.out _) hb); have n3 := Aside0.mk (blk_below (blk_alloc BK6.out _) hb); have n4 := Aside0.mk (blk_below (blk_alloc BK9.out _) hb); clear HB BK3 BK5 BK6 BK9; have HB := n0; have BK3 := n1; have BK5 := n2; have BK6 := n3; have BK9 := n4; clear n0 n1 n2 n3 n4; have O47 := Aside0.mk (own_weaken ho (below_size (below_alloc HB0.out _))); clear hb)
    | ((with_reducible refine gate_store (p := 6) rfl ?_); refine row_store rfl size_tap (.tmp 6) (.tmp 47) rfl g6 (#[.slice A47 (n + 2) c47, .bool false]) (#[.slice none 0 0, .bool false]) rfl rfl BK6.out (rfl) (rfl) (tap_one _ _ _ _) ?_; intro s9_ bk hoth hbel; have n0 := Aside0.mk (hbel _ _ HB.out G6.out); have n1 := Aside0.mk ((hoth g3 N3_6.out).trans BK3.out); have n2 := Aside0.mk ((hoth g5 N5_6.out).trans BK5.out); have n3 := Aside0.mk bk; have n4 := Aside0.mk ((hoth g9 (fun e => N6_9.out e.symm)).trans BK9.out); have n5 := Aside0.mk (own_store O47.out BK6.out (by decide) hoth); clear HB BK3 BK5 BK6 BK9 O47; have HB := n0; have BK3 := n1; have BK5 := n2; have BK6 := n3; have BK9 := n4; have O47 := n5; clear n0 n1 n2 n3 n4 n5; clear bk hoth hbel))
  refine bodyPost_ret (results_ct rfl _ _ g6 24 #[.slice A47 (n + 2) c47, .bool false] (0, 0) _ rfl BK6.out Tryd.underlying24 rfl size_tap) rfl ?_
  exact ⟨_, rfl, by rw [HLL.out]; exact O47.out, HB.out⟩
set_option maxHeartbeats 16000000 in
set_option maxRecDepth 100000 in
theorem push_one (A : Option Addr) (n c : Nat) (l : List Itm) (lost : Bool) (room : Int) (e : Evt) (W : World) (h : Its W A n c l) (hg : GT W) (he : e.hd.wf) (hb1 : tapOk l = true) (hb2 : evOk e = true) (hr1 : 1 ≤ room) (hr2 : room ≤ 64) (hlost : lost = false) (hl : 1 ≤ room - (n : Int)) :
    Calls Tryd.prog 11 #[.agg #[.slice A n c, .bool lost], .int .i64 room, .agg (ea e)] W fun x W' => ∃ v, x = .returned (.tuple #[.agg #[v, .bool (pushP ⟨l, lost⟩ room e).1.lost], .int .i64 (pushP ⟨l, lost⟩ room e).2]) ∧ W'.ownsRow W.heap.size 32 101 v (pushP ⟨l, lost⟩ room e).1.its.length (flatI (pushP ⟨l, lost⟩ room e).1.its) ∧ Below W.heap.size W W' := by
  have hn64 : n ≤ 64 := by
    have := hb1
    unfold tapOk at this
    simp only [Bool.and_eq_true, decide_eq_true_eq] at this
    rw [← h.len]
    exact this.1
  have hsub : wrap64 (room - (n : Int)) = room - (n : Int) := by unfold wrap64; omega
  have ep : pushP ⟨l, lost⟩ room e = (⟨l ++ [⟨false, e⟩], false⟩, 0) := by
    unfold pushP withP
    rw [if_pos ⟨hb1, hb2⟩, if_pos ⟨hr1, hr2⟩, if_neg (by rw [hlost]; simp), if_pos ⟨hlost, by rw [h.len]; exact hl⟩]
  rw [ep]
  have IT := Aside0.mk h
  have GG := Aside0.mk hg
  have HE := Aside0.mk he
  have HB := Aside0.mk (Below.refl W.heap.size W)
  have HLN := Aside0.mk h.len
  have HCK : Aside0 (∀ w, Below W.heap.size W w → Calls Tryd.prog 15 #[.agg #[.slice A n c, .bool lost]] w fun x W' => x = .returned (.int .i64 (ccode l)) ∧ Below w.heap.size w W') := ⟨fun w hw => check_walk A n c l lost w (IT.out.below hw) (GG.out.below GG.out.lt hw)⟩
  have HEV : Aside0 (∀ w, Calls Tryd.prog 38 #[.agg (ea e)] w fun x W' => x = .returned (.bool (evOk e)) ∧ Below w.heap.size w W') := ⟨fun w => event_walk e HE.out w⟩
  rw [ccode_yes hb1] at HCK
  rw [hb2] at HEV
  have HN : Aside0 (n + 1 ≤ 1000) := ⟨by omega⟩
  have HW1 : Aside0 (Wfs [⟨false, e⟩]) := ⟨by intro x hx; simp only [List.mem_cons, List.not_mem_nil, or_false] at hx; subst hx; exact he⟩
  have HNW : Aside0 (∀ w : World, Its (w.alloc (.cells (flatI [⟨false, e⟩]).toArray 32)) (some ⟨w.heap.size, 0, none⟩) 1 1 [⟨false, e⟩]) := ⟨fun w => its_new w _ 1 rfl HW1.out (by omega)⟩
  have HWI : Aside0 (∀ w ad c2, Below W.heap.size W w → Its w (some ad) 1 c2 [⟨false, e⟩] → Calls Tryd.prog 39 #[.agg #[.slice A n c, .bool lost], .slice (some ad) 1 c2] w fun x W' => ∃ v, x = .returned (.agg #[v, .bool false]) ∧ W'.ownsRow w.heap.size 32 101 v (n + 1) (flatI (l ++ [⟨false, e⟩])) ∧ Below w.heap.size w W') := ⟨fun w ad c2 hw hi => with_walk A n c l lost ad 1 c2 _ w (IT.out.below hw) hi HN.out⟩
  have HLL : Aside0 ((l ++ [(⟨false, e⟩ : Itm)]).length = n + 1) := ⟨len_lit _ _ n 1 h.len rfl⟩
  subst hlost
  clear h hg he ep hb1 hb2
  go_enter Tryd.func11, Tryd.ntmps11
  go_wp2_with (
    first
    | ((with_reducible refine gate_dst (N := 3) rfl ?_); refine box_event ?hg (N := 3) ?hd (cs := #[.slice A n c, .bool false]) (t := 24) ?hr ?_; (case hd => rfl); (case hg => rfl); (case hr => first | (go_simp; done) | (go_simp; rfl)); intro g3 hg w1_ hbox hb; have BK3 := Aside0.mk hbox; have G3 := Aside0.mk (show W.heap.size ≤ g3 by rw [hg]; exact below_size HB.out); have n0 := Aside0.mk (below_step HB.out hb); clear HB; have HB := n0; clear n0; clear hb hbox hg)
    | ((with_reducible refine gate_dst (N := 5) rfl ?_); refine box_event ?hg (N := 5) ?hd (cs := ea e) (t := 30) ?hr ?_; (case hd => rfl); (case hg => rfl); (case hr => first | (go_simp; done) | (go_simp; rfl)); intro g5 hg w2_ hbox hb; have BK5 := Aside0.mk hbox; have G5 := Aside0.mk (show W.heap.size ≤ g5 by rw [hg]; exact below_size HB.out); have N3_5 := Aside0.mk (show g3 ≠ g5 by rw [hg]; exact Nat.ne_of_lt (blk_lt BK3.out)); have n0 := Aside0.mk (below_step HB.out hb); have n1 := Aside0.mk (blk_below BK3.out hb); clear HB BK3; have HB := n0; have BK3 := n1; clear n0 n1; clear hb hbox hg)
    | ((with_reducible refine gate_dst (N := 6) rfl ?_); refine box_event ?hg (N := 6) ?hd (cs := #[.slice none 0 0, .bool false]) (t := 24) ?hr ?_; (case hd => rfl); (case hg => rfl); (case hr => first | (go_simp; done) | (go_simp; rfl)); intro g6 hg w3_ hbox hb; have BK6 := Aside0.mk hbox; have G6 := Aside0.mk (show W.heap.size ≤ g6 by rw [hg]; exact below_size HB.out); have N3_6 := Aside0.mk (show g3 ≠ g6 by rw [hg]; exact Nat.ne_of_lt (blk_lt BK3.out)); have N5_6 := Aside0.mk (show g5 ≠ g6 by rw [hg]; exact Nat.ne_of_lt (blk_lt BK5.out)); have n0 := Aside0.mk (below_step HB.out hb); have n1 := Aside0.mk (blk_below BK3.out hb); have n2 := Aside0.mk (blk_below BK5.out hb); clear HB BK3 BK5; have HB := n0; have BK3 := n1; have BK5 := n2; clear n0 n1 n2; clear hb hbox hg)
    | ((with_reducible refine gate_dst (N := 13) rfl ?_); refine wl_load rfl rfl rfl (load_cell (k := 0) Tryd.underlying22 rfl BK3.out rfl) ?_)
    | ((with_reducible refine gate_dst (N := 16) rfl ?_); refine wl_load rfl rfl rfl (load_row Tryd.underlying30 rfl size_evt BK5.out (ea_size HE.out)) ?_)
    | ((with_reducible refine gate_dst (N := 17) rfl ?_); refine wl_build1 (v := .agg (ea e)) (cells := ia ⟨false, e⟩) rfl rfl rfl (built_itm e HE.out) ?_)
    | ((with_reducible refine gate_dst (N := 9) rfl ?_); refine box_event ?hg (N := 9) ?hd (cs := ia it0) (t := 32) ?hr ?_; (case hd => rfl); (case hg => rfl); (case hr => first | (go_simp; done) | (go_simp; rfl)); intro g9 hg w4_ hbox hb; have BK9 := Aside0.mk hbox; have G9 := Aside0.mk (show W.heap.size ≤ g9 by rw [hg]; exact below_size HB.out); have N3_9 := Aside0.mk (show g3 ≠ g9 by rw [hg]; exact Nat.ne_of_lt (blk_lt BK3.out)); have N5_9 := Aside0.mk (show g5 ≠ g9 by rw [hg]; exact Nat.ne_of_lt (blk_lt BK5.out)); have N6_9 := Aside0.mk (show g6 ≠ g9 by rw [hg]; exact Nat.ne_of_lt (blk_lt BK6.out)); have n0 := Aside0.mk (below_step HB.out hb); have n1 := Aside0.mk (blk_below BK3.out hb); have n2 := Aside0.mk (blk_below BK5.out hb); have n3 := Aside0.mk (blk_below BK6.out hb); clear HB BK3 BK5 BK6; have HB := n0; have BK3 := n1; have BK5 := n2; have BK6 := n3; clear n0 n1 n2 n3; clear hb hbox hg)
    | ((with_reducible refine gate_store (p := 9) rfl ?_); refine row_store rfl size_itm (.tmp 9) (.tmp 17) rfl g9 (ia ⟨false, e⟩) (ia it0) rfl rfl BK9.out (ia_size (x := ⟨false, e⟩) HE.out) (ia_size hd0_wf) (ia_one _) ?_; intro s5_ bk hoth hbel; have n0 := Aside0.mk (hbel _ _ HB.out G9.out); have n1 := Aside0.mk ((hoth g3 N3_9.out).trans BK3.out); have n2 := Aside0.mk ((hoth g5 N5_9.out).trans BK5.out); have n3 := Aside0.mk ((hoth g6 N6_9.out).trans BK6.out); have n4 := Aside0.mk bk; clear HB BK3 BK5 BK6 BK9; have HB := n0; have BK3 := n1; have BK5 := n2; have BK6 := n3; have BK9 := n4; clear n0 n1 n2 n3 n4; clear bk hoth hbel)
    | ((with_reducible refine gate_dst (N := 19) rfl ?_); refine wl_load rfl rfl rfl (load_row Tryd.underlying24 rfl size_tap BK3.out (rfl)) ?_)
    | (go_at_call 15; (with_reducible refine (HCK.out _ HB.out).mono ?_); rintro e w6_ ⟨rfl, hb⟩; have n0 := Aside0.mk (below_step HB.out hb); have n1 := Aside0.mk (blk_below BK3.out hb); have n2 := Aside0.mk (blk_below BK5.out hb); have n3 := Aside0.mk (blk_below BK6.out hb); have n4 := Aside0.mk (blk_below BK9.out hb); clear HB BK3 BK5 BK6 BK9; have HB := n0; have BK3 := n1; have BK5 := n2; have BK6 := n3; have BK9 := n4; clear n0 n1 n2 n3 n4; clear hb)
    | ((with_reducible refine gate_dst (N := 23) rfl ?_); refine gate_guard (by rfl) ?_; refine wl_load rfl rfl rfl (load_row Tryd.underlying30 rfl size_evt BK5.out (ea_size HE.out)) ?_)
    | (go_at_call 38; (with_reducible refine (HEV.out _).mono ?_); rintro e w7_ ⟨rfl, hb⟩; have n0 := Aside0.mk (below_step HB.out hb); have n1 := Aside0.mk (blk_below BK3.out hb); have n2 := Aside0.mk (blk_below BK5.out hb); have n3 := Aside0.mk (blk_below BK6.out hb); have n4 := Aside0.mk (blk_below BK9.out hb); clear HB BK3 BK5 BK6 BK9; have HB := n0; have BK3 := n1; have BK5 := n2; have BK6 := n3; have BK9 := n4; clear n0 n1 n2 n3 n4; clear hb)
    | ((with_reducible refine gate_dst (N := 38) rfl ?_); refine wl_load rfl rfl rfl (load_cell (k := 1) Tryd.underlying4 rfl BK3.out rfl) ?_)
    | ((with_reducible refine gate_dst (N := 50) rfl ?_); refine wl_load rfl rfl rfl (load_cell (k := 1) Tryd.underlying4 rfl BK3.out rfl) ?_)
    | ((with_reducible refine gate_dst (N := 56) rfl ?_); refine wl_load rfl rfl rfl (load_row Tryd.underlying24 rfl size_tap BK3.out (rfl)) ?_)
    | ((with_reducible refine gate_dst (N := 57) rfl ?_); refine wl_load rfl rfl rfl (load_row Tryd.underlying32 rfl size_itm BK9.out (ia_size (x := ⟨false, e⟩) HE.out)) ?_)
    | ((with_reducible refine gate_dst (N := 58) rfl ?_); refine wl_its_one rfl ⟨false, e⟩ HW1.out (.tmp 57) rfl rfl ?_)
    | (go_at_call 39; have HB0 := HB; (with_reducible refine (HWI.out _ _ _ (below_alloc HB.out _) (HNW.out _)).mono ?_); rintro x w8_ ⟨v59, rfl, ho, hb⟩; obtain ⟨A59, c59, rfl⟩ := own_slice ho; have n0 := Aside0.mk (below_step (below_alloc HB.out _) hb); have n1 := Aside0.mk (blk_below (blk_alloc BK3.out _) hb); have n2 := Aside0.mk (blk_below (blk_alloc BK5.out _) hb); have n3 := Aside0.mk (blk_below (blk_alloc BK6.out _) hb); have n4 := Aside0.mk (blk_below (blk_alloc BK9.out _) hb); clear HB BK3 BK5 BK6 BK9; have HB := n0; have BK3 := n1; have BK5 := n2; have BK6 := n3; have BK9 := n4; clear n0 n1 n2 n3 n4; have O59 := Aside0.mk (own_weaken ho (below_size (below_alloc HB0.out _))); clear hb)
    | ((with_reducible refine gate_store (p := 6) rfl ?_); refine row_store rfl size_tap (.tmp 6) (.tmp 59) rfl g6 (#[.slice A59 (n + 1) c59, .bool false]) (#[.slice none 0 0, .bool false]) rfl rfl BK6.out (rfl) (rfl) (tap_one _ _ _ _) ?_; intro s9_ bk hoth hbel; have n0 := Aside0.mk (hbel _ _ HB.out G6.out); have n1 := Aside0.mk ((hoth g3 N3_6.out).trans BK3.out); have n2 := Aside0.mk ((hoth g5 N5_6.out).trans BK5.out); have n3 := Aside0.mk bk; have n4 := Aside0.mk ((hoth g9 (fun e => N6_9.out e.symm)).trans BK9.out); have n5 := Aside0.mk (own_store O59.out BK6.out (by decide) hoth); clear HB BK3 BK5 BK6 BK9 O59; have HB := n0; have BK3 := n1; have BK5 := n2; have BK6 := n3; have BK9 := n4; have O59 := n5; clear n0 n1 n2 n3 n4 n5; clear bk hoth hbel))
  refine bodyPost_ret (results_ct rfl _ _ g6 24 #[.slice A59 (n + 1) c59, .bool false] (0, 0) _ rfl BK6.out Tryd.underlying24 rfl size_tap) rfl ?_
  exact ⟨_, rfl, by rw [HLL.out]; exact O59.out, HB.out⟩
set_option maxHeartbeats 16000000 in
set_option maxRecDepth 100000 in
theorem push_lost1 (A : Option Addr) (n c : Nat) (l : List Itm) (lost : Bool) (room : Int) (e : Evt) (W : World) (h : Its W A n c l) (hg : GT W) (he : e.hd.wf) (hb1 : tapOk l = true) (hb2 : evOk e = true) (hr1 : 1 ≤ room) (hr2 : room ≤ 64) (hlost : lost = true) (hl : ¬ 2 ≤ room - (n : Int)) :
    Calls Tryd.prog 11 #[.agg #[.slice A n c, .bool lost], .int .i64 room, .agg (ea e)] W fun x W' => ∃ v, x = .returned (.tuple #[.agg #[v, .bool (pushP ⟨l, lost⟩ room e).1.lost], .int .i64 (pushP ⟨l, lost⟩ room e).2]) ∧ W'.ownsRow W.heap.size 32 101 v (pushP ⟨l, lost⟩ room e).1.its.length (flatI (pushP ⟨l, lost⟩ room e).1.its) ∧ Below W.heap.size W W' := by
  have hn64 : n ≤ 64 := by
    have := hb1
    unfold tapOk at this
    simp only [Bool.and_eq_true, decide_eq_true_eq] at this
    rw [← h.len]
    exact this.1
  have hsub : wrap64 (room - (n : Int)) = room - (n : Int) := by unfold wrap64; omega
  have ep : pushP ⟨l, lost⟩ room e = (⟨l, true⟩, 0) := by
    unfold pushP withP
    rw [if_pos ⟨hb1, hb2⟩, if_pos ⟨hr1, hr2⟩, if_neg (by rw [h.len]; exact fun x => hl x.2), if_neg (by rw [hlost]; simp)]
  rw [ep]
  have IT := Aside0.mk h
  have GG := Aside0.mk hg
  have HE := Aside0.mk he
  have HB := Aside0.mk (Below.refl W.heap.size W)
  have HLN := Aside0.mk h.len
  have HCK : Aside0 (∀ w, Below W.heap.size W w → Calls Tryd.prog 15 #[.agg #[.slice A n c, .bool lost]] w fun x W' => x = .returned (.int .i64 (ccode l)) ∧ Below w.heap.size w W') := ⟨fun w hw => check_walk A n c l lost w (IT.out.below hw) (GG.out.below GG.out.lt hw)⟩
  have HEV : Aside0 (∀ w, Calls Tryd.prog 38 #[.agg (ea e)] w fun x W' => x = .returned (.bool (evOk e)) ∧ Below w.heap.size w W') := ⟨fun w => event_walk e HE.out w⟩
  rw [ccode_yes hb1] at HCK
  rw [hb2] at HEV
  have HTW : Aside0 (∀ w, Below W.heap.size W w → Calls Tryd.prog 37 #[.agg #[.slice A n c, .bool lost]] w fun x W' => ∃ v, x = .returned (.agg #[v, .bool lost]) ∧ W'.ownsRow w.heap.size 32 101 v n (flatI l) ∧ Below w.heap.size w W') := ⟨fun w hw => taptwin_walk A n c l lost w (IT.out.below hw) (by omega)⟩
  subst hlost
  clear h hg he ep hb1 hb2
  go_enter Tryd.func11, Tryd.ntmps11
  go_wp2_with (
    first
    | ((with_reducible refine gate_dst (N := 3) rfl ?_); refine box_event ?hg (N := 3) ?hd (cs := #[.slice A n c, .bool true]) (t := 24) ?hr ?_; (case hd => rfl); (case hg => rfl); (case hr => first | (go_simp; done) | (go_simp; rfl)); intro g3 hg w1_ hbox hb; have BK3 := Aside0.mk hbox; have G3 := Aside0.mk (show W.heap.size ≤ g3 by rw [hg]; exact below_size HB.out); have n0 := Aside0.mk (below_step HB.out hb); clear HB; have HB := n0; clear n0; clear hb hbox hg)
    | ((with_reducible refine gate_dst (N := 5) rfl ?_); refine box_event ?hg (N := 5) ?hd (cs := ea e) (t := 30) ?hr ?_; (case hd => rfl); (case hg => rfl); (case hr => first | (go_simp; done) | (go_simp; rfl)); intro g5 hg w2_ hbox hb; have BK5 := Aside0.mk hbox; have G5 := Aside0.mk (show W.heap.size ≤ g5 by rw [hg]; exact below_size HB.out); have N3_5 := Aside0.mk (show g3 ≠ g5 by rw [hg]; exact Nat.ne_of_lt (blk_lt BK3.out)); have n0 := Aside0.mk (below_step HB.out hb); have n1 := Aside0.mk (blk_below BK3.out hb); clear HB BK3; have HB := n0; have BK3 := n1; clear n0 n1; clear hb hbox hg)
    | ((with_reducible refine gate_dst (N := 6) rfl ?_); refine box_event ?hg (N := 6) ?hd (cs := #[.slice none 0 0, .bool false]) (t := 24) ?hr ?_; (case hd => rfl); (case hg => rfl); (case hr => first | (go_simp; done) | (go_simp; rfl)); intro g6 hg w3_ hbox hb; have BK6 := Aside0.mk hbox; have G6 := Aside0.mk (show W.heap.size ≤ g6 by rw [hg]; exact below_size HB.out); have N3_6 := Aside0.mk (show g3 ≠ g6 by rw [hg]; exact Nat.ne_of_lt (blk_lt BK3.out)); have N5_6 := Aside0.mk (show g5 ≠ g6 by rw [hg]; exact Nat.ne_of_lt (blk_lt BK5.out)); have n0 := Aside0.mk (below_step HB.out hb); have n1 := Aside0.mk (blk_below BK3.out hb); have n2 := Aside0.mk (blk_below BK5.out hb); clear HB BK3 BK5; have HB := n0; have BK3 := n1; have BK5 := n2; clear n0 n1 n2; clear hb hbox hg)
    | ((with_reducible refine gate_dst (N := 13) rfl ?_); refine wl_load rfl rfl rfl (load_cell (k := 0) Tryd.underlying22 rfl BK3.out rfl) ?_)
    | ((with_reducible refine gate_dst (N := 16) rfl ?_); refine wl_load rfl rfl rfl (load_row Tryd.underlying30 rfl size_evt BK5.out (ea_size HE.out)) ?_)
    | ((with_reducible refine gate_dst (N := 17) rfl ?_); refine wl_build1 (v := .agg (ea e)) (cells := ia ⟨false, e⟩) rfl rfl rfl (built_itm e HE.out) ?_)
    | ((with_reducible refine gate_dst (N := 9) rfl ?_); refine box_event ?hg (N := 9) ?hd (cs := ia it0) (t := 32) ?hr ?_; (case hd => rfl); (case hg => rfl); (case hr => first | (go_simp; done) | (go_simp; rfl)); intro g9 hg w4_ hbox hb; have BK9 := Aside0.mk hbox; have G9 := Aside0.mk (show W.heap.size ≤ g9 by rw [hg]; exact below_size HB.out); have N3_9 := Aside0.mk (show g3 ≠ g9 by rw [hg]; exact Nat.ne_of_lt (blk_lt BK3.out)); have N5_9 := Aside0.mk (show g5 ≠ g9 by rw [hg]; exact Nat.ne_of_lt (blk_lt BK5.out)); have N6_9 := Aside0.mk (show g6 ≠ g9 by rw [hg]; exact Nat.ne_of_lt (blk_lt BK6.out)); have n0 := Aside0.mk (below_step HB.out hb); have n1 := Aside0.mk (blk_below BK3.out hb); have n2 := Aside0.mk (blk_below BK5.out hb); have n3 := Aside0.mk (blk_below BK6.out hb); clear HB BK3 BK5 BK6; have HB := n0; have BK3 := n1; have BK5 := n2; have BK6 := n3; clear n0 n1 n2 n3; clear hb hbox hg)
    | ((with_reducible refine gate_store (p := 9) rfl ?_); refine row_store rfl size_itm (.tmp 9) (.tmp 17) rfl g9 (ia ⟨false, e⟩) (ia it0) rfl rfl BK9.out (ia_size (x := ⟨false, e⟩) HE.out) (ia_size hd0_wf) (ia_one _) ?_; intro s5_ bk hoth hbel; have n0 := Aside0.mk (hbel _ _ HB.out G9.out); have n1 := Aside0.mk ((hoth g3 N3_9.out).trans BK3.out); have n2 := Aside0.mk ((hoth g5 N5_9.out).trans BK5.out); have n3 := Aside0.mk ((hoth g6 N6_9.out).trans BK6.out); have n4 := Aside0.mk bk; clear HB BK3 BK5 BK6 BK9; have HB := n0; have BK3 := n1; have BK5 := n2; have BK6 := n3; have BK9 := n4; clear n0 n1 n2 n3 n4; clear bk hoth hbel)
    | ((with_reducible refine gate_dst (N := 19) rfl ?_); refine wl_load rfl rfl rfl (load_row Tryd.underlying24 rfl size_tap BK3.out (rfl)) ?_)
    | (go_at_call 15; (with_reducible refine (HCK.out _ HB.out).mono ?_); rintro e w6_ ⟨rfl, hb⟩; have n0 := Aside0.mk (below_step HB.out hb); have n1 := Aside0.mk (blk_below BK3.out hb); have n2 := Aside0.mk (blk_below BK5.out hb); have n3 := Aside0.mk (blk_below BK6.out hb); have n4 := Aside0.mk (blk_below BK9.out hb); clear HB BK3 BK5 BK6 BK9; have HB := n0; have BK3 := n1; have BK5 := n2; have BK6 := n3; have BK9 := n4; clear n0 n1 n2 n3 n4; clear hb)
    | ((with_reducible refine gate_dst (N := 23) rfl ?_); refine gate_guard (by rfl) ?_; refine wl_load rfl rfl rfl (load_row Tryd.underlying30 rfl size_evt BK5.out (ea_size HE.out)) ?_)
    | (go_at_call 38; (with_reducible refine (HEV.out _).mono ?_); rintro e w7_ ⟨rfl, hb⟩; have n0 := Aside0.mk (below_step HB.out hb); have n1 := Aside0.mk (blk_below BK3.out hb); have n2 := Aside0.mk (blk_below BK5.out hb); have n3 := Aside0.mk (blk_below BK6.out hb); have n4 := Aside0.mk (blk_below BK9.out hb); clear HB BK3 BK5 BK6 BK9; have HB := n0; have BK3 := n1; have BK5 := n2; have BK6 := n3; have BK9 := n4; clear n0 n1 n2 n3 n4; clear hb)
    | ((with_reducible refine gate_dst (N := 38) rfl ?_); refine wl_load rfl rfl rfl (load_cell (k := 1) Tryd.underlying4 rfl BK3.out rfl) ?_)
    | ((with_reducible refine gate_dst (N := 50) rfl ?_); refine wl_load rfl rfl rfl (load_cell (k := 1) Tryd.underlying4 rfl BK3.out rfl) ?_)
    | ((with_reducible refine gate_dst (N := 60) rfl ?_); refine wl_load rfl rfl rfl (load_row Tryd.underlying24 rfl size_tap BK3.out (rfl)) ?_)
    | (go_at_call 37; have HB0 := HB; (with_reducible refine (HTW.out _ HB.out).mono ?_); rintro e w8_ ⟨v61, rfl, ho, hb⟩; obtain ⟨A61, c61, rfl⟩ := own_slice ho; have n0 := Aside0.mk (below_step HB.out hb); have n1 := Aside0.mk (blk_below BK3.out hb); have n2 := Aside0.mk (blk_below BK5.out hb); have n3 := Aside0.mk (blk_below BK6.out hb); have n4 := Aside0.mk (blk_below BK9.out hb); clear HB BK3 BK5 BK6 BK9; have HB := n0; have BK3 := n1; have BK5 := n2; have BK6 := n3; have BK9 := n4; clear n0 n1 n2 n3 n4; have O61 := Aside0.mk (own_weaken ho (below_size HB0.out)); clear hb)
    | ((with_reducible refine gate_dst (N := 10) rfl ?_); refine box_event ?hg (N := 10) ?hd (cs := #[.slice none 0 0, .bool false]) (t := 24) ?hr ?_; (case hd => rfl); (case hg => rfl); (case hr => first | (go_simp; done) | (go_simp; rfl)); intro g10 hg w9_ hbox hb; have BK10 := Aside0.mk hbox; have G10 := Aside0.mk (show W.heap.size ≤ g10 by rw [hg]; exact below_size HB.out); have N3_10 := Aside0.mk (show g3 ≠ g10 by rw [hg]; exact Nat.ne_of_lt (blk_lt BK3.out)); have N5_10 := Aside0.mk (show g5 ≠ g10 by rw [hg]; exact Nat.ne_of_lt (blk_lt BK5.out)); have N6_10 := Aside0.mk (show g6 ≠ g10 by rw [hg]; exact Nat.ne_of_lt (blk_lt BK6.out)); have N9_10 := Aside0.mk (show g9 ≠ g10 by rw [hg]; exact Nat.ne_of_lt (blk_lt BK9.out)); have n0 := Aside0.mk (below_step HB.out hb); have n1 := Aside0.mk (blk_below BK3.out hb); have n2 := Aside0.mk (blk_below BK5.out hb); have n3 := Aside0.mk (blk_below BK6.out hb); have n4 := Aside0.mk (blk_below BK9.out hb); have n5 := Aside0.mk (pw_own_below O61.out hb); clear HB BK3 BK5 BK6 BK9 O61; have HB := n0; have BK3 := n1; have BK5 := n2; have BK6 := n3; have BK9 := n4; have O61 := n5; clear n0 n1 n2 n3 n4 n5; clear hb hbox hg)
    | ((with_reducible refine gate_store (p := 10) rfl ?_); refine row_store rfl size_tap (.tmp 10) (.tmp 61) rfl g10 (#[.slice A61 n c61, .bool true]) (#[.slice none 0 0, .bool false]) rfl rfl BK10.out (rfl) (rfl) (tap_one _ _ _ _) ?_; intro s10_ bk hoth hbel; have n0 := Aside0.mk (hbel _ _ HB.out G10.out); have n1 := Aside0.mk ((hoth g3 N3_10.out).trans BK3.out); have n2 := Aside0.mk ((hoth g5 N5_10.out).trans BK5.out); have n3 := Aside0.mk ((hoth g6 N6_10.out).trans BK6.out); have n4 := Aside0.mk ((hoth g9 N9_10.out).trans BK9.out); have n5 := Aside0.mk (own_store O61.out BK10.out (by decide) hoth); have n6 := Aside0.mk bk; clear HB BK3 BK5 BK6 BK9 O61 BK10; have HB := n0; have BK3 := n1; have BK5 := n2; have BK6 := n3; have BK9 := n4; have O61 := n5; have BK10 := n6; clear n0 n1 n2 n3 n4 n5 n6; clear bk hoth hbel)
    | ((with_reducible refine gate_store (p := 62) rfl ?_); refine cell_store rfl (.tmp 62) (.const (.bool true)) rfl g10 1 (.bool true) (#[.slice A61 n c61, .bool true]) (#[.slice A61 n c61, .bool true]) rfl rfl BK10.out rfl rfl rfl ?_; intro s11_ bk hoth hbel; have n0 := Aside0.mk (hbel _ _ HB.out G10.out); have n1 := Aside0.mk ((hoth g3 N3_10.out).trans BK3.out); have n2 := Aside0.mk ((hoth g5 N5_10.out).trans BK5.out); have n3 := Aside0.mk ((hoth g6 N6_10.out).trans BK6.out); have n4 := Aside0.mk ((hoth g9 N9_10.out).trans BK9.out); have n5 := Aside0.mk (own_store O61.out BK10.out (by decide) hoth); have n6 := Aside0.mk bk; clear HB BK3 BK5 BK6 BK9 O61 BK10; have HB := n0; have BK3 := n1; have BK5 := n2; have BK6 := n3; have BK9 := n4; have O61 := n5; have BK10 := n6; clear n0 n1 n2 n3 n4 n5 n6; clear bk hoth hbel)
    | ((with_reducible refine gate_dst (N := 63) rfl ?_); refine wl_load rfl rfl rfl (load_row Tryd.underlying24 rfl size_tap BK10.out (rfl)) ?_)
    | ((with_reducible refine gate_store (p := 6) rfl ?_); refine row_store rfl size_tap (.tmp 6) (.tmp 63) rfl g6 (#[.slice A61 n c61, .bool true]) (#[.slice none 0 0, .bool false]) rfl rfl BK6.out (rfl) (rfl) (tap_one _ _ _ _) ?_; intro s12_ bk hoth hbel; have n0 := Aside0.mk (hbel _ _ HB.out G6.out); have n1 := Aside0.mk ((hoth g3 N3_6.out).trans BK3.out); have n2 := Aside0.mk ((hoth g5 N5_6.out).trans BK5.out); have n3 := Aside0.mk bk; have n4 := Aside0.mk ((hoth g9 (fun e => N6_9.out e.symm)).trans BK9.out); have n5 := Aside0.mk (own_store O61.out BK6.out (by decide) hoth); have n6 := Aside0.mk ((hoth g10 (fun e => N6_10.out e.symm)).trans BK10.out); clear HB BK3 BK5 BK6 BK9 O61 BK10; have HB := n0; have BK3 := n1; have BK5 := n2; have BK6 := n3; have BK9 := n4; have O61 := n5; have BK10 := n6; clear n0 n1 n2 n3 n4 n5 n6; clear bk hoth hbel))
  refine bodyPost_ret (results_ct rfl _ _ g6 24 #[.slice A61 n c61, .bool true] (0, 0) _ rfl BK6.out Tryd.underlying24 rfl size_tap) rfl ?_
  exact ⟨_, rfl, by rw [HLN.out]; exact O61.out, HB.out⟩
set_option maxHeartbeats 16000000 in
set_option maxRecDepth 100000 in
theorem push_lost0 (A : Option Addr) (n c : Nat) (l : List Itm) (lost : Bool) (room : Int) (e : Evt) (W : World) (h : Its W A n c l) (hg : GT W) (he : e.hd.wf) (hb1 : tapOk l = true) (hb2 : evOk e = true) (hr1 : 1 ≤ room) (hr2 : room ≤ 64) (hlost : lost = false) (hl : ¬ 1 ≤ room - (n : Int)) :
    Calls Tryd.prog 11 #[.agg #[.slice A n c, .bool lost], .int .i64 room, .agg (ea e)] W fun x W' => ∃ v, x = .returned (.tuple #[.agg #[v, .bool (pushP ⟨l, lost⟩ room e).1.lost], .int .i64 (pushP ⟨l, lost⟩ room e).2]) ∧ W'.ownsRow W.heap.size 32 101 v (pushP ⟨l, lost⟩ room e).1.its.length (flatI (pushP ⟨l, lost⟩ room e).1.its) ∧ Below W.heap.size W W' := by
  have hn64 : n ≤ 64 := by
    have := hb1
    unfold tapOk at this
    simp only [Bool.and_eq_true, decide_eq_true_eq] at this
    rw [← h.len]
    exact this.1
  have hsub : wrap64 (room - (n : Int)) = room - (n : Int) := by unfold wrap64; omega
  have ep : pushP ⟨l, lost⟩ room e = (⟨l, true⟩, 0) := by
    unfold pushP withP
    rw [if_pos ⟨hb1, hb2⟩, if_pos ⟨hr1, hr2⟩, if_neg (by rw [hlost]; simp), if_neg (by rw [h.len]; exact fun x => hl x.2)]
  rw [ep]
  have IT := Aside0.mk h
  have GG := Aside0.mk hg
  have HE := Aside0.mk he
  have HB := Aside0.mk (Below.refl W.heap.size W)
  have HLN := Aside0.mk h.len
  have HCK : Aside0 (∀ w, Below W.heap.size W w → Calls Tryd.prog 15 #[.agg #[.slice A n c, .bool lost]] w fun x W' => x = .returned (.int .i64 (ccode l)) ∧ Below w.heap.size w W') := ⟨fun w hw => check_walk A n c l lost w (IT.out.below hw) (GG.out.below GG.out.lt hw)⟩
  have HEV : Aside0 (∀ w, Calls Tryd.prog 38 #[.agg (ea e)] w fun x W' => x = .returned (.bool (evOk e)) ∧ Below w.heap.size w W') := ⟨fun w => event_walk e HE.out w⟩
  rw [ccode_yes hb1] at HCK
  rw [hb2] at HEV
  have HTW : Aside0 (∀ w, Below W.heap.size W w → Calls Tryd.prog 37 #[.agg #[.slice A n c, .bool lost]] w fun x W' => ∃ v, x = .returned (.agg #[v, .bool lost]) ∧ W'.ownsRow w.heap.size 32 101 v n (flatI l) ∧ Below w.heap.size w W') := ⟨fun w hw => taptwin_walk A n c l lost w (IT.out.below hw) (by omega)⟩
  subst hlost
  clear h hg he ep hb1 hb2
  go_enter Tryd.func11, Tryd.ntmps11
  go_wp2_with (
    first
    | ((with_reducible refine gate_dst (N := 3) rfl ?_); refine box_event ?hg (N := 3) ?hd (cs := #[.slice A n c, .bool false]) (t := 24) ?hr ?_; (case hd => rfl); (case hg => rfl); (case hr => first | (go_simp; done) | (go_simp; rfl)); intro g3 hg w1_ hbox hb; have BK3 := Aside0.mk hbox; have G3 := Aside0.mk (show W.heap.size ≤ g3 by rw [hg]; exact below_size HB.out); have n0 := Aside0.mk (below_step HB.out hb); clear HB; have HB := n0; clear n0; clear hb hbox hg)
    | ((with_reducible refine gate_dst (N := 5) rfl ?_); refine box_event ?hg (N := 5) ?hd (cs := ea e) (t := 30) ?hr ?_; (case hd => rfl); (case hg => rfl); (case hr => first | (go_simp; done) | (go_simp; rfl)); intro g5 hg w2_ hbox hb; have BK5 := Aside0.mk hbox; have G5 := Aside0.mk (show W.heap.size ≤ g5 by rw [hg]; exact below_size HB.out); have N3_5 := Aside0.mk (show g3 ≠ g5 by rw [hg]; exact Nat.ne_of_lt (blk_lt BK3.out)); have n0 := Aside0.mk (below_step HB.out hb); have n1 := Aside0.mk (blk_below BK3.out hb); clear HB BK3; have HB := n0; have BK3 := n1; clear n0 n1; clear hb hbox hg)
    | ((with_reducible refine gate_dst (N := 6) rfl ?_); refine box_event ?hg (N := 6) ?hd (cs := #[.slice none 0 0, .bool false]) (t := 24) ?hr ?_; (case hd => rfl); (case hg => rfl); (case hr => first | (go_simp; done) | (go_simp; rfl)); intro g6 hg w3_ hbox hb; have BK6 := Aside0.mk hbox; have G6 := Aside0.mk (show W.heap.size ≤ g6 by rw [hg]; exact below_size HB.out); have N3_6 := Aside0.mk (show g3 ≠ g6 by rw [hg]; exact Nat.ne_of_lt (blk_lt BK3.out)); have N5_6 := Aside0.mk (show g5 ≠ g6 by rw [hg]; exact Nat.ne_of_lt (blk_lt BK5.out)); have n0 := Aside0.mk (below_step HB.out hb); have n1 := Aside0.mk (blk_below BK3.out hb); have n2 := Aside0.mk (blk_below BK5.out hb); clear HB BK3 BK5; have HB := n0; have BK3 := n1; have BK5 := n2; clear n0 n1 n2; clear hb hbox hg)
    | ((with_reducible refine gate_dst (N := 13) rfl ?_); refine wl_load rfl rfl rfl (load_cell (k := 0) Tryd.underlying22 rfl BK3.out rfl) ?_)
    | ((with_reducible refine gate_dst (N := 16) rfl ?_); refine wl_load rfl rfl rfl (load_row Tryd.underlying30 rfl size_evt BK5.out (ea_size HE.out)) ?_)
    | ((with_reducible refine gate_dst (N := 17) rfl ?_); refine wl_build1 (v := .agg (ea e)) (cells := ia ⟨false, e⟩) rfl rfl rfl (built_itm e HE.out) ?_)
    | ((with_reducible refine gate_dst (N := 9) rfl ?_); refine box_event ?hg (N := 9) ?hd (cs := ia it0) (t := 32) ?hr ?_; (case hd => rfl); (case hg => rfl); (case hr => first | (go_simp; done) | (go_simp; rfl)); intro g9 hg w4_ hbox hb; have BK9 := Aside0.mk hbox; have G9 := Aside0.mk (show W.heap.size ≤ g9 by rw [hg]; exact below_size HB.out); have N3_9 := Aside0.mk (show g3 ≠ g9 by rw [hg]; exact Nat.ne_of_lt (blk_lt BK3.out)); have N5_9 := Aside0.mk (show g5 ≠ g9 by rw [hg]; exact Nat.ne_of_lt (blk_lt BK5.out)); have N6_9 := Aside0.mk (show g6 ≠ g9 by rw [hg]; exact Nat.ne_of_lt (blk_lt BK6.out)); have n0 := Aside0.mk (below_step HB.out hb); have n1 := Aside0.mk (blk_below BK3.out hb); have n2 := Aside0.mk (blk_below BK5.out hb); have n3 := Aside0.mk (blk_below BK6.out hb); clear HB BK3 BK5 BK6; have HB := n0; have BK3 := n1; have BK5 := n2; have BK6 := n3; clear n0 n1 n2 n3; clear hb hbox hg)
    | ((with_reducible refine gate_store (p := 9) rfl ?_); refine row_store rfl size_itm (.tmp 9) (.tmp 17) rfl g9 (ia ⟨false, e⟩) (ia it0) rfl rfl BK9.out (ia_size (x := ⟨false, e⟩) HE.out) (ia_size hd0_wf) (ia_one _) ?_; intro s5_ bk hoth hbel; have n0 := Aside0.mk (hbel _ _ HB.out G9.out); have n1 := Aside0.mk ((hoth g3 N3_9.out).trans BK3.out); have n2 := Aside0.mk ((hoth g5 N5_9.out).trans BK5.out); have n3 := Aside0.mk ((hoth g6 N6_9.out).trans BK6.out); have n4 := Aside0.mk bk; clear HB BK3 BK5 BK6 BK9; have HB := n0; have BK3 := n1; have BK5 := n2; have BK6 := n3; have BK9 := n4; clear n0 n1 n2 n3 n4; clear bk hoth hbel)
    | ((with_reducible refine gate_dst (N := 19) rfl ?_); refine wl_load rfl rfl rfl (load_row Tryd.underlying24 rfl size_tap BK3.out (rfl)) ?_)
    | (go_at_call 15; (with_reducible refine (HCK.out _ HB.out).mono ?_); rintro e w6_ ⟨rfl, hb⟩; have n0 := Aside0.mk (below_step HB.out hb); have n1 := Aside0.mk (blk_below BK3.out hb); have n2 := Aside0.mk (blk_below BK5.out hb); have n3 := Aside0.mk (blk_below BK6.out hb); have n4 := Aside0.mk (blk_below BK9.out hb); clear HB BK3 BK5 BK6 BK9; have HB := n0; have BK3 := n1; have BK5 := n2; have BK6 := n3; have BK9 := n4; clear n0 n1 n2 n3 n4; clear hb)
    | ((with_reducible refine gate_dst (N := 23) rfl ?_); refine gate_guard (by rfl) ?_; refine wl_load rfl rfl rfl (load_row Tryd.underlying30 rfl size_evt BK5.out (ea_size HE.out)) ?_)
    | (go_at_call 38; (with_reducible refine (HEV.out _).mono ?_); rintro e w7_ ⟨rfl, hb⟩; have n0 := Aside0.mk (below_step HB.out hb); have n1 := Aside0.mk (blk_below BK3.out hb); have n2 := Aside0.mk (blk_below BK5.out hb); have n3 := Aside0.mk (blk_below BK6.out hb); have n4 := Aside0.mk (blk_below BK9.out hb); clear HB BK3 BK5 BK6 BK9; have HB := n0; have BK3 := n1; have BK5 := n2; have BK6 := n3; have BK9 := n4; clear n0 n1 n2 n3 n4; clear hb)
    | ((with_reducible refine gate_dst (N := 38) rfl ?_); refine wl_load rfl rfl rfl (load_cell (k := 1) Tryd.underlying4 rfl BK3.out rfl) ?_)
    | ((with_reducible refine gate_dst (N := 50) rfl ?_); refine wl_load rfl rfl rfl (load_cell (k := 1) Tryd.underlying4 rfl BK3.out rfl) ?_)
    | ((with_reducible refine gate_dst (N := 60) rfl ?_); refine wl_load rfl rfl rfl (load_row Tryd.underlying24 rfl size_tap BK3.out (rfl)) ?_)
    | (go_at_call 37; have HB0 := HB; (with_reducible refine (HTW.out _ HB.out).mono ?_); rintro e w8_ ⟨v61, rfl, ho, hb⟩; obtain ⟨A61, c61, rfl⟩ := own_slice ho; have n0 := Aside0.mk (below_step HB.out hb); have n1 := Aside0.mk (blk_below BK3.out hb); have n2 := Aside0.mk (blk_below BK5.out hb); have n3 := Aside0.mk (blk_below BK6.out hb); have n4 := Aside0.mk (blk_below BK9.out hb); clear HB BK3 BK5 BK6 BK9; have HB := n0; have BK3 := n1; have BK5 := n2; have BK6 := n3; have BK9 := n4; clear n0 n1 n2 n3 n4; have O61 := Aside0.mk (own_weaken ho (below_size HB0.out)); clear hb)
    | ((with_reducible refine gate_dst (N := 10) rfl ?_); refine box_event ?hg (N := 10) ?hd (cs := #[.slice none 0 0, .bool false]) (t := 24) ?hr ?_; (case hd => rfl); (case hg => rfl); (case hr => first | (go_simp; done) | (go_simp; rfl)); intro g10 hg w9_ hbox hb; have BK10 := Aside0.mk hbox; have G10 := Aside0.mk (show W.heap.size ≤ g10 by rw [hg]; exact below_size HB.out); have N3_10 := Aside0.mk (show g3 ≠ g10 by rw [hg]; exact Nat.ne_of_lt (blk_lt BK3.out)); have N5_10 := Aside0.mk (show g5 ≠ g10 by rw [hg]; exact Nat.ne_of_lt (blk_lt BK5.out)); have N6_10 := Aside0.mk (show g6 ≠ g10 by rw [hg]; exact Nat.ne_of_lt (blk_lt BK6.out)); have N9_10 := Aside0.mk (show g9 ≠ g10 by rw [hg]; exact Nat.ne_of_lt (blk_lt BK9.out)); have n0 := Aside0.mk (below_step HB.out hb); have n1 := Aside0.mk (blk_below BK3.out hb); have n2 := Aside0.mk (blk_below BK5.out hb); have n3 := Aside0.mk (blk_below BK6.out hb); have n4 := Aside0.mk (blk_below BK9.out hb); have n5 := Aside0.mk (pw_own_below O61.out hb); clear HB BK3 BK5 BK6 BK9 O61; have HB := n0; have BK3 := n1; have BK5 := n2; have BK6 := n3; have BK9 := n4; have O61 := n5; clear n0 n1 n2 n3 n4 n5; clear hb hbox hg)
    | ((with_reducible refine gate_store (p := 10) rfl ?_); refine row_store rfl size_tap (.tmp 10) (.tmp 61) rfl g10 (#[.slice A61 n c61, .bool false]) (#[.slice none 0 0, .bool false]) rfl rfl BK10.out (rfl) (rfl) (tap_one _ _ _ _) ?_; intro s10_ bk hoth hbel; have n0 := Aside0.mk (hbel _ _ HB.out G10.out); have n1 := Aside0.mk ((hoth g3 N3_10.out).trans BK3.out); have n2 := Aside0.mk ((hoth g5 N5_10.out).trans BK5.out); have n3 := Aside0.mk ((hoth g6 N6_10.out).trans BK6.out); have n4 := Aside0.mk ((hoth g9 N9_10.out).trans BK9.out); have n5 := Aside0.mk (own_store O61.out BK10.out (by decide) hoth); have n6 := Aside0.mk bk; clear HB BK3 BK5 BK6 BK9 O61 BK10; have HB := n0; have BK3 := n1; have BK5 := n2; have BK6 := n3; have BK9 := n4; have O61 := n5; have BK10 := n6; clear n0 n1 n2 n3 n4 n5 n6; clear bk hoth hbel)
    | ((with_reducible refine gate_store (p := 62) rfl ?_); refine cell_store rfl (.tmp 62) (.const (.bool true)) rfl g10 1 (.bool true) (#[.slice A61 n c61, .bool false]) (#[.slice A61 n c61, .bool true]) rfl rfl BK10.out rfl rfl rfl ?_; intro s11_ bk hoth hbel; have n0 := Aside0.mk (hbel _ _ HB.out G10.out); have n1 := Aside0.mk ((hoth g3 N3_10.out).trans BK3.out); have n2 := Aside0.mk ((hoth g5 N5_10.out).trans BK5.out); have n3 := Aside0.mk ((hoth g6 N6_10.out).trans BK6.out); have n4 := Aside0.mk ((hoth g9 N9_10.out).trans BK9.out); have n5 := Aside0.mk (own_store O61.out BK10.out (by decide) hoth); have n6 := Aside0.mk bk; clear HB BK3 BK5 BK6 BK9 O61 BK10; have HB := n0; have BK3 := n1; have BK5 := n2; have BK6 := n3; have BK9 := n4; have O61 := n5; have BK10 := n6; clear n0 n1 n2 n3 n4 n5 n6; clear bk hoth hbel)
    | ((with_reducible refine gate_dst (N := 63) rfl ?_); refine wl_load rfl rfl rfl (load_row Tryd.underlying24 rfl size_tap BK10.out (rfl)) ?_)
    | ((with_reducible refine gate_store (p := 6) rfl ?_); refine row_store rfl size_tap (.tmp 6) (.tmp 63) rfl g6 (#[.slice A61 n c61, .bool true]) (#[.slice none 0 0, .bool false]) rfl rfl BK6.out (rfl) (rfl) (tap_one _ _ _ _) ?_; intro s12_ bk hoth hbel; have n0 := Aside0.mk (hbel _ _ HB.out G6.out); have n1 := Aside0.mk ((hoth g3 N3_6.out).trans BK3.out); have n2 := Aside0.mk ((hoth g5 N5_6.out).trans BK5.out); have n3 := Aside0.mk bk; have n4 := Aside0.mk ((hoth g9 (fun e => N6_9.out e.symm)).trans BK9.out); have n5 := Aside0.mk (own_store O61.out BK6.out (by decide) hoth); have n6 := Aside0.mk ((hoth g10 (fun e => N6_10.out e.symm)).trans BK10.out); clear HB BK3 BK5 BK6 BK9 O61 BK10; have HB := n0; have BK3 := n1; have BK5 := n2; have BK6 := n3; have BK9 := n4; have O61 := n5; have BK10 := n6; clear n0 n1 n2 n3 n4 n5 n6; clear bk hoth hbel))
  refine bodyPost_ret (results_ct rfl _ _ g6 24 #[.slice A61 n c61, .bool true] (0, 0) _ rfl BK6.out Tryd.underlying24 rfl size_tap) rfl ?_
  exact ⟨_, rfl, by rw [HLN.out]; exact O61.out, HB.out⟩
theorem push_walk (A : Option Addr) (n c : Nat) (l : List Itm) (lost : Bool) (room : Int) (e : Evt) (W : World) (h : Its W A n c l) (hg : GT W) (he : e.hd.wf) :
    Calls Tryd.prog 11 #[.agg #[.slice A n c, .bool lost], .int .i64 room, .agg (ea e)] W fun x W' => ∃ v, x = .returned (.tuple #[.agg #[v, .bool (pushP ⟨l, lost⟩ room e).1.lost], .int .i64 (pushP ⟨l, lost⟩ room e).2]) ∧ W'.ownsRow W.heap.size 32 101 v (pushP ⟨l, lost⟩ room e).1.its.length (flatI (pushP ⟨l, lost⟩ room e).1.its) ∧ Below W.heap.size W W' := by
  cases hb1 : tapOk l with
  | false => exact push_bad A n c l lost room e W h hg he (.inl hb1)
  | true =>
    cases hb2 : evOk e with
    | false => exact push_bad A n c l lost room e W h hg he (.inr ⟨hb1, hb2⟩)
    | true =>
      by_cases hr : 1 ≤ room ∧ room ≤ 64
      · cases hlost : lost with
        | true =>
          by_cases hl : 2 ≤ room - (n : Int)
          · exact push_gap A n c l true room e W h hg he hb1 hb2 hr.1 hr.2 rfl hl
          · exact push_lost1 A n c l true room e W h hg he hb1 hb2 hr.1 hr.2 rfl hl
        | false =>
          by_cases hl : 1 ≤ room - (n : Int)
          · exact push_one A n c l false room e W h hg he hb1 hb2 hr.1 hr.2 rfl hl
          · exact push_lost0 A n c l false room e W h hg he hb1 hb2 hr.1 hr.2 rfl hl
      · exact push_arg A n c l lost room e W h hg he hb1 hb2 hr
end Go.Proofs.YtkkkjidbakmjdaaDoor.Q
