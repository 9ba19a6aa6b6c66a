/-
  header.Check, beadrollref14.May, tap.event, beadrollref23.Event: walks.
-/
import Derived.Test.YtkkkjidbakmjdaaDoorTapEq
namespace Go.Proofs.YtkkkjidbakmjdaaDoor.Q
open Go.RowKit Go.Proofs.YtkkkjidbakmjdaaDoorW.PrintWords Go.Proofs.YtkkkjidbakmjdaaDoorW.PrintLast Go.Proofs.YtkkkjidbakmjdaaDoorW.PrintMore
set_option linter.unusedVariables false
set_option linter.unusedSimpArgs false

/-- May a header be? May an event? -/
def hdrOk (x : Hdr) : Bool := decide (0 ≤ x.h) && decide (x.h ≤ 1073741824) && decide (0 ≤ x.m) && decide (x.m ≤ 256)
def evOk (e : Evt) : Bool := decide (0 ≤ e.n) && decide (e.n < 1073741824) && hdrOk e.hd
def hcode (x : Hdr) : Int := if hdrOk x = true then 0 else 8
theorem hdr_yes {x : Hdr} (h : (0 ≤ x.h ∧ x.h ≤ 1073741824) ∧ 0 ≤ x.m ∧ x.m ≤ 256) : hdrOk x = true := by unfold hdrOk; simp; omega
theorem hdr_no {x : Hdr} (h : (x.h < 0 ∨ 1073741824 < x.h) ∨ x.m < 0 ∨ 256 < x.m) : hdrOk x = false := by
  cases e : hdrOk x with
  | false => rfl
  | true => unfold hdrOk at e; simp at e; omega
theorem hcode_yes {x : Hdr} (h : (0 ≤ x.h ∧ x.h ≤ 1073741824) ∧ 0 ≤ x.m ∧ x.m ≤ 256) : hcode x = 0 := if_pos (hdr_yes h)
theorem hcode_no {x : Hdr} (h : (x.h < 0 ∨ 1073741824 < x.h) ∨ x.m < 0 ∨ 256 < x.m) : hcode x = 8 := if_neg (by rw [hdr_no h]; decide)
theorem blk_of {w : World} {g t : Nat} {l : List Value} {fr : Nat × Nat} (h : w.heap[g]? = some (.cells l.toArray t fr)) : Lie w ⟨g, 0, none⟩ l := blk_lie h
theorem ret_int {a b : Int} (h : a = b) : Ending.returned (.int .i64 b) = .returned (.int .i64 a) := by rw [h]
theorem ret_bool {a b : Bool} (h : a = b) : Ending.returned (.bool b) = .returned (.bool a) := by rw [h]
set_option maxHeartbeats 4000000 in
set_option maxRecDepth 100000 in
theorem hcheck_walk (x : Hdr) (hx : x.wf) (W : World) :
    Calls Tryd.prog 58 #[.agg (ha x)] W fun e W' => e = .returned (.int .i64 (hcode x)) ∧ Below W.heap.size W W' := by
  have HB := Aside0.mk (Below.refl W.heap.size W)
  have HX := Aside0.mk hx
  clear hx
  go_enter Tryd.func58, Tryd.ntmps58
  go_wp2_with (
    first
    | ((with_reducible refine gate_dst (N := 1) rfl ?_); refine box_event ?hg (N := 1) ?hd (cs := ha x) (t := 28) ?hr ?_; (case hd => rfl); (case hg => rfl); (case hr => first | (go_simp; done) | (go_simp; rfl));
         intro g1 hg w1 hbox hb; have c0 : w1.cell? ⟨g1, 0, none⟩ = some (.int .i64 x.h) := (blk_of hbox).head; have c97 : w1.cell? ⟨g1, 97, none⟩ = some (.int .i64 x.m) := (addr0 g1 97) ▸ (blk_of hbox).many HX.out; have n0 := Aside0.mk (below_step HB.out hb); clear HB; have HB := n0; clear n0 hb hbox hg))
  all_goals
    go_ret
    first
    | exact ⟨ret_int (hcode_yes (by omega)), HB.out⟩
    | exact ⟨ret_int (hcode_no (by omega)), HB.out⟩
set_option maxHeartbeats 4000000 in
set_option maxRecDepth 100000 in
theorem may14_walk (x : Hdr) (hx : x.wf) (W : World) :
    Calls Tryd.prog 60 #[.agg (ha x)] W fun e W' => e = .returned (.bool (hdrOk x)) ∧ Below W.heap.size W W' := by
  have HB := Aside0.mk (Below.refl W.heap.size W)
  have HX := Aside0.mk hx
  clear hx
  go_enter Tryd.func60, Tryd.ntmps60
  go_wp2_with (
    first
    | ((with_reducible refine gate_dst (N := 1) rfl ?_); refine box_event ?hg (N := 1) ?hd (cs := ha x) (t := 28) ?hr ?_; (case hd => rfl); (case hg => rfl); (case hr => first | (go_simp; done) | (go_simp; rfl));
         intro g1 hg w1 hbox hb; have c0 : w1.cell? ⟨g1, 0, none⟩ = some (.int .i64 x.h) := (blk_of hbox).head; have c97 : w1.cell? ⟨g1, 97, none⟩ = some (.int .i64 x.m) := (addr0 g1 97) ▸ (blk_of hbox).many HX.out; have n0 := Aside0.mk (below_step HB.out hb); clear HB; have HB := n0; clear n0 hb hbox hg))
  all_goals
    go_ret
    exact ⟨ret_bool (by unfold hdrOk; simp; omega), HB.out⟩
set_option maxHeartbeats 4000000 in
set_option maxRecDepth 100000 in
theorem event_walk (x : Evt) (hx : x.hd.wf) (W : World) :
    Calls Tryd.prog 38 #[.agg (ea x)] W fun e W' => e = .returned (.bool (evOk x)) ∧ Below W.heap.size W W' := by
  have HB := Aside0.mk (Below.refl W.heap.size W)
  have HX := Aside0.mk hx
  have HC0 : Aside0 (∀ w, Calls Tryd.prog 58 #[.agg (ha x.hd)] w fun e W' => e = .returned (.int .i64 (hcode x.hd)) ∧ Below w.heap.size w W') := ⟨fun w => hcheck_walk x.hd hx w⟩
  clear hx
  cases hh : hdrOk x.hd with
  | true =>
    have HC : Aside0 (∀ w, Calls Tryd.prog 58 #[.agg (ha x.hd)] w fun e W' => e = .returned (.int .i64 0) ∧ Below w.heap.size w W') := ⟨fun w => by
      have := HC0.out w
      unfold hcode at this; rw [if_pos hh] at this
      exact this⟩
    have HH := Aside0.mk hh
    clear HC0 hh
    go_enter Tryd.func38, Tryd.ntmps38
    go_wp2_with (
      first
      | ((with_reducible refine gate_dst (N := 1) rfl ?_); refine box_event ?hg (N := 1) ?hd (cs := ea x) (t := 30) ?hr ?_; (case hd => rfl); (case hg => rfl); (case hr => first | (go_simp; done) | (go_simp; rfl));
         intro g1 hg w1 hbox hb; have c0 : w1.cell? ⟨g1, 0, none⟩ = some (.int .i64 x.n) := (blk_of hbox).head; have LH : Aside0 (Lie w1 ⟨g1, 2, none⟩ (hcl x.hd)) := ⟨(addr0 g1 2) ▸ (blk_of hbox).hd⟩; have n0 := Aside0.mk (below_step HB.out hb); clear HB; have HB := n0; clear n0 hb hbox hg)
      | ((with_reducible refine gate_dst (N := 13) rfl ?_); refine gate_guard (by rfl) ?_; refine wl_load rfl rfl rfl (load_hdr HX.out LH.out) ?_)
      | (go_at_call 58; (with_reducible refine (HC.out _).mono ?_); rintro e wq ⟨rfl, hb⟩; have n0 := Aside0.mk (below_step HB.out hb); clear HB; have HB := n0; clear n0 hb))
    all_goals
      go_ret
      exact ⟨ret_bool (by unfold evOk; rw [HH.out]; simp; omega), HB.out⟩
  | false =>
    have HC : Aside0 (∀ w, Calls Tryd.prog 58 #[.agg (ha x.hd)] w fun e W' => e = .returned (.int .i64 8) ∧ Below w.heap.size w W') := ⟨fun w => by
      have := HC0.out w
      unfold hcode at this; rw [if_neg (by rw [hh]; decide)] at this
      exact this⟩
    have HH := Aside0.mk hh
    clear HC0 hh
    go_enter Tryd.func38, Tryd.ntmps38
    go_wp2_with (
      first
      | ((with_reducible refine gate_dst (N := 1) rfl ?_); refine box_event ?hg (N := 1) ?hd (cs := ea x) (t := 30) ?hr ?_; (case hd => rfl); (case hg => rfl); (case hr => first | (go_simp; done) | (go_simp; rfl));
         intro g1 hg w1 hbox hb; have c0 : w1.cell? ⟨g1, 0, none⟩ = some (.int .i64 x.n) := (blk_of hbox).head; have LH : Aside0 (Lie w1 ⟨g1, 2, none⟩ (hcl x.hd)) := ⟨(addr0 g1 2) ▸ (blk_of hbox).hd⟩; have n0 := Aside0.mk (below_step HB.out hb); clear HB; have HB := n0; clear n0 hb hbox hg)
      | ((with_reducible refine gate_dst (N := 13) rfl ?_); refine gate_guard (by rfl) ?_; refine wl_load rfl rfl rfl (load_hdr HX.out LH.out) ?_)
      | (go_at_call 58; (with_reducible refine (HC.out _).mono ?_); rintro e wq ⟨rfl, hb⟩; have n0 := Aside0.mk (below_step HB.out hb); clear HB; have HB := n0; clear n0 hb))
    all_goals
      go_ret
      exact ⟨ret_bool (by unfold evOk; rw [HH.out]; simp), HB.out⟩
set_option maxHeartbeats 4000000 in
set_option maxRecDepth 100000 in
theorem event23_walk (x : Evt) (hx : x.hd.wf) (W : World) :
    Calls Tryd.prog 51 #[.agg (ea x)] W fun e W' => e = .returned (.bool (evOk x)) ∧ Below W.heap.size W W' := by
  have HB := Aside0.mk (Below.refl W.heap.size W)
  have HX := Aside0.mk hx
  have HC0 : Aside0 (∀ w, Calls Tryd.prog 60 #[.agg (ha x.hd)] w fun e W' => e = .returned (.bool (hdrOk x.hd)) ∧ Below w.heap.size w W') := ⟨fun w => may14_walk x.hd hx w⟩
  clear hx
  cases hh : hdrOk x.hd with
  | true =>
    have HC : Aside0 (∀ w, Calls Tryd.prog 60 #[.agg (ha x.hd)] w fun e W' => e = .returned (.bool true) ∧ Below w.heap.size w W') := ⟨fun w => by
      have := HC0.out w
      rw [hh] at this
      exact this⟩
    have HH := Aside0.mk hh
    clear HC0 hh
    go_enter Tryd.func51, Tryd.ntmps51
    go_wp2_with (
      first
      | ((with_reducible refine gate_dst (N := 1) rfl ?_); refine box_event ?hg (N := 1) ?hd (cs := ea x) (t := 30) ?hr ?_; (case hd => rfl); (case hg => rfl); (case hr => first | (go_simp; done) | (go_simp; rfl));
         intro g1 hg w1 hbox hb; have c0 : w1.cell? ⟨g1, 0, none⟩ = some (.int .i64 x.n) := (blk_of hbox).head; have LH : Aside0 (Lie w1 ⟨g1, 2, none⟩ (hcl x.hd)) := ⟨(addr0 g1 2) ▸ (blk_of hbox).hd⟩; have n0 := Aside0.mk (below_step HB.out hb); clear HB; have HB := n0; clear n0 hb hbox hg)
      | ((with_reducible refine gate_dst (N := 13) rfl ?_); refine gate_guard (by rfl) ?_; refine wl_load rfl rfl rfl (load_hdr HX.out LH.out) ?_)
      | (go_at_call 60; (with_reducible refine (HC.out _).mono ?_); rintro e wq ⟨rfl, hb⟩; have n0 := Aside0.mk (below_step HB.out hb); clear HB; have HB := n0; clear n0 hb))
    all_goals
      go_ret
      exact ⟨ret_bool (by unfold evOk; rw [HH.out]; simp; omega), HB.out⟩
  | false =>
    have HC : Aside0 (∀ w, Calls Tryd.prog 60 #[.agg (ha x.hd)] w fun e W' => e = .returned (.bool false) ∧ Below w.heap.size w W') := ⟨fun w => by
      have := HC0.out w
      rw [hh] at this
      exact this⟩
    have HH := Aside0.mk hh
    clear HC0 hh
    go_enter Tryd.func51, Tryd.ntmps51
    go_wp2_with (
      first
      | ((with_reducible refine gate_dst (N := 1) rfl ?_); refine box_event ?hg (N := 1) ?hd (cs := ea x) (t := 30) ?hr ?_; (case hd => rfl); (case hg => rfl); (case hr => first | (go_simp; done) | (go_simp; rfl));
         intro g1 hg w1 hbox hb; have c0 : w1.cell? ⟨g1, 0, none⟩ = some (.int .i64 x.n) := (blk_of hbox).head; have LH : Aside0 (Lie w1 ⟨g1, 2, none⟩ (hcl x.hd)) := ⟨(addr0 g1 2) ▸ (blk_of hbox).hd⟩; have n0 := Aside0.mk (below_step HB.out hb); clear HB; have HB := n0; clear n0 hb hbox hg)
      | ((with_reducible refine gate_dst (N := 13) rfl ?_); refine gate_guard (by rfl) ?_; refine wl_load rfl rfl rfl (load_hdr HX.out LH.out) ?_)
      | (go_at_call 60; (with_reducible refine (HC.out _).mono ?_); rintro e wq ⟨rfl, hb⟩; have n0 := Aside0.mk (below_step HB.out hb); clear HB; have HB := n0; clear n0 hb))
    all_goals
      go_ret
      exact ⟨ret_bool (by unfold evOk; rw [HH.out]; simp), HB.out⟩
end Go.Proofs.YtkkkjidbakmjdaaDoor.Q
