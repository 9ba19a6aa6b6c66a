/-
  tap.Twin, tap.with: walks (written by wip/tools/gen_taptwin.py).
-/
import Derived.Test.YtkkkjidbakmjdaaDoorTapMem
namespace Go.Proofs.YtkkkjidbakmjdaaDoor.Q
open Go.RowKit Go.Proofs.YtkkkjidbakmjdaaDoorW.PrintWords Go.Proofs.YtkkkjidbakmjdaaDoorW.PrintLast Go.Proofs.YtkkkjidbakmjdaaDoorW.PrintMore
set_option linter.unusedVariables false
set_option linter.unusedSimpArgs false

theorem results_c {P : Program} {fn : Func} {p : Tmp} {ty : TypeId} (h : fn.results = #[.cell p ty]) (tmps : Array Value) (w : World) (g : Nat) (t : TypeId) (cs : Array Value) (fr : Nat × Nat) (d : TypeDesc)
    (hp : tmps.getD p undef = .pointer (some ⟨g, 0, none⟩)) (hg : w.heap[g]? = some (.cells cs t fr))
    (hu : P.underlying ty = some d) (hd : (match d with | .struct _ | .array _ _ => true | _ => false) = true) (hi : (P.info? ty).map (·.size) = some cs.size) :
    (results fn tmps).run P w = .ok (.agg cs) w := by
  have hp' : tmps[p]?.getD undef = .pointer (some ⟨g, 0, none⟩) := by simpa using hp
  simp [results, h, hp', asAddr, run_loadVar_row w g t ty cs fr d hg hu hd hi]
theorem load_row {w : World} {ty : TypeId} {d : TypeDesc} {n g t : Nat} {cs : Array Value} {fr : Nat × Nat} (hd : Tryd.prog.underlying ty = some d) (hg : (match d with | .struct _ | .array _ _ => true | _ => false) = true) (hn : (Tryd.prog.info? ty).map (·.size) = some n) (h : w.heap[g]? = some (.cells cs t fr)) (hl : cs.size = n) : (loadVar ty ⟨g, 0, none⟩).run Tryd.prog w = .ok (.agg cs) w := by
  have := run_load_lie w ty d n ⟨g, 0, none⟩ cs.toList hd hg hn (by rw [Array.length_toList, hl]) (blk_lie h)
  simpa using this
theorem tap_one (A : Option Addr) (n c : Nat) (b : Bool) : (#[.slice A n c, .bool b] : Array Value).all (·.oneCell') = true := by simp [Value.oneCell']
theorem blk_ev {w : World} {g t : Nat} {x : Itm} {fr : Nat × Nat} (h : w.heap[g]? = some (.cells (ia x) t fr)) : Lie w ⟨g, 1, none⟩ (ecl x.ev) := (addr0 g 1) ▸ (blk_of (l := icl x) h).ev
theorem blk_hd {w : World} {g t : Nat} {x : Evt} {fr : Nat × Nat} (h : w.heap[g]? = some (.cells (ea x) t fr)) : Lie w ⟨g, 2, none⟩ (hcl x.hd) := (addr0 g 2) ▸ (blk_of (l := ecl x) h).hd
theorem load_one {w : World} {ty : TypeId} {d : TypeDesc} {e : Addr} {v : Value} (hd : Tryd.prog.underlying ty = some d) (hg : (match d with | .struct _ | .array _ _ => true | _ => false) = false) (h : w.cell? e = some v) : (loadVar ty e).run Tryd.prog w = .ok v w := by
  have hagg : (isAgg ty).run Tryd.prog w = .ok false w := by
    unfold isAgg
    rw [Sem.run_bind, run_underlying hd w]
    cases d <;> simp at hg <;> rfl
  simp [loadVar, Sem.run_bind, hagg, h]
theorem load_cell {w : World} {ty : TypeId} {d : TypeDesc} {g t k : Nat} {cs : Array Value} {fr : Nat × Nat} {v : Value} (hd : Tryd.prog.underlying ty = some d) (hg : (match d with | .struct _ | .array _ _ => true | _ => false) = false) (h : w.heap[g]? = some (.cells cs t fr)) (hv : cs[k]? = some v) : (loadVar ty ⟨g, k, none⟩).run Tryd.prog w = .ok v w :=
  load_one hd hg ((cell_of_row w g k cs t fr h).trans hv)
/-- One cell of a block, stored. -/
theorem cell_store {ops : Array Oper} {rest : List Oper} {o : Oper} {a : Act} {W : World} {Q : Exit → Act → World → Prop} (hgd : o.guard = none) {ty : TypeId} (x y : Operand) (ho : o.op = .store ty x y) (g k : Nat) (v : Value) (cs cs' : Array Value) (hx : a.eval x = .pointer (some ⟨g, k, none⟩)) (hy : a.eval y = v) {t : TypeId}
    (hg : W.heap[g]? = some (.cells cs t (0, 0))) (hs : (Tryd.prog.info? ty).map (·.size) = some 1) (h1 : v.oneCell' = true) (hcs : (if k < cs.size then some (cs.setIfInBounds k v) else none) = some cs')
    (h : ∀ w1, w1.heap[g]? = some (.cells cs' t (0, 0)) → (∀ j, j ≠ g → w1.heap[j]? = W.heap[j]?) → (∀ (B : Nat) (w0 : World), Below B w0 W → B ≤ g → Below B w0 w1) → wpList Tryd.prog ops Q rest (a.put o.dst undef) w1) : wpList Tryd.prog ops Q (o :: rest) a W := by
  by_cases hk : k < cs.size
  · rw [if_pos hk] at hcs
    cases hcs
    refine wpList_plain hgd fun K hK => ?_
    have hc : W.cell? ⟨g, k, none⟩ = some (cs[k]'hk) := (cell_of_row W g k cs t (0, 0) hg).trans (Array.getElem?_eq_getElem hk)
    have hf : W.frozen? ⟨g, k, none⟩ = false := blk_frozen hg k
    have hv : v.cells = #[v] := by cases v <;> first | rfl | cases h1
    obtain ⟨i, hi, hsz⟩ := Option.map_eq_some_iff.1 hs
    have hst : (store ⟨g, k, none⟩ v).run Tryd.prog W = .ok () (W.setCell ⟨g, k, none⟩ v) := (run_store _ _ _ _ _ h1).trans (by rw [hc]; simp [hf])
    have e0 : (⟨g, k, none⟩ : Addr).add 0 = ⟨g, k, none⟩ := by simp [Addr.add]
    have hr : (storeVar ty ⟨g, k, none⟩ v).run Tryd.prog W = .ok () (W.setCell ⟨g, k, none⟩ v) := by
      simp [storeVar, sizeOf, typeInfo, hi, hsz, hv, storeCells, e0, hst]
    unfold Oper.wp execOp
    simp only [ho, hx, hy, Instr.storeAt, Instr.sureAddr, Sem.run_bind, Sem.run_pure, Result.andThen_ok, hr]
    exact hK _ _ (h _ (blk_put hg k v rfl) (fun j hj => Below.heap_setCell W ⟨g, k, none⟩ v j hj) (fun B w0 hb hB => hb.setCell (p := ⟨g, k, none⟩) hB v))
  · rw [if_neg hk] at hcs
    cases hcs
theorem own_store {w w1 : World} {base : Nat} {e : TypeId} {size n : Nat} {v : Value} {xs : List Value} (h : w.ownsRow base e size v n xs) {g : Nat} {t : TypeId} {cs : Array Value} (hg : w.heap[g]? = some (.cells cs t (0, 0))) (ht : t ≠ e) (hoth : ∀ k, k ≠ g → w1.heap[k]? = w.heap[k]?) : w1.ownsRow base e size v n xs :=
  own_move h fun k hk => hoth k (fun ek => by
    subst ek
    obtain ⟨cells, hc⟩ := own_typed h k hk
    rw [hg] at hc
    cases hc
    exact ht rfl)
theorem io_store {w w1 : World} {base n c : Nat} {A : Option Addr} {l : List Itm} (h : ItsO w base A n c l) {g : Nat} {t : TypeId} {cs : Array Value} (hg : w.heap[g]? = some (.cells cs t (0, 0))) (ht : t ≠ 32) (hoth : ∀ k, k ≠ g → w1.heap[k]? = w.heap[k]?) : ItsO w1 base A n c l := by
  have each : ∀ ad, A = some ad → ∃ g' k cur, ad = ⟨g', k, none⟩ ∧ base ≤ g' ∧ w.heap[g']? = some (.cells cur 32 (0, 0)) ∧ w1.heap[g']? = some (.cells cur 32 (0, 0)) ∧ k + n * 101 ≤ cur.size := fun ad e => by
    obtain ⟨g', k, cur, e1, h1, h2, h3⟩ := h.2 ad e
    exact ⟨g', k, cur, e1, h1, h2, (hoth g' (fun eg => by subst eg; rw [hg] at h2; cases h2; exact ht rfl)).trans h2, h3⟩
  refine ⟨⟨h.1.len, h.1.le, h.1.max, h.1.nil_, fun ad e i v hv => ?_, h.1.wf⟩, fun ad e => ?_⟩
  · obtain ⟨g', k, cur, e1, h1, h2, h3, _⟩ := each ad e
    have hc := h.1.lie ad e i v hv
    subst e1
    have ea : (⟨g', k, none⟩ : Addr).add i = ⟨g', k + i, none⟩ := by rw [← addr0 g' k, addr_add, addr0]
    rw [ea, cell_of_row w g' (k + i) cur 32 (0, 0) h2] at hc
    rw [ea, cell_of_row w1 g' (k + i) cur 32 (0, 0) h3]
    exact hc
  · obtain ⟨g', k, cur, e1, h1, h2, h3, h4⟩ := each ad e
    exact ⟨g', k, cur, e1, h1, h3, h4⟩

set_option maxHeartbeats 8000000 in
set_option maxRecDepth 100000 in
theorem taptwin_walk (A : Option Addr) (n c : Nat) (l : List Itm) (lost : Bool) (W : World) (h : Its W A n c l) (hn : n ≤ 1000) :
    Calls Tryd.prog 37 #[.agg #[.slice A n c, .bool lost]] W fun e W' => ∃ v, e = .returned (.agg #[v, .bool lost]) ∧ W'.ownsRow W.heap.size 32 101 v n (flatI l) ∧ Below W.heap.size W W' := by
  have IT := Aside0.mk h
  have HN := Aside0.mk hn
  have HB := Aside0.mk (Below.refl W.heap.size W)
  clear h hn
  go_enter Tryd.func37, Tryd.ntmps37
  go_wp2_with (
    first
    | ((with_reducible refine gate_dst (N := 1) rfl ?_); refine box_event ?hg (N := 1) ?hd (cs := #[.slice A n c, .bool lost]) (t := 24) ?hr ?_; (case hd => rfl); (case hg => rfl); (case hr => first | (go_simp; done) | (go_simp; rfl)); intro g1 hg w1_ hbox hb; have BK1 := Aside0.mk hbox; have G1 := Aside0.mk (show W.heap.size ≤ g1 by rw [hg]; exact below_size HB.out); have n0 := Aside0.mk (below_step HB.out hb); clear HB; have HB := n0; clear n0; clear hb hbox hg)
    | ((with_reducible refine gate_dst (N := 2) rfl ?_); refine box_event ?hg (N := 2) ?hd (cs := #[.slice none 0 0, .bool false]) (t := 24) ?hr ?_; (case hd => rfl); (case hg => rfl); (case hr => first | (go_simp; done) | (go_simp; rfl)); intro g2 hg w2_ hbox hb; have BK2 := Aside0.mk hbox; have G2 := Aside0.mk (show W.heap.size ≤ g2 by rw [hg]; exact below_size HB.out); have N1_2 := Aside0.mk (show g1 ≠ g2 by rw [hg]; exact Nat.ne_of_lt (blk_lt BK1.out)); have n0 := Aside0.mk (below_step HB.out hb); have n1 := Aside0.mk (blk_below BK1.out hb); clear HB BK1; have HB := n0; have BK1 := n1; clear n0 n1; clear hb hbox hg)
    | ((with_reducible refine gate_dst (N := 4) rfl ?_); refine wl_load rfl rfl rfl (load_cell (k := 0) Tryd.underlying22 rfl BK1.out rfl) ?_)
    | (go_at_call 57; have HB0 := HB; (with_reducible refine (clone_walk A n c l _ (IT.out.below HB.out) HN.out).mono ?_); rintro e w3_ ⟨v5, rfl, ho, hb⟩; obtain ⟨A5, c5, rfl⟩ := own_slice ho; have n0 := Aside0.mk (below_step HB.out hb); have n1 := Aside0.mk (blk_below BK1.out hb); have n2 := Aside0.mk (blk_below BK2.out hb); clear HB BK1 BK2; have HB := n0; have BK1 := n1; have BK2 := n2; clear n0 n1 n2; have O5 := Aside0.mk (own_weaken ho (below_size HB0.out)); clear hb)
    | ((with_reducible refine gate_store (p := 6) rfl ?_); refine cell_store rfl (.tmp 6) (.tmp 5) rfl g1 0 (.slice A5 n c5) (#[.slice A n c, .bool lost]) (#[.slice A5 n c5, .bool lost]) rfl rfl BK1.out rfl rfl rfl ?_; intro s4_ bk hoth hbel; have n0 := Aside0.mk (hbel _ _ HB.out G1.out); have n1 := Aside0.mk bk; have n2 := Aside0.mk ((hoth g2 (fun e => N1_2.out e.symm)).trans BK2.out); have n3 := Aside0.mk (own_store O5.out BK1.out (by decide) hoth); clear HB BK1 BK2 O5; have HB := n0; have BK1 := n1; have BK2 := n2; have O5 := n3; clear n0 n1 n2 n3; clear bk hoth hbel)
    | ((with_reducible refine gate_dst (N := 7) rfl ?_); refine wl_load rfl rfl rfl (load_row Tryd.underlying24 rfl size_tap BK1.out (rfl)) ?_)
    | ((with_reducible refine gate_store (p := 2) rfl ?_); refine row_store rfl size_tap (.tmp 2) (.tmp 7) rfl g2 (#[.slice A5 n c5, .bool lost]) (#[.slice none 0 0, .bool false]) rfl rfl BK2.out (rfl) (rfl) (tap_one _ _ _ _) ?_; intro s5_ bk hoth hbel; have n0 := Aside0.mk (hbel _ _ HB.out G2.out); have n1 := Aside0.mk ((hoth g1 N1_2.out).trans BK1.out); have n2 := Aside0.mk bk; have n3 := Aside0.mk (own_store O5.out BK2.out (by decide) hoth); clear HB BK1 BK2 O5; have HB := n0; have BK1 := n1; have BK2 := n2; have O5 := n3; clear n0 n1 n2 n3; clear bk hoth hbel))
  refine bodyPost_ret (results_c rfl _ _ g2 24 #[.slice A5 n c5, .bool lost] (0, 0) _ rfl BK2.out Tryd.underlying24 rfl size_tap) rfl ?_
  exact ⟨_, rfl, O5.out, HB.out⟩

theorem bk_grown {w w' : World} {base e size n g t : Nat} {v : Value} {xs : List Value} {cs : Array Value} (h : w.heap[g]? = some (.cells cs t (0, 0))) (ho : w.ownsRow base e size v n xs) (hg : w.grownBy w' v.ownBlock) (ht : t ≠ e) : w'.heap[g]? = some (.cells cs t (0, 0)) := by
  refine (hg.block g (blk_lt h) (fun ek => ?_)).trans h
  obtain ⟨cells, hc⟩ := own_typed ho g ek.symm
  rw [h] at hc
  cases hc
  exact ht rfl
set_option maxHeartbeats 8000000 in
set_option maxRecDepth 100000 in
theorem with_walk (A : Option Addr) (n c : Nat) (l : List Itm) (lost : Bool) (ad : Addr) (m c2 : Nat) (k : List Itm) (W : World) (h : Its W A n c l) (h2 : Its W (some ad) m c2 k) (hn : n + m ≤ 1000) :
    Calls Tryd.prog 39 #[.agg #[.slice A n c, .bool lost], .slice (some ad) m c2] W fun e W' => ∃ v, e = .returned (.agg #[v, .bool false]) ∧ W'.ownsRow W.heap.size 32 101 v (n + m) (flatI (l ++ k)) ∧ Below W.heap.size W W' := by
  obtain ⟨i0, hi0, hz0, hz1, hz2⟩ := info_parts info_itm
  have IT := Aside0.mk h
  have LK := Aside0.mk (h2.lie ad rfl)
  have HKL : Aside0 ((flatI k).length = m * 101) := ⟨by rw [flatI_len k h2.wf, h2.len]⟩
  have HN : Aside0 (n ≤ 1000) := ⟨by omega⟩
  have HNM := Aside0.mk hn
  have HB := Aside0.mk (Below.refl W.heap.size W)
  clear h h2 hn
  go_enter Tryd.func39, Tryd.ntmps39
  go_wp2_with (
    first
    | ((with_reducible refine gate_dst (N := 2) rfl ?_); refine box_event ?hg (N := 2) ?hd (cs := #[.slice A n c, .bool lost]) (t := 24) ?hr ?_; (case hd => rfl); (case hg => rfl); (case hr => first | (go_simp; done) | (go_simp; rfl)); intro g2 hg w1_ hbox hb; have BK2 := Aside0.mk hbox; have G2 := Aside0.mk (show W.heap.size ≤ g2 by rw [hg]; exact below_size HB.out); have n0 := Aside0.mk (below_step HB.out hb); clear HB; have HB := n0; clear n0; clear hb hbox hg)
    | ((with_reducible refine gate_dst (N := 4) rfl ?_); refine box_event ?hg (N := 4) ?hd (cs := #[.slice none 0 0, .bool false]) (t := 24) ?hr ?_; (case hd => rfl); (case hg => rfl); (case hr => first | (go_simp; done) | (go_simp; rfl)); intro g4 hg w2_ hbox hb; have BK4 := Aside0.mk hbox; have G4 := Aside0.mk (show W.heap.size ≤ g4 by rw [hg]; exact below_size HB.out); have N2_4 := Aside0.mk (show g2 ≠ g4 by rw [hg]; exact Nat.ne_of_lt (blk_lt BK2.out)); have n0 := Aside0.mk (below_step HB.out hb); have n1 := Aside0.mk (blk_below BK2.out hb); clear HB BK2; have HB := n0; have BK2 := n1; clear n0 n1; clear hb hbox hg)
    | ((with_reducible refine gate_dst (N := 6) rfl ?_); refine wl_load rfl rfl rfl (load_cell (k := 0) Tryd.underlying22 rfl BK2.out rfl) ?_)
    | (go_at_call 57; have HB0 := HB; (with_reducible refine (clone_walk A n c l _ (IT.out.below HB.out) HN.out).mono ?_); rintro e w3_ ⟨v7, rfl, ho, hb⟩; obtain ⟨A7, c7, rfl⟩ := own_slice ho; have n0 := Aside0.mk (below_step HB.out hb); have n1 := Aside0.mk (blk_below BK2.out hb); have n2 := Aside0.mk (blk_below BK4.out hb); clear HB BK2 BK4; have HB := n0; have BK2 := n1; have BK4 := n2; clear n0 n1 n2; have O7 := Aside0.mk (own_weaken ho (below_size HB0.out)); clear hb)
    | ((with_reducible refine gate_dst (N := 9) rfl ?_); refine wpList_append_own _ rfl (.tmp 7) (.tmp 8) 22 rfl W.heap.size 32 i0 (.agg (ia it0)) 101 136 Tryd.underlying22 hi0 hz0 hz1 hz2 (ia_size hd0_wf) (by decide) _ (n) (flatI l) rfl O7.out ad m c2 (flatI k) rfl (HKL.out) (LK.out.below HB.out) (flatI_ones k) (by have := HNM.out; simp only [maxLen]; omega) (by have := HNM.out; omega) (below_size HB.out) ?_; intro v9 w4_ ho hg _; obtain ⟨A9, c9, rfl⟩ := own_slice ho; have n0 := Aside0.mk (below_own HB.out (below_size HB.out) O7.out hg); have n1 := Aside0.mk (bk_grown BK2.out O7.out hg (by decide)); have n2 := Aside0.mk (bk_grown BK4.out O7.out hg (by decide)); clear HB BK2 BK4; have HB := n0; have BK2 := n1; have BK4 := n2; clear n0 n1 n2; clear O7; have O9 := Aside0.mk ho; clear ho hg)
    | ((with_reducible refine gate_store (p := 4) rfl ?_); refine row_store rfl size_tap (.tmp 4) (.tmp 10) rfl g4 (#[.slice A9 (n + m) c9, .bool false]) (#[.slice none 0 0, .bool false]) rfl rfl BK4.out (rfl) (rfl) (tap_one _ _ _ _) ?_; intro s5_ bk hoth hbel; have n0 := Aside0.mk (hbel _ _ HB.out G4.out); have n1 := Aside0.mk ((hoth g2 N2_4.out).trans BK2.out); have n2 := Aside0.mk bk; have n3 := Aside0.mk (own_store O9.out BK4.out (by decide) hoth); clear HB BK2 BK4 O9; have HB := n0; have BK2 := n1; have BK4 := n2; have O9 := n3; clear n0 n1 n2 n3; clear bk hoth hbel))
  refine bodyPost_ret (results_c rfl _ _ g4 24 #[.slice A9 (n + m) c9, .bool false] (0, 0) _ rfl BK4.out Tryd.underlying24 rfl size_tap) rfl ?_
  exact ⟨_, rfl, by rw [flatI_append]; exact O9.out, HB.out⟩
end Go.Proofs.YtkkkjidbakmjdaaDoor.Q
