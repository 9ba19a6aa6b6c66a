/-
  alive of law 23's statements; TapNames: walks (written by wip/tools/gen_tapnames.py).
-/
import Derived.Test.YtkkkjidbakmjdaaDoorTapPolls
namespace Go.Proofs.YtkkkjidbakmjdaaDoor.Q
open Go.RowKit Go.Proofs.YtkkkjidbakmjdaaDoorW.PrintWords Go.Proofs.YtkkkjidbakmjdaaDoorW.PrintLast Go.Proofs.YtkkkjidbakmjdaaDoorW.PrintMore
set_option linter.unusedVariables false
set_option linter.unusedSimpArgs false

theorem ints_blk {w : World} {g t : Nat} {cs : Array Value} {l : List Int} (h : w.heap[g]? = some (.cells cs t (0, 0))) (hl : cs = (l.map (Value.int .i64)).toArray) : Ints w ⟨g, 0, none⟩ l := fun j x hx => by
  rw [addr0]
  refine (cell_of_row w g j cs t (0, 0) h).trans ?_
  rw [hl, List.getElem?_toArray, List.getElem?_map, hx]
  rfl
theorem itso_new (w : World) (l : List Itm) (n base : Nat) (hn : l.length = n) (hd : Wfs l) (hn2 : n < 1000) (hb : base ≤ w.heap.size) : ItsO (w.alloc (.cells (flatI l).toArray 32)) base (some ⟨w.heap.size, 0, none⟩) n n l :=
  ⟨its_new w l n hn hd hn2, fun ad e => by
    cases e
    refine ⟨w.heap.size, 0, _, rfl, hb, blk_new w _, ?_⟩
    rw [List.size_toArray, flatI_len l hd, hn]
    omega⟩
theorem wl_two_ev {ops : Array Oper} {rest : List Oper} {o : Oper} {a : Act} {w : World} {Q : Exit → Act → World → Prop} (hgd : o.guard = none) (x1 x2 : Itm) (hd : Wfs [x1, x2]) (x y : Operand) (ho : o.op = .buildSlice 22 2 #[(0, x), (1, y)]) (hx : a.eval x = .agg (ia x1)) (hy : a.eval y = .agg (ia x2))
    (h : ∀ g w1, Below w.heap.size w w1 → (∀ base, base ≤ w.heap.size → ItsO w1 base (some ⟨g, 0, none⟩) 2 2 [x1, x2]) → wpList Tryd.prog ops Q rest (a.put o.dst (.slice (some ⟨g, 0, none⟩) 2 2)) w1) : wpList Tryd.prog ops Q (o :: rest) a w :=
  wl_its_two hgd x1 x2 hd x y ho hx hy (h _ _ (below_new _ _) (fun base hb => itso_new w _ 2 base rfl hd (by omega) hb))
theorem wl_one_ev {ops : Array Oper} {rest : List Oper} {o : Oper} {a : Act} {w : World} {Q : Exit → Act → World → Prop} (hgd : o.guard = none) (x1 : Itm) (hd : Wfs [x1]) (x : Operand) (ho : o.op = .buildSlice 22 1 #[(0, x)]) (hx : a.eval x = .agg (ia x1))
    (h : ∀ g w1, Below w.heap.size w w1 → (∀ base, base ≤ w.heap.size → ItsO w1 base (some ⟨g, 0, none⟩) 1 1 [x1]) → wpList Tryd.prog ops Q rest (a.put o.dst (.slice (some ⟨g, 0, none⟩) 1 1)) w1) : wpList Tryd.prog ops Q (o :: rest) a w :=
  wl_its_one hgd x1 hd x ho hx (h _ _ (below_new _ _) (fun base hb => itso_new w _ 1 base rfl hd (by omega) hb))
set_option maxRecDepth 100000 in
theorem built_gap : Tryd.prog.built 32 [(0, .bool true)] = some (ia gapI) := by kernel_rfl
theorem push_to (A : Option Addr) (n c : Nat) (t t' : Tp) (room cd : Int) (e : Evt) (W : World) (hp : pushP t room e = (t', cd)) (h : Its W A n c t.its) (hg : GT W) (he : e.hd.wf) :
    Calls Tryd.prog 11 #[.agg #[.slice A n c, .bool t.lost], .int .i64 room, .agg (ea e)] W fun x W' => ∃ A' n' c', x = .returned (.tuple #[.agg #[.slice A' n' c', .bool t'.lost], .int .i64 cd]) ∧ ItsO W' W.heap.size A' n' c' t'.its ∧ Below W.heap.size W W' := by
  have := push_tp A n c t room e W h hg he
  rwa [hp] at this
theorem pushed_to (m : Nat) (k : Int) (hk : k = (m : Int)) (t : Tp) (ht : pushesP m = t) (hm : m ≤ 100) (W : World) (hg : GT W) :
    Calls Tryd.prog 10 #[.int .i64 k] W fun e W' => ∃ A n c, e = .returned (.agg #[.slice A n c, .bool t.lost]) ∧ ItsO W' W.heap.size A n c t.its ∧ Below W.heap.size W W' := by
  subst hk
  subst ht
  exact pushed_walk m hm W hg
theorem polls_lit (t : Tp) (want : List Int) (m : Nat) (hm : want.length = m) (hm2 : m ≤ 1000) (hp : pollsP t want = true) (A : Option Addr) (n c g : Nat) (w : World) (h : Its w A n c t.its) (hg : GT w) (hb : w.heap[g]? = some (.cells (want.map (Value.int .i64)).toArray 3 (0, 0))) :
    Calls Tryd.prog 14 #[.agg #[.slice A n c, .bool t.lost], .slice (some ⟨g, 0, none⟩) m m] w fun e W' => e = .returned (.bool true) ∧ Below w.heap.size w W' :=
  polls_walk A n c t ⟨g, 0, none⟩ m m want w h hg hm hm2 (ints_blk hb rfl) hp

set_option maxHeartbeats 8000000 in
set_option maxRecDepth 100000 in
theorem alive23_walk (W : World) (hg : GT W) :
    Calls Tryd.prog 13 #[] W fun e W' => e = .returned (.bool true) ∧ Below W.heap.size W W' := by
  have GG := Aside0.mk hg
  have HB := Aside0.mk (Below.refl W.heap.size W)
  have p2 : pollsP (pushesP 2) [1, 2] = true := by decide +kernel
  have p3 : pollsP (pushesP 3) [1, 2, -1] = true := by decide +kernel
  obtain ⟨t2, h2⟩ : ∃ t, pushesP 2 = t := ⟨_, rfl⟩
  obtain ⟨t3, h3⟩ : ∃ t, pushesP 3 = t := ⟨_, rfl⟩
  rw [h2] at p2
  rw [h3] at p3
  have HPU2 : Aside0 (∀ w, Below W.heap.size W w → Calls Tryd.prog 10 #[.int .i64 2] w fun e W' => ∃ A n c, e = .returned (.agg #[.slice A n c, .bool t2.lost]) ∧ ItsO W' w.heap.size A n c t2.its ∧ Below w.heap.size w W') := ⟨fun w hw => pushed_to 2 2 rfl t2 h2 (by omega) w (GG.out.below GG.out.lt hw)⟩
  have HPU3 : Aside0 (∀ w, Below W.heap.size W w → Calls Tryd.prog 10 #[.int .i64 3] w fun e W' => ∃ A n c, e = .returned (.agg #[.slice A n c, .bool t3.lost]) ∧ ItsO W' w.heap.size A n c t3.its ∧ Below w.heap.size w W') := ⟨fun w hw => pushed_to 3 3 rfl t3 h3 (by omega) w (GG.out.below GG.out.lt hw)⟩
  have HPO2 : Aside0 (∀ A n c g w, Its w A n c t2.its → GT w → w.heap[g]? = some (.cells #[Value.int .i64 1, Value.int .i64 2] 3 (0, 0)) → Calls Tryd.prog 14 #[.agg #[.slice A n c, .bool t2.lost], .slice (some ⟨g, 0, none⟩) 2 2] w fun e W' => e = .returned (.bool true) ∧ Below w.heap.size w W') := ⟨fun A n c g w h hg hb => polls_lit t2 [1, 2] 2 rfl (by omega) p2 A n c g w h hg hb⟩
  have HPO3 : Aside0 (∀ A n c g w, Its w A n c t3.its → GT w → w.heap[g]? = some (.cells #[Value.int .i64 1, Value.int .i64 2, Value.int .i64 (-1)] 3 (0, 0)) → Calls Tryd.prog 14 #[.agg #[.slice A n c, .bool t3.lost], .slice (some ⟨g, 0, none⟩) 3 3] w fun e W' => e = .returned (.bool true) ∧ Below w.heap.size w W') := ⟨fun A n c g w h hg hb => polls_lit t3 [1, 2, -1] 3 rfl (by omega) p3 A n c g w h hg hb⟩
  clear hg p2 p3 h2 h3
  go_enter Tryd.func13, Tryd.ntmps13
  go_wp2_with (
    first
    | (go_at_call 10; have HB0 := HB; (with_reducible refine (HPU2.out _ HB.out).mono ?_); rintro e w1_ ⟨A2, n2, c2, rfl, hio, hb⟩; have n0 := Aside0.mk (below_step HB.out hb); clear HB; have HB := n0; clear n0; have I2 := Aside0.mk (hio.mono (below_size HB0.out)); clear hb)
    | (go_at_call 14; (with_reducible refine (HPO2.out _ _ _ _ _ (I2.out.below (below_new _ _)).its (GG.out.below GG.out.lt (below_alloc HB.out _)) (blk_new _ _)).mono ?_); rintro e wp_ ⟨rfl, hb⟩; have n0 := Aside0.mk (below_step (below_alloc HB.out _) hb); have n1 := Aside0.mk ((I2.out.below (below_new _ _)).below hb); clear HB I2; have HB := n0; have I2 := n1; clear n0 n1; clear hb)
    | (go_at_call 10; have HB0 := HB; (with_reducible refine (HPU3.out _ HB.out).mono ?_); rintro e w2_ ⟨A3, n3, c3, rfl, hio, hb⟩; have n0 := Aside0.mk (below_step HB.out hb); clear HB; have HB := n0; clear n0; have I3 := Aside0.mk (hio.mono (below_size HB0.out)); clear hb)
    | (go_at_call 14; (with_reducible refine (HPO3.out _ _ _ _ _ (I3.out.below (below_new _ _)).its (GG.out.below GG.out.lt (below_alloc HB.out _)) (blk_new _ _)).mono ?_); rintro e wq_ ⟨rfl, hb⟩; have n0 := Aside0.mk (below_step (below_alloc HB.out _) hb); have n1 := Aside0.mk ((I3.out.below (below_new _ _)).below hb); clear HB I3; have HB := n0; have I3 := n1; clear n0 n1; clear hb))
  go_ret
  exact ⟨rfl, HB.out⟩
def names3_T : Bool × List (List Nat × List Nat) := (true, [([], []), ([], []), ([0, 1, 1], [0, 1]), ([2], [2]), ([3], [3]), ([3], [3]), ([], []), ([6, 4, 2, 0, 1, 2, 3, 4, 6], [4, 6]), ([5, 7, 0, 1, 2, 3, 4, 5, 6, 7], [5])])
def names3_B : List Nat := [0, 0, 3, 7, 15, 15, 0, 95, 255]
theorem names3_tab : rtab .any (opsOf Tryd.f3 3) = names3_T := by kernel_rfl
theorem names3_bits : waitsOk names3_T.2 names3_B = true := by kernel_rfl

def names4_T : Bool × List (List Nat × List Nat) := (true, [([], []), ([], []), ([0, 1, 1], [0, 1]), ([2], [2]), ([3], [3]), ([3], [3]), ([], []), ([6, 4, 2, 0, 1, 2, 3, 4, 6], [4, 6]), ([5, 7, 0, 1, 2, 3, 4, 5, 6, 7], [5])])
def names4_B : List Nat := [0, 0, 3, 7, 15, 15, 0, 95, 255]
theorem names4_tab : rtab .any (opsOf Tryd.f3 4) = names4_T := by kernel_rfl
theorem names4_bits : waitsOk names4_T.2 names4_B = true := by kernel_rfl

def names5_T : Bool × List (List Nat × List Nat) := (true, [([], []), ([], []), ([0, 1, 1], [0, 1]), ([2], [2]), ([3], [3]), ([3], [3]), ([], []), ([6, 4, 2, 0, 1, 2, 3, 4, 6], [4, 6]), ([5, 7, 0, 1, 2, 3, 4, 5, 6, 7], [5])])
def names5_B : List Nat := [0, 0, 3, 7, 15, 15, 0, 95, 255]
theorem names5_tab : rtab .any (opsOf Tryd.f3 5) = names5_T := by kernel_rfl
theorem names5_bits : waitsOk names5_T.2 names5_B = true := by kernel_rfl

def names6_T : Bool × List (List Nat × List Nat) := (true, [([], []), ([], []), ([0, 1, 1], [0, 1]), ([2], [2]), ([3], [3]), ([3], [3]), ([], []), ([6, 4, 2, 0, 1, 2, 3, 4, 6], [4, 6]), ([5, 7, 0, 1, 2, 3, 4, 5, 6, 7], [5])])
def names6_B : List Nat := [0, 0, 3, 7, 15, 15, 0, 95, 255]
theorem names6_tab : rtab .any (opsOf Tryd.f3 6) = names6_T := by kernel_rfl
theorem names6_bits : waitsOk names6_T.2 names6_B = true := by kernel_rfl

theorem names_facts : ∃ (tp ta tb tc td : Tp) (xa xb : Itm), pushesP 3 = tp ∧ pollP tp = (ta, xa, 0) ∧ pollP ta = (tb, xb, 0) ∧ pushP tb 2 (evN 4) = (tc, 0) ∧ pushP ta 2 (evN 4) = (td, 0) ∧ pushP ta 65 (evN 4) = (⟨[], false⟩, 2) ∧ pushP ta 2 (evN (-1)) = (⟨[], false⟩, 8) ∧ pollsP tc [-1, 4] = true ∧ pollsP td [2, -1] = true :=
  ⟨pushesP 3, (pollP (pushesP 3)).1, (pollP (pollP (pushesP 3)).1).1, (pushP (pollP (pollP (pushesP 3)).1).1 2 (evN 4)).1, (pushP (pollP (pushesP 3)).1 2 (evN 4)).1, (pollP (pushesP 3)).2.1, (pollP (pollP (pushesP 3)).1).2.1, rfl, by decide +kernel, by decide +kernel, by decide +kernel, by decide +kernel, by decide +kernel, by decide +kernel, by decide +kernel, by decide +kernel⟩
set_option maxHeartbeats 32000000 in
set_option maxRecDepth 100000 in
theorem tapNames_walk (W : World) (hg : GT W) :
    Calls Tryd.prog 3 #[] W fun e W' => e = .returned (.bool true) ∧ Below W.heap.size W W' := by
  have GG := Aside0.mk hg
  have HB := Aside0.mk (Below.refl W.heap.size W)
  obtain ⟨tp, ta, tb, tc, td, xa, xb, h3, hpa, hpb, q7, q9, q11, q13, pc, pd⟩ := names_facts
  have HPU3 : Aside0 (∀ w, Below W.heap.size W w → Calls Tryd.prog 10 #[.int .i64 3] w fun e W' => ∃ A n c, e = .returned (.agg #[.slice A n c, .bool tp.lost]) ∧ ItsO W' w.heap.size A n c tp.its ∧ Below w.heap.size w W') := ⟨fun w hw => pushed_to 3 3 rfl tp h3 (by omega) w (GG.out.below GG.out.lt hw)⟩
  have HPA := Aside0.mk hpa
  have HPB := Aside0.mk hpb
  have HQ7 := Aside0.mk q7
  have HQ9 := Aside0.mk q9
  have HQ11 := Aside0.mk q11
  have HQ13 := Aside0.mk q13
  have HPC : Aside0 (∀ A n c g w, Its w A n c tc.its → GT w → w.heap[g]? = some (.cells #[Value.int .i64 (-1), Value.int .i64 4] 3 (0, 0)) → Calls Tryd.prog 14 #[.agg #[.slice A n c, .bool tc.lost], .slice (some ⟨g, 0, none⟩) 2 2] w fun e W' => e = .returned (.bool true) ∧ Below w.heap.size w W') := ⟨fun A n c g w h hg hb => polls_lit tc [-1, 4] 2 rfl (by omega) pc A n c g w h hg hb⟩
  have HPD : Aside0 (∀ A n c g w, Its w A n c td.its → GT w → w.heap[g]? = some (.cells #[Value.int .i64 2, Value.int .i64 (-1)] 3 (0, 0)) → Calls Tryd.prog 14 #[.agg #[.slice A n c, .bool td.lost], .slice (some ⟨g, 0, none⟩) 2 2] w fun e W' => e = .returned (.bool true) ∧ Below w.heap.size w W') := ⟨fun A n c g w h hg hb => polls_lit td [2, -1] 2 rfl (by omega) pd A n c g w h hg hb⟩
  have HC2 : Aside0 (∀ w A, Its w A 2 2 [gapI, gapI] → GT w → Calls Tryd.prog 15 #[.agg #[.slice A 2 2, .bool false]] w fun e W' => e = .returned (.int .i64 8) ∧ Below w.heap.size w W') := ⟨fun w A h hg => by
    have := check_walk A 2 2 _ false w h hg
    rwa [ccode_no (by decide +kernel)] at this⟩
  have HC1 : Aside0 (∀ w A, Its w A 1 1 [gapI] → GT w → Calls Tryd.prog 15 #[.agg #[.slice A 1 1, .bool false]] w fun e W' => e = .returned (.int .i64 8) ∧ Below w.heap.size w W') := ⟨fun w A h hg => by
    have := check_walk A 1 1 _ false w h hg
    rwa [ccode_no (by decide +kernel)] at this⟩
  have HW2 : Aside0 (Wfs [gapI, gapI]) := ⟨by intro x hx; simp only [List.mem_cons, List.not_mem_nil, or_false, or_self] at hx; subst hx; exact hd0_wf⟩
  have HW1 : Aside0 (Wfs [gapI]) := ⟨by intro x hx; simp only [List.mem_cons, List.not_mem_nil, or_false] at hx; subst hx; exact hd0_wf⟩
  clear hg h3 hpa hpb q7 q9 q11 q13 pc pd
  go_enter Tryd.func3, Tryd.ntmps3
  go_wp2_with (
    first
    | (go_at_call 10; have HB0 := HB; (with_reducible refine (HPU3.out _ HB.out).mono ?_); rintro e w1_ ⟨A0, n0, c0, rfl, hio, hb⟩; have n0 := Aside0.mk (below_step HB.out hb); clear HB; have HB := n0; clear n0; have I0 := Aside0.mk (hio.mono (below_size HB0.out)); clear hb)
    | (go_at_call 9; have HB0 := HB; (with_reducible refine (poll_tp A0 n0 c0 tp ta xa 0 _ HPA.out I0.out.its (GG.out.below GG.out.lt HB.out)).mono ?_); rintro e w2_ ⟨Aa, na, ca, rfl, hio, hwf, hb⟩; have HXa := Aside0.mk hwf; have n0 := Aside0.mk (below_step HB.out hb); have n1 := Aside0.mk (I0.out.below hb); clear HB I0; have HB := n0; have I0 := n1; clear n0 n1; have Ia := Aside0.mk (hio.mono (below_size HB0.out)); clear hb)
    | ((with_reducible refine gate_dst (N := 1) rfl ?_); refine box_event ?hg (N := 1) ?hd (cs := #[.slice none 0 0, .bool false]) (t := 24) ?hr ?_; (case hd => rfl); (case hg => rfl); (case hr => first | (go_simp; done) | (go_simp; rfl)); intro g1 hg w3_ hbox hb; have BK1 := Aside0.mk hbox; have G1 := Aside0.mk (show W.heap.size ≤ g1 by rw [hg]; exact below_size HB.out); have n0 := Aside0.mk (below_step HB.out hb); have n1 := Aside0.mk (Ia.out.below hb); clear HB Ia; have HB := n0; have Ia := n1; clear n0 n1; clear hb hbox hg)
    | ((with_reducible refine gate_dst (N := 2) rfl ?_); refine box_event ?hg (N := 2) ?hd (cs := ia it0) (t := 32) ?hr ?_; (case hd => rfl); (case hg => rfl); (case hr => first | (go_simp; done) | (go_simp; rfl)); intro g2 hg w4_ hbox hb; have BK2 := Aside0.mk hbox; have G2 := Aside0.mk (show W.heap.size ≤ g2 by rw [hg]; exact below_size HB.out); have N1_2 := Aside0.mk (show g1 ≠ g2 by rw [hg]; exact Nat.ne_of_lt (blk_lt BK1.out)); have NB2_Ia := Aside0.mk (io_ne (g := g2) Ia.out hg); have n0 := Aside0.mk (below_step HB.out hb); have n1 := Aside0.mk (Ia.out.below hb); have n2 := Aside0.mk (blk_below BK1.out hb); clear HB Ia BK1; have HB := n0; have Ia := n1; have BK1 := n2; clear n0 n1 n2; clear hb hbox hg)
    | ((with_reducible refine gate_store (p := 1) rfl ?_); refine row_store rfl size_tap (.tmp 1) (.tmp 20) rfl g1 (#[.slice Aa na ca, .bool ta.lost]) (#[.slice none 0 0, .bool false]) rfl rfl BK1.out (rfl) (rfl) (tap_one _ _ _ _) ?_; intro s5_ bk hoth hbel; have n0 := Aside0.mk (hbel _ _ HB.out G1.out); have n1 := Aside0.mk (io_store Ia.out BK1.out (by decide) hoth); have n2 := Aside0.mk bk; have n3 := Aside0.mk ((hoth g2 (fun e => N1_2.out e.symm)).trans BK2.out); clear HB Ia BK1 BK2; have HB := n0; have Ia := n1; have BK1 := n2; have BK2 := n3; clear n0 n1 n2 n3; clear bk hoth hbel)
    | ((with_reducible refine gate_store (p := 2) rfl ?_); refine row_store rfl size_itm (.tmp 2) (.tmp 21) rfl g2 (ia xa) (ia it0) rfl rfl BK2.out (ia_size HXa.out) (ia_size hd0_wf) (ia_one _) ?_; intro s6_ bk hoth hbel; have n0 := Aside0.mk (hbel _ _ HB.out G2.out); have n1 := Aside0.mk (io_store3 Ia.out NB2_Ia.out hoth); have n2 := Aside0.mk ((hoth g1 N1_2.out).trans BK1.out); have n3 := Aside0.mk bk; clear HB Ia BK1 BK2; have HB := n0; have Ia := n1; have BK1 := n2; have BK2 := n3; clear n0 n1 n2 n3; clear bk hoth hbel)
    | ((with_reducible refine gate_dst (N := 24) rfl ?_); refine wl_load rfl rfl rfl (load_row Tryd.underlying24 rfl size_tap BK1.out (rfl)) ?_)
    | (go_at_call 9; have HB0 := HB; (with_reducible refine (poll_tp Aa na ca ta tb xb 0 _ HPB.out Ia.out.its (GG.out.below GG.out.lt HB.out)).mono ?_); rintro e w7_ ⟨Ab, nb, cb, rfl, hio, hwf, hb⟩; have HXb := Aside0.mk hwf; have n0 := Aside0.mk (below_step HB.out hb); have n1 := Aside0.mk (Ia.out.below hb); have n2 := Aside0.mk (blk_below BK1.out hb); clear HB Ia BK1; have HB := n0; have Ia := n1; have BK1 := n2; clear n0 n1 n2; have Ib := Aside0.mk (hio.mono (below_size HB0.out)); clear hb)
    | ((with_reducible refine gate_dst (N := 4) rfl ?_); refine box_event ?hg (N := 4) ?hd (cs := #[.slice none 0 0, .bool false]) (t := 24) ?hr ?_; (case hd => rfl); (case hg => rfl); (case hr => first | (go_simp; done) | (go_simp; rfl)); intro g4 hg w8_ hbox hb; have BK4 := Aside0.mk hbox; have G4 := Aside0.mk (show W.heap.size ≤ g4 by rw [hg]; exact below_size HB.out); have N1_4 := Aside0.mk (show g1 ≠ g4 by rw [hg]; exact Nat.ne_of_lt (blk_lt BK1.out)); have n0 := Aside0.mk (below_step HB.out hb); have n1 := Aside0.mk (Ia.out.below hb); have n2 := Aside0.mk (blk_below BK1.out hb); have n3 := Aside0.mk (Ib.out.below hb); clear HB Ia BK1 Ib; have HB := n0; have Ia := n1; have BK1 := n2; have Ib := n3; clear n0 n1 n2 n3; clear hb hbox hg)
    | ((with_reducible refine gate_dst (N := 5) rfl ?_); refine box_event ?hg (N := 5) ?hd (cs := ia it0) (t := 32) ?hr ?_; (case hd => rfl); (case hg => rfl); (case hr => first | (go_simp; done) | (go_simp; rfl)); intro g5 hg w9_ hbox hb; have BK5 := Aside0.mk hbox; have G5 := Aside0.mk (show W.heap.size ≤ g5 by rw [hg]; exact below_size HB.out); have N1_5 := Aside0.mk (show g1 ≠ g5 by rw [hg]; exact Nat.ne_of_lt (blk_lt BK1.out)); have N4_5 := Aside0.mk (show g4 ≠ g5 by rw [hg]; exact Nat.ne_of_lt (blk_lt BK4.out)); have NB5_Ia := Aside0.mk (io_ne (g := g5) Ia.out hg); have NB5_Ib := Aside0.mk (io_ne (g := g5) Ib.out hg); have n0 := Aside0.mk (below_step HB.out hb); have n1 := Aside0.mk (Ia.out.below hb); have n2 := Aside0.mk (blk_below BK1.out hb); have n3 := Aside0.mk (Ib.out.below hb); have n4 := Aside0.mk (blk_below BK4.out hb); clear HB Ia BK1 Ib BK4; have HB := n0; have Ia := n1; have BK1 := n2; have Ib := n3; have BK4 := n4; clear n0 n1 n2 n3 n4; clear hb hbox hg)
    | ((with_reducible refine gate_store (p := 4) rfl ?_); refine row_store rfl size_tap (.tmp 4) (.tmp 26) rfl g4 (#[.slice Ab nb cb, .bool tb.lost]) (#[.slice none 0 0, .bool false]) rfl rfl BK4.out (rfl) (rfl) (tap_one _ _ _ _) ?_; intro s10_ bk hoth hbel; have n0 := Aside0.mk (hbel _ _ HB.out G4.out); have n1 := Aside0.mk (io_store Ia.out BK4.out (by decide) hoth); have n2 := Aside0.mk ((hoth g1 N1_4.out).trans BK1.out); have n3 := Aside0.mk (io_store Ib.out BK4.out (by decide) hoth); have n4 := Aside0.mk bk; have n5 := Aside0.mk ((hoth g5 (fun e => N4_5.out e.symm)).trans BK5.out); clear HB Ia BK1 Ib BK4 BK5; have HB := n0; have Ia := n1; have BK1 := n2; have Ib := n3; have BK4 := n4; have BK5 := n5; clear n0 n1 n2 n3 n4 n5; clear bk hoth hbel)
    | ((with_reducible refine gate_store (p := 5) rfl ?_); refine row_store rfl size_itm (.tmp 5) (.tmp 27) rfl g5 (ia xb) (ia it0) rfl rfl BK5.out (ia_size HXb.out) (ia_size hd0_wf) (ia_one _) ?_; intro s11_ bk hoth hbel; have n0 := Aside0.mk (hbel _ _ HB.out G5.out); have n1 := Aside0.mk (io_store3 Ia.out NB5_Ia.out hoth); have n2 := Aside0.mk ((hoth g1 N1_5.out).trans BK1.out); have n3 := Aside0.mk (io_store3 Ib.out NB5_Ib.out hoth); have n4 := Aside0.mk ((hoth g4 N4_5.out).trans BK4.out); have n5 := Aside0.mk bk; clear HB Ia BK1 Ib BK4 BK5; have HB := n0; have Ia := n1; have BK1 := n2; have Ib := n3; have BK4 := n4; have BK5 := n5; clear n0 n1 n2 n3 n4 n5; clear bk hoth hbel))
  have hb : Below s11_.heap.size s11_ s11_.drew := below_drew (Below.refl _ _)
  refine start_ (n := 9) (S := fun w' => w'.heap[g4]? = some (.cells #[.slice Ab nb cb, .bool tb.lost] 24 (0, 0))) (ds := []) #[false, false, false, false, false, false, false, false, false] (by kernel_rfl) rfl rfl (blk_below BK4.out hb) (fun hHeld => ?_)
  refine with_tabW names3_tab names3_bits (fun HT_ HW_ => ?_)
  have n0 := Aside0.mk (blk_below BK1.out hb)
  have n1 := Aside0.mk (blk_below BK4.out hb)
  have n2 := Aside0.mk (Ia.out.below hb)
  have n3 := Aside0.mk (Ib.out.below hb)
  have n4 := Aside0.mk (below_step HB.out hb)
  clear BK1 BK4 Ia Ib HB
  have BK1 := n0
  have BK4 := n1
  have Ia := n2
  have Ib := n3
  have HB := n4
  clear n0 n1 n2 n3 n4
  clear hb
  generalize s11_.drew = wd at BK1 BK4 Ia Ib HB hHeld ⊢
  refine take_ (i := 0) (N := (some 30)) (v := .agg #[.slice Ab nb cb, .bool tb.lost]) (a' := ?_) #[true, false, false, false, false, false, false, false, false] rfl rfl (take_ofW HT_.out HW_.out (by kernel_rfl)) (fun _ _ _ h => h) (Or.inl ⟨by rfl, ?_⟩) hHeld ?_ ?_
  · rintro w' s0
    refine op_load (x := .tmp 4) (load_row Tryd.underlying24 rfl size_tap s0 rfl) ?_ ?_ <;> rfl
  rotate_left
  · simp only [Act.put, List.setIfInBounds_toArray, List.set_cons_zero, List.set_cons_succ, i64_w, i32_w]
    rfl
  refine join_ (σ := Nat × Option Addr × Nat × Nat) 2 #[true, true, true, true, true, true, true, false, false] (fun s => [(31, .agg (ea (evN 4))), (32, .tuple #[.agg #[.slice s.2.1 s.2.2.1 s.2.2.2, .bool tc.lost], .int .i64 0]), (29, .tuple #[.agg #[.slice s.2.1 s.2.2.1 s.2.2.2, .bool tc.lost], .int .i64 0]), (33, .agg #[.slice s.2.1 s.2.2.1 s.2.2.2, .bool tc.lost]), (34, .int .i64 0), (7, .pointer (some ⟨s.1, 0, none⟩))]) (fun s w' => w'.heap[g1]? = some (.cells #[.slice Aa na ca, .bool ta.lost] 24 (0, 0)) ∧ w'.heap[g4]? = some (.cells #[.slice Ab nb cb, .bool tb.lost] 24 (0, 0)) ∧ ItsO w' W.heap.size Aa na ca ta.its ∧ ItsO w' W.heap.size Ab nb cb tb.its ∧ Below W.heap.size W w' ∧ w'.heap[s.1]? = some (.cells #[.slice none 0 0, .bool false] 24 (0, 0)) ∧ W.heap.size ≤ s.1 ∧ g1 ≠ s.1 ∧ g4 ≠ s.1 ∧ ItsO w' W.heap.size s.2.1 s.2.2.1 s.2.2.2 tc.its) ?_ ?_
  rotate_left
  · intro hcont
    refine two_ (i := 1) (j := 6) #[true, true, false, false, false, false, false, false, false] #[true, false, false, false, false, false, true, false, false] rfl rfl rfl rfl (two_of HT_.out (by kernel_rfl)) (by decide) (by decide) (fun K hK => ?_) (fun K hK => ?_)
    · refine goes_ Tryd.func12 (by kernel_rfl) rfl #[.int .i64 4] (by rfl) rfl rfl (by (try simp only [List.map_toArray, List.map_cons, List.map_nil]); first | done | rfl) ?_
      with_reducible refine (evn_walk _ _).mono ?_
      rintro e0 v1_ ⟨rfl, hb⟩
      refine ⟨_, rfl, ?_⟩
      have n0 := Aside0.mk (blk_below BK1.out hb)
      have n1 := Aside0.mk (blk_below BK4.out hb)
      have n2 := Aside0.mk (Ia.out.below hb)
      have n3 := Aside0.mk (Ib.out.below hb)
      have n4 := Aside0.mk (below_step HB.out hb)
      clear BK1 BK4 Ia Ib HB
      have BK1 := n0
      have BK4 := n1
      have Ia := n2
      have Ib := n3
      have HB := n4
      clear n0 n1 n2 n3 n4
      clear hb
      refine hK.out _ _ BK4.out (fun hHeld => ?_)
      clear hK K
      refine norm_ (a' := ?_) ?_ ?_
      rotate_left
      · show Act.put _ (some 31) _ = _
        simp only [Act.put, List.setIfInBounds_toArray, List.set_cons_zero, List.set_cons_succ, i64_w, i32_w]
        rfl
      refine two_ (i := 2) (j := 6) #[true, true, true, false, false, false, false, false, false] #[true, true, false, false, false, false, true, false, false] rfl rfl rfl rfl (two_of HT_.out (by kernel_rfl)) (by decide) (by decide) (fun K hK => ?_) (fun K hK => ?_)
      · refine goes_ Tryd.func11 (by kernel_rfl) rfl #[.agg #[.slice Ab nb cb, .bool tb.lost], .int .i64 2, .agg (ea (evN 4))] (by rfl) rfl rfl (by (try simp only [List.map_toArray, List.map_cons, List.map_nil]); first | done | rfl) ?_
        with_reducible refine (push_to Ab nb cb tb tc 2 0 (evN 4) _ HQ7.out Ib.out.its (GG.out.below GG.out.lt HB.out) (evn_wf _)).mono ?_
        rintro e0 v2_ ⟨A7, n7, c7, rfl, hio, hb⟩
        refine ⟨_, rfl, ?_⟩
        have hin := Aside0.mk (hio.mono (below_size HB.out))
        have n0 := Aside0.mk (blk_below BK1.out hb)
        have n1 := Aside0.mk (blk_below BK4.out hb)
        have n2 := Aside0.mk (Ia.out.below hb)
        have n3 := Aside0.mk (Ib.out.below hb)
        have n4 := Aside0.mk (below_step HB.out hb)
        clear BK1 BK4 Ia Ib HB
        have BK1 := n0
        have BK4 := n1
        have Ia := n2
        have Ib := n3
        have HB := n4
        clear n0 n1 n2 n3 n4
        have I7 := hin
        clear hin hio hb
        refine hK.out _ _ BK4.out (fun hHeld => ?_)
        clear hK K
        refine norm_ (a' := ?_) ?_ ?_
        rotate_left
        · show Act.put _ (some 32) _ = _
          simp only [Act.put, List.setIfInBounds_toArray, List.set_cons_zero, List.set_cons_succ, i64_w, i32_w]
          rfl
        refine pure_ (i := 3) (N := (some 29)) (v := ?_) (a' := ?_) #[true, true, true, true, false, false, false, false, false] rfl rfl (any_of HT_.out (by kernel_rfl)) (fun _ _ _ h => h) (Or.inl ⟨by rfl, ?_⟩) ?_ ?_
        rotate_left
        · intro w'
          go_simp
          first | with_reducible rfl | (simp; done) | rfl
        rotate_left
        · simp only [Act.put, List.setIfInBounds_toArray, List.set_cons_zero, List.set_cons_succ, i64_w, i32_w]
          rfl
        refine pure_ (i := 4) (N := (some 33)) (v := ?_) (a' := ?_) #[true, true, true, true, true, false, false, false, false] rfl rfl (any_of HT_.out (by kernel_rfl)) (fun _ _ _ h => h) (Or.inl ⟨by rfl, ?_⟩) ?_ ?_
        rotate_left
        · intro w'
          go_simp
          first | with_reducible rfl | (simp; done) | rfl
        rotate_left
        · simp only [Act.put, List.setIfInBounds_toArray, List.set_cons_zero, List.set_cons_succ, i64_w, i32_w]
          rfl
        refine pure_ (i := 5) (N := (some 34)) (v := ?_) (a' := ?_) #[true, true, true, true, true, true, false, false, false] rfl rfl (any_of HT_.out (by kernel_rfl)) (fun _ _ _ h => h) (Or.inl ⟨by rfl, ?_⟩) ?_ ?_
        rotate_left
        · intro w'
          go_simp
          first | with_reducible rfl | (simp; done) | rfl
        rotate_left
        · simp only [Act.put, List.setIfInBounds_toArray, List.set_cons_zero, List.set_cons_succ, i64_w, i32_w]
          rfl
        refine one_ (i := 6) (N := some 7) #[true, true, true, true, true, true, true, false, false] rfl rfl (one_of HT_.out (by kernel_rfl)) (by decide) (fun K hK => ?_)
        refine value_ (v := .pointer (some ⟨v2_.heap.size, 0, none⟩)) (w1 := v2_.alloc (.cells #[.slice none 0 0, .bool false] 24)) (by rfl) rfl ?_ ?_
        · go_simp
          first | done | rfl
        obtain ⟨g7, hg⟩ : ∃ g, v2_.heap.size = g := ⟨_, rfl⟩
        have hb := below_new v2_ (.cells #[.slice none 0 0, .bool false] 24)
        have hk := blk_new v2_ (.cells #[.slice none 0 0, .bool false] 24)
        have G7 := Aside0.mk (show W.heap.size ≤ g7 by rw [← hg]; exact below_size HB.out)
        have N1_7 := Aside0.mk (show g1 ≠ g7 by rw [← hg]; exact Nat.ne_of_lt (blk_lt BK1.out))
        have N4_7 := Aside0.mk (show g4 ≠ g7 by rw [← hg]; exact Nat.ne_of_lt (blk_lt BK4.out))
        generalize v2_.alloc (.cells #[.slice none 0 0, .bool false] 24) = v3_ at hb hk ⊢
        have n0 := Aside0.mk (blk_below BK1.out hb)
        have n1 := Aside0.mk (blk_below BK4.out hb)
        have n2 := Aside0.mk (Ia.out.below hb)
        have n3 := Aside0.mk (Ib.out.below hb)
        have n4 := Aside0.mk (below_step HB.out hb)
        have n5 := Aside0.mk (I7.out.below hb)
        clear BK1 BK4 Ia Ib HB I7
        have BK1 := n0
        have BK4 := n1
        have Ia := n2
        have Ib := n3
        have HB := n4
        have I7 := n5
        clear n0 n1 n2 n3 n4 n5
        clear hb
        rw [hg] at hk ⊢
        have BK7 := Aside0.mk hk
        clear hk hg
        refine hK.out _ _ BK4.out (fun hHeld => ?_)
        clear hK K
        refine norm_ (a' := ?_) ?_ ?_
        rotate_left
        · show Act.put _ (some 7) _ = _
          simp only [Act.put, List.setIfInBounds_toArray, List.set_cons_zero, List.set_cons_succ, i64_w, i32_w]
          rfl
        have hz := hcont (g7, A7, n7, c7) _ ⟨BK1.out, BK4.out, Ia.out, Ib.out, HB.out, BK7.out, G7.out, N1_7.out, N4_7.out, I7.out⟩
        simp only [putAll, Act.put, List.setIfInBounds_toArray, List.set_cons_zero, List.set_cons_succ, i64_w, i32_w] at hz
        exact hz
      · refine value_ (v := .pointer (some ⟨v1_.heap.size, 0, none⟩)) (w1 := v1_.alloc (.cells #[.slice none 0 0, .bool false] 24)) (by rfl) rfl ?_ ?_
        · go_simp
          first | done | rfl
        obtain ⟨g7, hg⟩ : ∃ g, v1_.heap.size = g := ⟨_, rfl⟩
        have hb := below_new v1_ (.cells #[.slice none 0 0, .bool false] 24)
        have hk := blk_new v1_ (.cells #[.slice none 0 0, .bool false] 24)
        have G7 := Aside0.mk (show W.heap.size ≤ g7 by rw [← hg]; exact below_size HB.out)
        have N1_7 := Aside0.mk (show g1 ≠ g7 by rw [← hg]; exact Nat.ne_of_lt (blk_lt BK1.out))
        have N4_7 := Aside0.mk (show g4 ≠ g7 by rw [← hg]; exact Nat.ne_of_lt (blk_lt BK4.out))
        generalize v1_.alloc (.cells #[.slice none 0 0, .bool false] 24) = v4_ at hb hk ⊢
        have n0 := Aside0.mk (blk_below BK1.out hb)
        have n1 := Aside0.mk (blk_below BK4.out hb)
        have n2 := Aside0.mk (Ia.out.below hb)
        have n3 := Aside0.mk (Ib.out.below hb)
        have n4 := Aside0.mk (below_step HB.out hb)
        clear BK1 BK4 Ia Ib HB
        have BK1 := n0
        have BK4 := n1
        have Ia := n2
        have Ib := n3
        have HB := n4
        clear n0 n1 n2 n3 n4
        clear hb
        rw [hg] at hk ⊢
        have BK7 := Aside0.mk hk
        clear hk hg
        refine hK.out _ _ BK4.out (fun hHeld => ?_)
        clear hK K
        refine norm_ (a' := ?_) ?_ ?_
        rotate_left
        · show Act.put _ (some 7) _ = _
          simp only [Act.put, List.setIfInBounds_toArray, List.set_cons_zero, List.set_cons_succ, i64_w, i32_w]
          rfl
        refine one_ (i := 2) (N := some 32) #[true, true, true, false, false, false, true, false, false] rfl rfl (one_of HT_.out (by kernel_rfl)) (by decide) (fun K hK => ?_)
        refine goes_ Tryd.func11 (by kernel_rfl) rfl #[.agg #[.slice Ab nb cb, .bool tb.lost], .int .i64 2, .agg (ea (evN 4))] (by rfl) rfl rfl (by (try simp only [List.map_toArray, List.map_cons, List.map_nil]); first | done | rfl) ?_
        with_reducible refine (push_to Ab nb cb tb tc 2 0 (evN 4) _ HQ7.out Ib.out.its (GG.out.below GG.out.lt HB.out) (evn_wf _)).mono ?_
        rintro e0 v5_ ⟨A7, n7, c7, rfl, hio, hb⟩
        refine ⟨_, rfl, ?_⟩
        have hin := Aside0.mk (hio.mono (below_size HB.out))
        have n0 := Aside0.mk (blk_below BK1.out hb)
        have n1 := Aside0.mk (blk_below BK4.out hb)
        have n2 := Aside0.mk (Ia.out.below hb)
        have n3 := Aside0.mk (Ib.out.below hb)
        have n4 := Aside0.mk (below_step HB.out hb)
        have n5 := Aside0.mk (blk_below BK7.out hb)
        clear BK1 BK4 Ia Ib HB BK7
        have BK1 := n0
        have BK4 := n1
        have Ia := n2
        have Ib := n3
        have HB := n4
        have BK7 := n5
        clear n0 n1 n2 n3 n4 n5
        have I7 := hin
        clear hin hio hb
        refine hK.out _ _ BK4.out (fun hHeld => ?_)
        clear hK K
        refine norm_ (a' := ?_) ?_ ?_
        rotate_left
        · show Act.put _ (some 32) _ = _
          simp only [Act.put, List.setIfInBounds_toArray, List.set_cons_zero, List.set_cons_succ, i64_w, i32_w]
          rfl
        refine pure_ (i := 3) (N := (some 29)) (v := ?_) (a' := ?_) #[true, true, true, true, false, false, true, false, false] rfl rfl (any_of HT_.out (by kernel_rfl)) (fun _ _ _ h => h) (Or.inl ⟨by rfl, ?_⟩) ?_ ?_
        rotate_left
        · intro w'
          go_simp
          first | with_reducible rfl | (simp; done) | rfl
        rotate_left
        · simp only [Act.put, List.setIfInBounds_toArray, List.set_cons_zero, List.set_cons_succ, i64_w, i32_w]
          rfl
        refine pure_ (i := 4) (N := (some 33)) (v := ?_) (a' := ?_) #[true, true, true, true, true, false, true, false, false] rfl rfl (any_of HT_.out (by kernel_rfl)) (fun _ _ _ h => h) (Or.inl ⟨by rfl, ?_⟩) ?_ ?_
        rotate_left
        · intro w'
          go_simp
          first | with_reducible rfl | (simp; done) | rfl
        rotate_left
        · simp only [Act.put, List.setIfInBounds_toArray, List.set_cons_zero, List.set_cons_succ, i64_w, i32_w]
          rfl
        refine pure_ (i := 5) (N := (some 34)) (v := ?_) (a' := ?_) #[true, true, true, true, true, true, true, false, false] rfl rfl (any_of HT_.out (by kernel_rfl)) (fun _ _ _ h => h) (Or.inl ⟨by rfl, ?_⟩) ?_ ?_
        rotate_left
        · intro w'
          go_simp
          first | with_reducible rfl | (simp; done) | rfl
        rotate_left
        · simp only [Act.put, List.setIfInBounds_toArray, List.set_cons_zero, List.set_cons_succ, i64_w, i32_w]
          rfl
        have hz := hcont (g7, A7, n7, c7) _ ⟨BK1.out, BK4.out, Ia.out, Ib.out, HB.out, BK7.out, G7.out, N1_7.out, N4_7.out, I7.out⟩
        simp only [putAll, Act.put, List.setIfInBounds_toArray, List.set_cons_zero, List.set_cons_succ, i64_w, i32_w] at hz
        exact hz
    · refine value_ (v := .pointer (some ⟨wd.heap.size, 0, none⟩)) (w1 := wd.alloc (.cells #[.slice none 0 0, .bool false] 24)) (by rfl) rfl ?_ ?_
      · go_simp
        first | done | rfl
      obtain ⟨g7, hg⟩ : ∃ g, wd.heap.size = g := ⟨_, rfl⟩
      have hb := below_new wd (.cells #[.slice none 0 0, .bool false] 24)
      have hk := blk_new wd (.cells #[.slice none 0 0, .bool false] 24)
      have G7 := Aside0.mk (show W.heap.size ≤ g7 by rw [← hg]; exact below_size HB.out)
      have N1_7 := Aside0.mk (show g1 ≠ g7 by rw [← hg]; exact Nat.ne_of_lt (blk_lt BK1.out))
      have N4_7 := Aside0.mk (show g4 ≠ g7 by rw [← hg]; exact Nat.ne_of_lt (blk_lt BK4.out))
      generalize wd.alloc (.cells #[.slice none 0 0, .bool false] 24) = v6_ at hb hk ⊢
      have n0 := Aside0.mk (blk_below BK1.out hb)
      have n1 := Aside0.mk (blk_below BK4.out hb)
      have n2 := Aside0.mk (Ia.out.below hb)
      have n3 := Aside0.mk (Ib.out.below hb)
      have n4 := Aside0.mk (below_step HB.out hb)
      clear BK1 BK4 Ia Ib HB
      have BK1 := n0
      have BK4 := n1
      have Ia := n2
      have Ib := n3
      have HB := n4
      clear n0 n1 n2 n3 n4
      clear hb
      rw [hg] at hk ⊢
      have BK7 := Aside0.mk hk
      clear hk hg
      refine hK.out _ _ BK4.out (fun hHeld => ?_)
      clear hK K
      refine norm_ (a' := ?_) ?_ ?_
      rotate_left
      · show Act.put _ (some 7) _ = _
        simp only [Act.put, List.setIfInBounds_toArray, List.set_cons_zero, List.set_cons_succ, i64_w, i32_w]
        rfl
      refine one_ (i := 1) (N := some 31) #[true, true, false, false, false, false, true, false, false] rfl rfl (one_of HT_.out (by kernel_rfl)) (by decide) (fun K hK => ?_)
      refine goes_ Tryd.func12 (by kernel_rfl) rfl #[.int .i64 4] (by rfl) rfl rfl (by (try simp only [List.map_toArray, List.map_cons, List.map_nil]); first | done | rfl) ?_
      with_reducible refine (evn_walk _ _).mono ?_
      rintro e0 v7_ ⟨rfl, hb⟩
      refine ⟨_, rfl, ?_⟩
      have n0 := Aside0.mk (blk_below BK1.out hb)
      have n1 := Aside0.mk (blk_below BK4.out hb)
      have n2 := Aside0.mk (Ia.out.below hb)
      have n3 := Aside0.mk (Ib.out.below hb)
      have n4 := Aside0.mk (below_step HB.out hb)
      have n5 := Aside0.mk (blk_below BK7.out hb)
      clear BK1 BK4 Ia Ib HB BK7
      have BK1 := n0
      have BK4 := n1
      have Ia := n2
      have Ib := n3
      have HB := n4
      have BK7 := n5
      clear n0 n1 n2 n3 n4 n5
      clear hb
      refine hK.out _ _ BK4.out (fun hHeld => ?_)
      clear hK K
      refine norm_ (a' := ?_) ?_ ?_
      rotate_left
      · show Act.put _ (some 31) _ = _
        simp only [Act.put, List.setIfInBounds_toArray, List.set_cons_zero, List.set_cons_succ, i64_w, i32_w]
        rfl
      refine one_ (i := 2) (N := some 32) #[true, true, true, false, false, false, true, false, false] rfl rfl (one_of HT_.out (by kernel_rfl)) (by decide) (fun K hK => ?_)
      refine goes_ Tryd.func11 (by kernel_rfl) rfl #[.agg #[.slice Ab nb cb, .bool tb.lost], .int .i64 2, .agg (ea (evN 4))] (by rfl) rfl rfl (by (try simp only [List.map_toArray, List.map_cons, List.map_nil]); first | done | rfl) ?_
      with_reducible refine (push_to Ab nb cb tb tc 2 0 (evN 4) _ HQ7.out Ib.out.its (GG.out.below GG.out.lt HB.out) (evn_wf _)).mono ?_
      rintro e0 v8_ ⟨A7, n7, c7, rfl, hio, hb⟩
      refine ⟨_, rfl, ?_⟩
      have hin := Aside0.mk (hio.mono (below_size HB.out))
      have n0 := Aside0.mk (blk_below BK1.out hb)
      have n1 := Aside0.mk (blk_below BK4.out hb)
      have n2 := Aside0.mk (Ia.out.below hb)
      have n3 := Aside0.mk (Ib.out.below hb)
      have n4 := Aside0.mk (below_step HB.out hb)
      have n5 := Aside0.mk (blk_below BK7.out hb)
      clear BK1 BK4 Ia Ib HB BK7
      have BK1 := n0
      have BK4 := n1
      have Ia := n2
      have Ib := n3
      have HB := n4
      have BK7 := n5
      clear n0 n1 n2 n3 n4 n5
      have I7 := hin
      clear hin hio hb
      refine hK.out _ _ BK4.out (fun hHeld => ?_)
      clear hK K
      refine norm_ (a' := ?_) ?_ ?_
      rotate_left
      · show Act.put _ (some 32) _ = _
        simp only [Act.put, List.setIfInBounds_toArray, List.set_cons_zero, List.set_cons_succ, i64_w, i32_w]
        rfl
      refine pure_ (i := 3) (N := (some 29)) (v := ?_) (a' := ?_) #[true, true, true, true, false, false, true, false, false] rfl rfl (any_of HT_.out (by kernel_rfl)) (fun _ _ _ h => h) (Or.inl ⟨by rfl, ?_⟩) ?_ ?_
      rotate_left
      · intro w'
        go_simp
        first | with_reducible rfl | (simp; done) | rfl
      rotate_left
      · simp only [Act.put, List.setIfInBounds_toArray, List.set_cons_zero, List.set_cons_succ, i64_w, i32_w]
        rfl
      refine pure_ (i := 4) (N := (some 33)) (v := ?_) (a' := ?_) #[true, true, true, true, true, false, true, false, false] rfl rfl (any_of HT_.out (by kernel_rfl)) (fun _ _ _ h => h) (Or.inl ⟨by rfl, ?_⟩) ?_ ?_
      rotate_left
      · intro w'
        go_simp
        first | with_reducible rfl | (simp; done) | rfl
      rotate_left
      · simp only [Act.put, List.setIfInBounds_toArray, List.set_cons_zero, List.set_cons_succ, i64_w, i32_w]
        rfl
      refine pure_ (i := 5) (N := (some 34)) (v := ?_) (a' := ?_) #[true, true, true, true, true, true, true, false, false] rfl rfl (any_of HT_.out (by kernel_rfl)) (fun _ _ _ h => h) (Or.inl ⟨by rfl, ?_⟩) ?_ ?_
      rotate_left
      · intro w'
        go_simp
        first | with_reducible rfl | (simp; done) | rfl
      rotate_left
      · simp only [Act.put, List.setIfInBounds_toArray, List.set_cons_zero, List.set_cons_succ, i64_w, i32_w]
        rfl
      have hz := hcont (g7, A7, n7, c7) _ ⟨BK1.out, BK4.out, Ia.out, Ib.out, HB.out, BK7.out, G7.out, N1_7.out, N4_7.out, I7.out⟩
      simp only [putAll, Act.put, List.setIfInBounds_toArray, List.set_cons_zero, List.set_cons_succ, i64_w, i32_w] at hz
      exact hz
  · rintro ⟨g7, A7, n7, c7⟩ wj ⟨h0, h1, h2, h3, h4, h5, h6, h7, h8, h9⟩
    simp only [putAll, Act.put, List.setIfInBounds_toArray, List.set_cons_zero, List.set_cons_succ, i64_w, i32_w]
    clear BK1 BK4 Ia Ib HB
    have BK1 := Aside0.mk h0
    have BK4 := Aside0.mk h1
    have Ia := Aside0.mk h2
    have Ib := Aside0.mk h3
    have HB := Aside0.mk h4
    have BK7 := Aside0.mk h5
    have G7 := Aside0.mk h6
    have N1_7 := Aside0.mk h7
    have N4_7 := Aside0.mk h8
    have I7 := Aside0.mk h9
    clear h0 h1 h2 h3 h4 h5 h6 h7 h8 h9
    refine one_ (i := 7) (N := none) #[true, true, true, true, true, true, true, true, false] rfl rfl (one_of HT_.out (by kernel_rfl)) (by decide) (fun K hK => ?_)
    rw [if_pos (by rfl)]
    refine wp_store_row 24 (.tmp 7) (.tmp 33) rfl g7 (#[.slice A7 n7 c7, .bool tc.lost]) rfl rfl 24 (#[.slice none 0 0, .bool false]) BK7.out size_tap rfl (tap_one _ _ _ _) ?_
    obtain ⟨wk, hwe⟩ : ∃ w', World.setRow wj g7 (#[.slice A7 n7 c7, .bool tc.lost]) = w' := ⟨_, rfl⟩
    have hoth : ∀ k, k ≠ g7 → wk.heap[k]? = wj.heap[k]? := fun k hk => by rw [← hwe]; exact setRow_other wj g7 k _ hk
    have n0 := Aside0.mk ((hoth g1 (N1_7.out)).trans BK1.out)
    have n1 := Aside0.mk ((hoth g4 (N4_7.out)).trans BK4.out)
    have n2 := Aside0.mk (io_store Ia.out BK7.out (by decide) hoth)
    have n3 := Aside0.mk (io_store Ib.out BK7.out (by decide) hoth)
    have n4 := Aside0.mk (show Below W.heap.size W wk by rw [← hwe]; exact below_setRow HB.out G7.out (#[.slice A7 n7 c7, .bool tc.lost]))
    have n5 := Aside0.mk (show wk.heap[g7]? = some (.cells (#[.slice A7 n7 c7, .bool tc.lost]) 24 (0, 0)) by rw [← hwe]; exact setRow_heap _ g7 _ _ _ _ BK7.out)
    have n6 := Aside0.mk (io_store I7.out BK7.out (by decide) hoth)
    clear BK1 BK4 Ia Ib HB BK7 I7
    have BK1 := n0
    have BK4 := n1
    have Ia := n2
    have Ib := n3
    have HB := n4
    have BK7 := n5
    have I7 := n6
    clear n0 n1 n2 n3 n4 n5 n6
    rw [hwe]
    clear hwe hoth
    refine hK.out _ _ BK4.out (fun hHeld => ?_)
    clear hK K
    refine pure_ (i := 8) (N := (some 8)) (v := ?_) (a' := ?_) #[true, true, true, true, true, true, true, true, true] rfl rfl (any_of HT_.out (by kernel_rfl)) (fun _ _ _ h => h) (Or.inl ⟨by rfl, ?_⟩) ?_ ?_
    rotate_left
    · intro w'
      go_simp
      first | with_reducible rfl | (simp; done) | rfl
    rotate_left
    · simp only [Act.put, List.setIfInBounds_toArray, List.set_cons_zero, List.set_cons_succ, i64_w, i32_w]
      rfl
    refine done_ (done_of HT_.out (by kernel_rfl)) ?_
    go_wp2
    have hb : Below wk.heap.size wk wk.drew := below_drew (Below.refl _ _)
    refine start_ (n := 9) (S := fun w' => w'.heap[g1]? = some (.cells #[.slice Aa na ca, .bool ta.lost] 24 (0, 0))) (ds := []) #[false, false, false, false, false, false, false, false, false] (by kernel_rfl) rfl rfl (blk_below BK1.out hb) (fun hHeld => ?_)
    refine with_tabW names4_tab names4_bits (fun HT_ HW_ => ?_)
    have n0 := Aside0.mk (blk_below BK1.out hb)
    have n1 := Aside0.mk (blk_below BK4.out hb)
    have n2 := Aside0.mk (Ia.out.below hb)
    have n3 := Aside0.mk (Ib.out.below hb)
    have n4 := Aside0.mk (below_step HB.out hb)
    have n5 := Aside0.mk (blk_below BK7.out hb)
    have n6 := Aside0.mk (I7.out.below hb)
    clear BK1 BK4 Ia Ib HB BK7 I7
    have BK1 := n0
    have BK4 := n1
    have Ia := n2
    have Ib := n3
    have HB := n4
    have BK7 := n5
    have I7 := n6
    clear n0 n1 n2 n3 n4 n5 n6
    clear hb
    generalize wk.drew = wd at BK1 BK4 Ia Ib HB BK7 I7 hHeld ⊢
    refine take_ (i := 0) (N := (some 36)) (v := .agg #[.slice Aa na ca, .bool ta.lost]) (a' := ?_) #[true, false, false, false, false, false, false, false, false] rfl rfl (take_ofW HT_.out HW_.out (by kernel_rfl)) (fun _ _ _ h => h) (Or.inl ⟨by rfl, ?_⟩) hHeld ?_ ?_
    · rintro w' s0
      refine op_load (x := .tmp 1) (load_row Tryd.underlying24 rfl size_tap s0 rfl) ?_ ?_ <;> rfl
    rotate_left
    · simp only [Act.put, List.setIfInBounds_toArray, List.set_cons_zero, List.set_cons_succ, i64_w, i32_w]
      rfl
    refine join_ (σ := Nat × Option Addr × Nat × Nat) 2 #[true, true, true, true, true, true, true, false, false] (fun s => [(37, .agg (ea (evN 4))), (38, .tuple #[.agg #[.slice s.2.1 s.2.2.1 s.2.2.2, .bool td.lost], .int .i64 0]), (35, .tuple #[.agg #[.slice s.2.1 s.2.2.1 s.2.2.2, .bool td.lost], .int .i64 0]), (39, .agg #[.slice s.2.1 s.2.2.1 s.2.2.2, .bool td.lost]), (40, .int .i64 0), (9, .pointer (some ⟨s.1, 0, none⟩))]) (fun s w' => w'.heap[g1]? = some (.cells #[.slice Aa na ca, .bool ta.lost] 24 (0, 0)) ∧ w'.heap[g4]? = some (.cells #[.slice Ab nb cb, .bool tb.lost] 24 (0, 0)) ∧ ItsO w' W.heap.size Aa na ca ta.its ∧ ItsO w' W.heap.size Ab nb cb tb.its ∧ Below W.heap.size W w' ∧ w'.heap[g7]? = some (.cells #[.slice A7 n7 c7, .bool tc.lost] 24 (0, 0)) ∧ ItsO w' W.heap.size A7 n7 c7 tc.its ∧ w'.heap[s.1]? = some (.cells #[.slice none 0 0, .bool false] 24 (0, 0)) ∧ W.heap.size ≤ s.1 ∧ g1 ≠ s.1 ∧ g4 ≠ s.1 ∧ g7 ≠ s.1 ∧ ItsO w' W.heap.size s.2.1 s.2.2.1 s.2.2.2 td.its) ?_ ?_
    rotate_left
    · intro hcont
      refine two_ (i := 1) (j := 6) #[true, true, false, false, false, false, false, false, false] #[true, false, false, false, false, false, true, false, false] rfl rfl rfl rfl (two_of HT_.out (by kernel_rfl)) (by decide) (by decide) (fun K hK => ?_) (fun K hK => ?_)
      · refine goes_ Tryd.func12 (by kernel_rfl) rfl #[.int .i64 4] (by rfl) rfl rfl (by (try simp only [List.map_toArray, List.map_cons, List.map_nil]); first | done | rfl) ?_
        with_reducible refine (evn_walk _ _).mono ?_
        rintro e0 v1_ ⟨rfl, hb⟩
        refine ⟨_, rfl, ?_⟩
        have n0 := Aside0.mk (blk_below BK1.out hb)
        have n1 := Aside0.mk (blk_below BK4.out hb)
        have n2 := Aside0.mk (Ia.out.below hb)
        have n3 := Aside0.mk (Ib.out.below hb)
        have n4 := Aside0.mk (below_step HB.out hb)
        have n5 := Aside0.mk (blk_below BK7.out hb)
        have n6 := Aside0.mk (I7.out.below hb)
        clear BK1 BK4 Ia Ib HB BK7 I7
        have BK1 := n0
        have BK4 := n1
        have Ia := n2
        have Ib := n3
        have HB := n4
        have BK7 := n5
        have I7 := n6
        clear n0 n1 n2 n3 n4 n5 n6
        clear hb
        refine hK.out _ _ BK1.out (fun hHeld => ?_)
        clear hK K
        refine norm_ (a' := ?_) ?_ ?_
        rotate_left
        · show Act.put _ (some 37) _ = _
          simp only [Act.put, List.setIfInBounds_toArray, List.set_cons_zero, List.set_cons_succ, i64_w, i32_w]
          rfl
        refine two_ (i := 2) (j := 6) #[true, true, true, false, false, false, false, false, false] #[true, true, false, false, false, false, true, false, false] rfl rfl rfl rfl (two_of HT_.out (by kernel_rfl)) (by decide) (by decide) (fun K hK => ?_) (fun K hK => ?_)
        · refine goes_ Tryd.func11 (by kernel_rfl) rfl #[.agg #[.slice Aa na ca, .bool ta.lost], .int .i64 2, .agg (ea (evN 4))] (by rfl) rfl rfl (by (try simp only [List.map_toArray, List.map_cons, List.map_nil]); first | done | rfl) ?_
          with_reducible refine (push_to Aa na ca ta td 2 0 (evN 4) _ HQ9.out Ia.out.its (GG.out.below GG.out.lt HB.out) (evn_wf _)).mono ?_
          rintro e0 v2_ ⟨A9, n9, c9, rfl, hio, hb⟩
          refine ⟨_, rfl, ?_⟩
          have hin := Aside0.mk (hio.mono (below_size HB.out))
          have n0 := Aside0.mk (blk_below BK1.out hb)
          have n1 := Aside0.mk (blk_below BK4.out hb)
          have n2 := Aside0.mk (Ia.out.below hb)
          have n3 := Aside0.mk (Ib.out.below hb)
          have n4 := Aside0.mk (below_step HB.out hb)
          have n5 := Aside0.mk (blk_below BK7.out hb)
          have n6 := Aside0.mk (I7.out.below hb)
          clear BK1 BK4 Ia Ib HB BK7 I7
          have BK1 := n0
          have BK4 := n1
          have Ia := n2
          have Ib := n3
          have HB := n4
          have BK7 := n5
          have I7 := n6
          clear n0 n1 n2 n3 n4 n5 n6
          have I9 := hin
          clear hin hio hb
          refine hK.out _ _ BK1.out (fun hHeld => ?_)
          clear hK K
          refine norm_ (a' := ?_) ?_ ?_
          rotate_left
          · show Act.put _ (some 38) _ = _
            simp only [Act.put, List.setIfInBounds_toArray, List.set_cons_zero, List.set_cons_succ, i64_w, i32_w]
            rfl
          refine pure_ (i := 3) (N := (some 35)) (v := ?_) (a' := ?_) #[true, true, true, true, false, false, false, false, false] rfl rfl (any_of HT_.out (by kernel_rfl)) (fun _ _ _ h => h) (Or.inl ⟨by rfl, ?_⟩) ?_ ?_
          rotate_left
          · intro w'
            go_simp
            first | with_reducible rfl | (simp; done) | rfl
          rotate_left
          · simp only [Act.put, List.setIfInBounds_toArray, List.set_cons_zero, List.set_cons_succ, i64_w, i32_w]
            rfl
          refine pure_ (i := 4) (N := (some 39)) (v := ?_) (a' := ?_) #[true, true, true, true, true, false, false, false, false] rfl rfl (any_of HT_.out (by kernel_rfl)) (fun _ _ _ h => h) (Or.inl ⟨by rfl, ?_⟩) ?_ ?_
          rotate_left
          · intro w'
            go_simp
            first | with_reducible rfl | (simp; done) | rfl
          rotate_left
          · simp only [Act.put, List.setIfInBounds_toArray, List.set_cons_zero, List.set_cons_succ, i64_w, i32_w]
            rfl
          refine pure_ (i := 5) (N := (some 40)) (v := ?_) (a' := ?_) #[true, true, true, true, true, true, false, false, false] rfl rfl (any_of HT_.out (by kernel_rfl)) (fun _ _ _ h => h) (Or.inl ⟨by rfl, ?_⟩) ?_ ?_
          rotate_left
          · intro w'
            go_simp
            first | with_reducible rfl | (simp; done) | rfl
          rotate_left
          · simp only [Act.put, List.setIfInBounds_toArray, List.set_cons_zero, List.set_cons_succ, i64_w, i32_w]
            rfl
          refine one_ (i := 6) (N := some 9) #[true, true, true, true, true, true, true, false, false] rfl rfl (one_of HT_.out (by kernel_rfl)) (by decide) (fun K hK => ?_)
          refine value_ (v := .pointer (some ⟨v2_.heap.size, 0, none⟩)) (w1 := v2_.alloc (.cells #[.slice none 0 0, .bool false] 24)) (by rfl) rfl ?_ ?_
          · go_simp
            first | done | rfl
          obtain ⟨g9, hg⟩ : ∃ g, v2_.heap.size = g := ⟨_, rfl⟩
          have hb := below_new v2_ (.cells #[.slice none 0 0, .bool false] 24)
          have hk := blk_new v2_ (.cells #[.slice none 0 0, .bool false] 24)
          have G9 := Aside0.mk (show W.heap.size ≤ g9 by rw [← hg]; exact below_size HB.out)
          have N1_9 := Aside0.mk (show g1 ≠ g9 by rw [← hg]; exact Nat.ne_of_lt (blk_lt BK1.out))
          have N4_9 := Aside0.mk (show g4 ≠ g9 by rw [← hg]; exact Nat.ne_of_lt (blk_lt BK4.out))
          have N7_9 := Aside0.mk (show g7 ≠ g9 by rw [← hg]; exact Nat.ne_of_lt (blk_lt BK7.out))
          generalize v2_.alloc (.cells #[.slice none 0 0, .bool false] 24) = v3_ at hb hk ⊢
          have n0 := Aside0.mk (blk_below BK1.out hb)
          have n1 := Aside0.mk (blk_below BK4.out hb)
          have n2 := Aside0.mk (Ia.out.below hb)
          have n3 := Aside0.mk (Ib.out.below hb)
          have n4 := Aside0.mk (below_step HB.out hb)
          have n5 := Aside0.mk (blk_below BK7.out hb)
          have n6 := Aside0.mk (I7.out.below hb)
          have n7 := Aside0.mk (I9.out.below hb)
          clear BK1 BK4 Ia Ib HB BK7 I7 I9
          have BK1 := n0
          have BK4 := n1
          have Ia := n2
          have Ib := n3
          have HB := n4
          have BK7 := n5
          have I7 := n6
          have I9 := n7
          clear n0 n1 n2 n3 n4 n5 n6 n7
          clear hb
          rw [hg] at hk ⊢
          have BK9 := Aside0.mk hk
          clear hk hg
          refine hK.out _ _ BK1.out (fun hHeld => ?_)
          clear hK K
          refine norm_ (a' := ?_) ?_ ?_
          rotate_left
          · show Act.put _ (some 9) _ = _
            simp only [Act.put, List.setIfInBounds_toArray, List.set_cons_zero, List.set_cons_succ, i64_w, i32_w]
            rfl
          have hz := hcont (g9, A9, n9, c9) _ ⟨BK1.out, BK4.out, Ia.out, Ib.out, HB.out, BK7.out, I7.out, BK9.out, G9.out, N1_9.out, N4_9.out, N7_9.out, I9.out⟩
          simp only [putAll, Act.put, List.setIfInBounds_toArray, List.set_cons_zero, List.set_cons_succ, i64_w, i32_w] at hz
          exact hz
        · refine value_ (v := .pointer (some ⟨v1_.heap.size, 0, none⟩)) (w1 := v1_.alloc (.cells #[.slice none 0 0, .bool false] 24)) (by rfl) rfl ?_ ?_
          · go_simp
            first | done | rfl
          obtain ⟨g9, hg⟩ : ∃ g, v1_.heap.size = g := ⟨_, rfl⟩
          have hb := below_new v1_ (.cells #[.slice none 0 0, .bool false] 24)
          have hk := blk_new v1_ (.cells #[.slice none 0 0, .bool false] 24)
          have G9 := Aside0.mk (show W.heap.size ≤ g9 by rw [← hg]; exact below_size HB.out)
          have N1_9 := Aside0.mk (show g1 ≠ g9 by rw [← hg]; exact Nat.ne_of_lt (blk_lt BK1.out))
          have N4_9 := Aside0.mk (show g4 ≠ g9 by rw [← hg]; exact Nat.ne_of_lt (blk_lt BK4.out))
          have N7_9 := Aside0.mk (show g7 ≠ g9 by rw [← hg]; exact Nat.ne_of_lt (blk_lt BK7.out))
          generalize v1_.alloc (.cells #[.slice none 0 0, .bool false] 24) = v4_ at hb hk ⊢
          have n0 := Aside0.mk (blk_below BK1.out hb)
          have n1 := Aside0.mk (blk_below BK4.out hb)
          have n2 := Aside0.mk (Ia.out.below hb)
          have n3 := Aside0.mk (Ib.out.below hb)
          have n4 := Aside0.mk (below_step HB.out hb)
          have n5 := Aside0.mk (blk_below BK7.out hb)
          have n6 := Aside0.mk (I7.out.below hb)
          clear BK1 BK4 Ia Ib HB BK7 I7
          have BK1 := n0
          have BK4 := n1
          have Ia := n2
          have Ib := n3
          have HB := n4
          have BK7 := n5
          have I7 := n6
          clear n0 n1 n2 n3 n4 n5 n6
          clear hb
          rw [hg] at hk ⊢
          have BK9 := Aside0.mk hk
          clear hk hg
          refine hK.out _ _ BK1.out (fun hHeld => ?_)
          clear hK K
          refine norm_ (a' := ?_) ?_ ?_
          rotate_left
          · show Act.put _ (some 9) _ = _
            simp only [Act.put, List.setIfInBounds_toArray, List.set_cons_zero, List.set_cons_succ, i64_w, i32_w]
            rfl
          refine one_ (i := 2) (N := some 38) #[true, true, true, false, false, false, true, false, false] rfl rfl (one_of HT_.out (by kernel_rfl)) (by decide) (fun K hK => ?_)
          refine goes_ Tryd.func11 (by kernel_rfl) rfl #[.agg #[.slice Aa na ca, .bool ta.lost], .int .i64 2, .agg (ea (evN 4))] (by rfl) rfl rfl (by (try simp only [List.map_toArray, List.map_cons, List.map_nil]); first | done | rfl) ?_
          with_reducible refine (push_to Aa na ca ta td 2 0 (evN 4) _ HQ9.out Ia.out.its (GG.out.below GG.out.lt HB.out) (evn_wf _)).mono ?_
          rintro e0 v5_ ⟨A9, n9, c9, rfl, hio, hb⟩
          refine ⟨_, rfl, ?_⟩
          have hin := Aside0.mk (hio.mono (below_size HB.out))
          have n0 := Aside0.mk (blk_below BK1.out hb)
          have n1 := Aside0.mk (blk_below BK4.out hb)
          have n2 := Aside0.mk (Ia.out.below hb)
          have n3 := Aside0.mk (Ib.out.below hb)
          have n4 := Aside0.mk (below_step HB.out hb)
          have n5 := Aside0.mk (blk_below BK7.out hb)
          have n6 := Aside0.mk (I7.out.below hb)
          have n7 := Aside0.mk (blk_below BK9.out hb)
          clear BK1 BK4 Ia Ib HB BK7 I7 BK9
          have BK1 := n0
          have BK4 := n1
          have Ia := n2
          have Ib := n3
          have HB := n4
          have BK7 := n5
          have I7 := n6
          have BK9 := n7
          clear n0 n1 n2 n3 n4 n5 n6 n7
          have I9 := hin
          clear hin hio hb
          refine hK.out _ _ BK1.out (fun hHeld => ?_)
          clear hK K
          refine norm_ (a' := ?_) ?_ ?_
          rotate_left
          · show Act.put _ (some 38) _ = _
            simp only [Act.put, List.setIfInBounds_toArray, List.set_cons_zero, List.set_cons_succ, i64_w, i32_w]
            rfl
          refine pure_ (i := 3) (N := (some 35)) (v := ?_) (a' := ?_) #[true, true, true, true, false, false, true, false, false] rfl rfl (any_of HT_.out (by kernel_rfl)) (fun _ _ _ h => h) (Or.inl ⟨by rfl, ?_⟩) ?_ ?_
          rotate_left
          · intro w'
            go_simp
            first | with_reducible rfl | (simp; done) | rfl
          rotate_left
          · simp only [Act.put, List.setIfInBounds_toArray, List.set_cons_zero, List.set_cons_succ, i64_w, i32_w]
            rfl
          refine pure_ (i := 4) (N := (some 39)) (v := ?_) (a' := ?_) #[true, true, true, true, true, false, true, false, false] rfl rfl (any_of HT_.out (by kernel_rfl)) (fun _ _ _ h => h) (Or.inl ⟨by rfl, ?_⟩) ?_ ?_
          rotate_left
          · intro w'
            go_simp
            first | with_reducible rfl | (simp; done) | rfl
          rotate_left
          · simp only [Act.put, List.setIfInBounds_toArray, List.set_cons_zero, List.set_cons_succ, i64_w, i32_w]
            rfl
          refine pure_ (i := 5) (N := (some 40)) (v := ?_) (a' := ?_) #[true, true, true, true, true, true, true, false, false] rfl rfl (any_of HT_.out (by kernel_rfl)) (fun _ _ _ h => h) (Or.inl ⟨by rfl, ?_⟩) ?_ ?_
          rotate_left
          · intro w'
            go_simp
            first | with_reducible rfl | (simp; done) | rfl
          rotate_left
          · simp only [Act.put, List.setIfInBounds_toArray, List.set_cons_zero, List.set_cons_succ, i64_w, i32_w]
            rfl
          have hz := hcont (g9, A9, n9, c9) _ ⟨BK1.out, BK4.out, Ia.out, Ib.out, HB.out, BK7.out, I7.out, BK9.out, G9.out, N1_9.out, N4_9.out, N7_9.out, I9.out⟩
          simp only [putAll, Act.put, List.setIfInBounds_toArray, List.set_cons_zero, List.set_cons_succ, i64_w, i32_w] at hz
          exact hz
      · refine value_ (v := .pointer (some ⟨wd.heap.size, 0, none⟩)) (w1 := wd.alloc (.cells #[.slice none 0 0, .bool false] 24)) (by rfl) rfl ?_ ?_
        · go_simp
          first | done | rfl
        obtain ⟨g9, hg⟩ : ∃ g, wd.heap.size = g := ⟨_, rfl⟩
        have hb := below_new wd (.cells #[.slice none 0 0, .bool false] 24)
        have hk := blk_new wd (.cells #[.slice none 0 0, .bool false] 24)
        have G9 := Aside0.mk (show W.heap.size ≤ g9 by rw [← hg]; exact below_size HB.out)
        have N1_9 := Aside0.mk (show g1 ≠ g9 by rw [← hg]; exact Nat.ne_of_lt (blk_lt BK1.out))
        have N4_9 := Aside0.mk (show g4 ≠ g9 by rw [← hg]; exact Nat.ne_of_lt (blk_lt BK4.out))
        have N7_9 := Aside0.mk (show g7 ≠ g9 by rw [← hg]; exact Nat.ne_of_lt (blk_lt BK7.out))
        generalize wd.alloc (.cells #[.slice none 0 0, .bool false] 24) = v6_ at hb hk ⊢
        have n0 := Aside0.mk (blk_below BK1.out hb)
        have n1 := Aside0.mk (blk_below BK4.out hb)
        have n2 := Aside0.mk (Ia.out.below hb)
        have n3 := Aside0.mk (Ib.out.below hb)
        have n4 := Aside0.mk (below_step HB.out hb)
        have n5 := Aside0.mk (blk_below BK7.out hb)
        have n6 := Aside0.mk (I7.out.below hb)
        clear BK1 BK4 Ia Ib HB BK7 I7
        have BK1 := n0
        have BK4 := n1
        have Ia := n2
        have Ib := n3
        have HB := n4
        have BK7 := n5
        have I7 := n6
        clear n0 n1 n2 n3 n4 n5 n6
        clear hb
        rw [hg] at hk ⊢
        have BK9 := Aside0.mk hk
        clear hk hg
        refine hK.out _ _ BK1.out (fun hHeld => ?_)
        clear hK K
        refine norm_ (a' := ?_) ?_ ?_
        rotate_left
        · show Act.put _ (some 9) _ = _
          simp only [Act.put, List.setIfInBounds_toArray, List.set_cons_zero, List.set_cons_succ, i64_w, i32_w]
          rfl
        refine one_ (i := 1) (N := some 37) #[true, true, false, false, false, false, true, false, false] rfl rfl (one_of HT_.out (by kernel_rfl)) (by decide) (fun K hK => ?_)
        refine goes_ Tryd.func12 (by kernel_rfl) rfl #[.int .i64 4] (by rfl) rfl rfl (by (try simp only [List.map_toArray, List.map_cons, List.map_nil]); first | done | rfl) ?_
        with_reducible refine (evn_walk _ _).mono ?_
        rintro e0 v7_ ⟨rfl, hb⟩
        refine ⟨_, rfl, ?_⟩
        have n0 := Aside0.mk (blk_below BK1.out hb)
        have n1 := Aside0.mk (blk_below BK4.out hb)
        have n2 := Aside0.mk (Ia.out.below hb)
        have n3 := Aside0.mk (Ib.out.below hb)
        have n4 := Aside0.mk (below_step HB.out hb)
        have n5 := Aside0.mk (blk_below BK7.out hb)
        have n6 := Aside0.mk (I7.out.below hb)
        have n7 := Aside0.mk (blk_below BK9.out hb)
        clear BK1 BK4 Ia Ib HB BK7 I7 BK9
        have BK1 := n0
        have BK4 := n1
        have Ia := n2
        have Ib := n3
        have HB := n4
        have BK7 := n5
        have I7 := n6
        have BK9 := n7
        clear n0 n1 n2 n3 n4 n5 n6 n7
        clear hb
        refine hK.out _ _ BK1.out (fun hHeld => ?_)
        clear hK K
        refine norm_ (a' := ?_) ?_ ?_
        rotate_left
        · show Act.put _ (some 37) _ = _
          simp only [Act.put, List.setIfInBounds_toArray, List.set_cons_zero, List.set_cons_succ, i64_w, i32_w]
          rfl
        refine one_ (i := 2) (N := some 38) #[true, true, true, false, false, false, true, false, false] rfl rfl (one_of HT_.out (by kernel_rfl)) (by decide) (fun K hK => ?_)
        refine goes_ Tryd.func11 (by kernel_rfl) rfl #[.agg #[.slice Aa na ca, .bool ta.lost], .int .i64 2, .agg (ea (evN 4))] (by rfl) rfl rfl (by (try simp only [List.map_toArray, List.map_cons, List.map_nil]); first | done | rfl) ?_
        with_reducible refine (push_to Aa na ca ta td 2 0 (evN 4) _ HQ9.out Ia.out.its (GG.out.below GG.out.lt HB.out) (evn_wf _)).mono ?_
        rintro e0 v8_ ⟨A9, n9, c9, rfl, hio, hb⟩
        refine ⟨_, rfl, ?_⟩
        have hin := Aside0.mk (hio.mono (below_size HB.out))
        have n0 := Aside0.mk (blk_below BK1.out hb)
        have n1 := Aside0.mk (blk_below BK4.out hb)
        have n2 := Aside0.mk (Ia.out.below hb)
        have n3 := Aside0.mk (Ib.out.below hb)
        have n4 := Aside0.mk (below_step HB.out hb)
        have n5 := Aside0.mk (blk_below BK7.out hb)
        have n6 := Aside0.mk (I7.out.below hb)
        have n7 := Aside0.mk (blk_below BK9.out hb)
        clear BK1 BK4 Ia Ib HB BK7 I7 BK9
        have BK1 := n0
        have BK4 := n1
        have Ia := n2
        have Ib := n3
        have HB := n4
        have BK7 := n5
        have I7 := n6
        have BK9 := n7
        clear n0 n1 n2 n3 n4 n5 n6 n7
        have I9 := hin
        clear hin hio hb
        refine hK.out _ _ BK1.out (fun hHeld => ?_)
        clear hK K
        refine norm_ (a' := ?_) ?_ ?_
        rotate_left
        · show Act.put _ (some 38) _ = _
          simp only [Act.put, List.setIfInBounds_toArray, List.set_cons_zero, List.set_cons_succ, i64_w, i32_w]
          rfl
        refine pure_ (i := 3) (N := (some 35)) (v := ?_) (a' := ?_) #[true, true, true, true, false, false, true, false, false] rfl rfl (any_of HT_.out (by kernel_rfl)) (fun _ _ _ h => h) (Or.inl ⟨by rfl, ?_⟩) ?_ ?_
        rotate_left
        · intro w'
          go_simp
          first | with_reducible rfl | (simp; done) | rfl
        rotate_left
        · simp only [Act.put, List.setIfInBounds_toArray, List.set_cons_zero, List.set_cons_succ, i64_w, i32_w]
          rfl
        refine pure_ (i := 4) (N := (some 39)) (v := ?_) (a' := ?_) #[true, true, true, true, true, false, true, false, false] rfl rfl (any_of HT_.out (by kernel_rfl)) (fun _ _ _ h => h) (Or.inl ⟨by rfl, ?_⟩) ?_ ?_
        rotate_left
        · intro w'
          go_simp
          first | with_reducible rfl | (simp; done) | rfl
        rotate_left
        · simp only [Act.put, List.setIfInBounds_toArray, List.set_cons_zero, List.set_cons_succ, i64_w, i32_w]
          rfl
        refine pure_ (i := 5) (N := (some 40)) (v := ?_) (a' := ?_) #[true, true, true, true, true, true, true, false, false] rfl rfl (any_of HT_.out (by kernel_rfl)) (fun _ _ _ h => h) (Or.inl ⟨by rfl, ?_⟩) ?_ ?_
        rotate_left
        · intro w'
          go_simp
          first | with_reducible rfl | (simp; done) | rfl
        rotate_left
        · simp only [Act.put, List.setIfInBounds_toArray, List.set_cons_zero, List.set_cons_succ, i64_w, i32_w]
          rfl
        have hz := hcont (g9, A9, n9, c9) _ ⟨BK1.out, BK4.out, Ia.out, Ib.out, HB.out, BK7.out, I7.out, BK9.out, G9.out, N1_9.out, N4_9.out, N7_9.out, I9.out⟩
        simp only [putAll, Act.put, List.setIfInBounds_toArray, List.set_cons_zero, List.set_cons_succ, i64_w, i32_w] at hz
        exact hz
    · rintro ⟨g9, A9, n9, c9⟩ wj ⟨h0, h1, h2, h3, h4, h5, h6, h7, h8, h9, h10, h11, h12⟩
      simp only [putAll, Act.put, List.setIfInBounds_toArray, List.set_cons_zero, List.set_cons_succ, i64_w, i32_w]
      clear BK1 BK4 Ia Ib HB BK7 I7
      have BK1 := Aside0.mk h0
      have BK4 := Aside0.mk h1
      have Ia := Aside0.mk h2
      have Ib := Aside0.mk h3
      have HB := Aside0.mk h4
      have BK7 := Aside0.mk h5
      have I7 := Aside0.mk h6
      have BK9 := Aside0.mk h7
      have G9 := Aside0.mk h8
      have N1_9 := Aside0.mk h9
      have N4_9 := Aside0.mk h10
      have N7_9 := Aside0.mk h11
      have I9 := Aside0.mk h12
      clear h0 h1 h2 h3 h4 h5 h6 h7 h8 h9 h10 h11 h12
      refine one_ (i := 7) (N := none) #[true, true, true, true, true, true, true, true, false] rfl rfl (one_of HT_.out (by kernel_rfl)) (by decide) (fun K hK => ?_)
      rw [if_pos (by rfl)]
      refine wp_store_row 24 (.tmp 9) (.tmp 39) rfl g9 (#[.slice A9 n9 c9, .bool td.lost]) rfl rfl 24 (#[.slice none 0 0, .bool false]) BK9.out size_tap rfl (tap_one _ _ _ _) ?_
      obtain ⟨wk, hwe⟩ : ∃ w', World.setRow wj g9 (#[.slice A9 n9 c9, .bool td.lost]) = w' := ⟨_, rfl⟩
      have hoth : ∀ k, k ≠ g9 → wk.heap[k]? = wj.heap[k]? := fun k hk => by rw [← hwe]; exact setRow_other wj g9 k _ hk
      have n0 := Aside0.mk ((hoth g1 (N1_9.out)).trans BK1.out)
      have n1 := Aside0.mk ((hoth g4 (N4_9.out)).trans BK4.out)
      have n2 := Aside0.mk (io_store Ia.out BK9.out (by decide) hoth)
      have n3 := Aside0.mk (io_store Ib.out BK9.out (by decide) hoth)
      have n4 := Aside0.mk (show Below W.heap.size W wk by rw [← hwe]; exact below_setRow HB.out G9.out (#[.slice A9 n9 c9, .bool td.lost]))
      have n5 := Aside0.mk ((hoth g7 (N7_9.out)).trans BK7.out)
      have n6 := Aside0.mk (io_store I7.out BK9.out (by decide) hoth)
      have n7 := Aside0.mk (show wk.heap[g9]? = some (.cells (#[.slice A9 n9 c9, .bool td.lost]) 24 (0, 0)) by rw [← hwe]; exact setRow_heap _ g9 _ _ _ _ BK9.out)
      have n8 := Aside0.mk (io_store I9.out BK9.out (by decide) hoth)
      clear BK1 BK4 Ia Ib HB BK7 I7 BK9 I9
      have BK1 := n0
      have BK4 := n1
      have Ia := n2
      have Ib := n3
      have HB := n4
      have BK7 := n5
      have I7 := n6
      have BK9 := n7
      have I9 := n8
      clear n0 n1 n2 n3 n4 n5 n6 n7 n8
      rw [hwe]
      clear hwe hoth
      refine hK.out _ _ BK1.out (fun hHeld => ?_)
      clear hK K
      refine pure_ (i := 8) (N := (some 10)) (v := ?_) (a' := ?_) #[true, true, true, true, true, true, true, true, true] rfl rfl (any_of HT_.out (by kernel_rfl)) (fun _ _ _ h => h) (Or.inl ⟨by rfl, ?_⟩) ?_ ?_
      rotate_left
      · intro w'
        go_simp
        first | with_reducible rfl | (simp; done) | rfl
      rotate_left
      · simp only [Act.put, List.setIfInBounds_toArray, List.set_cons_zero, List.set_cons_succ, i64_w, i32_w]
        rfl
      refine done_ (done_of HT_.out (by kernel_rfl)) ?_
      go_wp2
      have hb : Below wk.heap.size wk wk.drew := below_drew (Below.refl _ _)
      refine start_ (n := 9) (S := fun w' => w'.heap[g1]? = some (.cells #[.slice Aa na ca, .bool ta.lost] 24 (0, 0))) (ds := []) #[false, false, false, false, false, false, false, false, false] (by kernel_rfl) rfl rfl (blk_below BK1.out hb) (fun hHeld => ?_)
      refine with_tabW names5_tab names5_bits (fun HT_ HW_ => ?_)
      have n0 := Aside0.mk (blk_below BK1.out hb)
      have n1 := Aside0.mk (blk_below BK4.out hb)
      have n2 := Aside0.mk (Ia.out.below hb)
      have n3 := Aside0.mk (Ib.out.below hb)
      have n4 := Aside0.mk (below_step HB.out hb)
      have n5 := Aside0.mk (blk_below BK7.out hb)
      have n6 := Aside0.mk (I7.out.below hb)
      have n7 := Aside0.mk (blk_below BK9.out hb)
      have n8 := Aside0.mk (I9.out.below hb)
      clear BK1 BK4 Ia Ib HB BK7 I7 BK9 I9
      have BK1 := n0
      have BK4 := n1
      have Ia := n2
      have Ib := n3
      have HB := n4
      have BK7 := n5
      have I7 := n6
      have BK9 := n7
      have I9 := n8
      clear n0 n1 n2 n3 n4 n5 n6 n7 n8
      clear hb
      generalize wk.drew = wd at BK1 BK4 Ia Ib HB BK7 I7 BK9 I9 hHeld ⊢
      refine take_ (i := 0) (N := (some 42)) (v := .agg #[.slice Aa na ca, .bool ta.lost]) (a' := ?_) #[true, false, false, false, false, false, false, false, false] rfl rfl (take_ofW HT_.out HW_.out (by kernel_rfl)) (fun _ _ _ h => h) (Or.inl ⟨by rfl, ?_⟩) hHeld ?_ ?_
      · rintro w' s0
        refine op_load (x := .tmp 1) (load_row Tryd.underlying24 rfl size_tap s0 rfl) ?_ ?_ <;> rfl
      rotate_left
      · simp only [Act.put, List.setIfInBounds_toArray, List.set_cons_zero, List.set_cons_succ, i64_w, i32_w]
        rfl
      refine join_ (σ := Nat × Option Addr × Nat × Nat) 2 #[true, true, true, true, true, true, true, false, false] (fun s => [(43, .agg (ea (evN 4))), (44, .tuple #[.agg #[.slice s.2.1 s.2.2.1 s.2.2.2, .bool (⟨[], false⟩ : Tp).lost], .int .i64 2]), (41, .tuple #[.agg #[.slice s.2.1 s.2.2.1 s.2.2.2, .bool (⟨[], false⟩ : Tp).lost], .int .i64 2]), (45, .agg #[.slice s.2.1 s.2.2.1 s.2.2.2, .bool (⟨[], false⟩ : Tp).lost]), (46, .int .i64 2), (11, .pointer (some ⟨s.1, 0, none⟩))]) (fun s w' => w'.heap[g1]? = some (.cells #[.slice Aa na ca, .bool ta.lost] 24 (0, 0)) ∧ w'.heap[g4]? = some (.cells #[.slice Ab nb cb, .bool tb.lost] 24 (0, 0)) ∧ ItsO w' W.heap.size Aa na ca ta.its ∧ ItsO w' W.heap.size Ab nb cb tb.its ∧ Below W.heap.size W w' ∧ w'.heap[g7]? = some (.cells #[.slice A7 n7 c7, .bool tc.lost] 24 (0, 0)) ∧ ItsO w' W.heap.size A7 n7 c7 tc.its ∧ w'.heap[g9]? = some (.cells #[.slice A9 n9 c9, .bool td.lost] 24 (0, 0)) ∧ ItsO w' W.heap.size A9 n9 c9 td.its ∧ w'.heap[s.1]? = some (.cells #[.slice none 0 0, .bool false] 24 (0, 0)) ∧ W.heap.size ≤ s.1 ∧ g1 ≠ s.1 ∧ g4 ≠ s.1 ∧ g7 ≠ s.1 ∧ g9 ≠ s.1 ∧ ItsO w' W.heap.size s.2.1 s.2.2.1 s.2.2.2 (⟨[], false⟩ : Tp).its) ?_ ?_
      rotate_left
      · intro hcont
        refine two_ (i := 1) (j := 6) #[true, true, false, false, false, false, false, false, false] #[true, false, false, false, false, false, true, false, false] rfl rfl rfl rfl (two_of HT_.out (by kernel_rfl)) (by decide) (by decide) (fun K hK => ?_) (fun K hK => ?_)
        · refine goes_ Tryd.func12 (by kernel_rfl) rfl #[.int .i64 4] (by rfl) rfl rfl (by (try simp only [List.map_toArray, List.map_cons, List.map_nil]); first | done | rfl) ?_
          with_reducible refine (evn_walk _ _).mono ?_
          rintro e0 v1_ ⟨rfl, hb⟩
          refine ⟨_, rfl, ?_⟩
          have n0 := Aside0.mk (blk_below BK1.out hb)
          have n1 := Aside0.mk (blk_below BK4.out hb)
          have n2 := Aside0.mk (Ia.out.below hb)
          have n3 := Aside0.mk (Ib.out.below hb)
          have n4 := Aside0.mk (below_step HB.out hb)
          have n5 := Aside0.mk (blk_below BK7.out hb)
          have n6 := Aside0.mk (I7.out.below hb)
          have n7 := Aside0.mk (blk_below BK9.out hb)
          have n8 := Aside0.mk (I9.out.below hb)
          clear BK1 BK4 Ia Ib HB BK7 I7 BK9 I9
          have BK1 := n0
          have BK4 := n1
          have Ia := n2
          have Ib := n3
          have HB := n4
          have BK7 := n5
          have I7 := n6
          have BK9 := n7
          have I9 := n8
          clear n0 n1 n2 n3 n4 n5 n6 n7 n8
          clear hb
          refine hK.out _ _ BK1.out (fun hHeld => ?_)
          clear hK K
          refine norm_ (a' := ?_) ?_ ?_
          rotate_left
          · show Act.put _ (some 43) _ = _
            simp only [Act.put, List.setIfInBounds_toArray, List.set_cons_zero, List.set_cons_succ, i64_w, i32_w]
            rfl
          refine two_ (i := 2) (j := 6) #[true, true, true, false, false, false, false, false, false] #[true, true, false, false, false, false, true, false, false] rfl rfl rfl rfl (two_of HT_.out (by kernel_rfl)) (by decide) (by decide) (fun K hK => ?_) (fun K hK => ?_)
          · refine goes_ Tryd.func11 (by kernel_rfl) rfl #[.agg #[.slice Aa na ca, .bool ta.lost], .int .i64 65, .agg (ea (evN 4))] (by rfl) rfl rfl (by (try simp only [List.map_toArray, List.map_cons, List.map_nil]); first | done | rfl) ?_
            with_reducible refine (push_to Aa na ca ta ⟨[], false⟩ 65 2 (evN 4) _ HQ11.out Ia.out.its (GG.out.below GG.out.lt HB.out) (evn_wf _)).mono ?_
            rintro e0 v2_ ⟨A11, n11, c11, rfl, hio, hb⟩
            refine ⟨_, rfl, ?_⟩
            have hin := Aside0.mk (hio.mono (below_size HB.out))
            have n0 := Aside0.mk (blk_below BK1.out hb)
            have n1 := Aside0.mk (blk_below BK4.out hb)
            have n2 := Aside0.mk (Ia.out.below hb)
            have n3 := Aside0.mk (Ib.out.below hb)
            have n4 := Aside0.mk (below_step HB.out hb)
            have n5 := Aside0.mk (blk_below BK7.out hb)
            have n6 := Aside0.mk (I7.out.below hb)
            have n7 := Aside0.mk (blk_below BK9.out hb)
            have n8 := Aside0.mk (I9.out.below hb)
            clear BK1 BK4 Ia Ib HB BK7 I7 BK9 I9
            have BK1 := n0
            have BK4 := n1
            have Ia := n2
            have Ib := n3
            have HB := n4
            have BK7 := n5
            have I7 := n6
            have BK9 := n7
            have I9 := n8
            clear n0 n1 n2 n3 n4 n5 n6 n7 n8
            have I11 := hin
            clear hin hio hb
            refine hK.out _ _ BK1.out (fun hHeld => ?_)
            clear hK K
            refine norm_ (a' := ?_) ?_ ?_
            rotate_left
            · show Act.put _ (some 44) _ = _
              simp only [Act.put, List.setIfInBounds_toArray, List.set_cons_zero, List.set_cons_succ, i64_w, i32_w]
              rfl
            refine pure_ (i := 3) (N := (some 41)) (v := ?_) (a' := ?_) #[true, true, true, true, false, false, false, false, false] rfl rfl (any_of HT_.out (by kernel_rfl)) (fun _ _ _ h => h) (Or.inl ⟨by rfl, ?_⟩) ?_ ?_
            rotate_left
            · intro w'
              go_simp
              first | with_reducible rfl | (simp; done) | rfl
            rotate_left
            · simp only [Act.put, List.setIfInBounds_toArray, List.set_cons_zero, List.set_cons_succ, i64_w, i32_w]
              rfl
            refine pure_ (i := 4) (N := (some 45)) (v := ?_) (a' := ?_) #[true, true, true, true, true, false, false, false, false] rfl rfl (any_of HT_.out (by kernel_rfl)) (fun _ _ _ h => h) (Or.inl ⟨by rfl, ?_⟩) ?_ ?_
            rotate_left
            · intro w'
              go_simp
              first | with_reducible rfl | (simp; done) | rfl
            rotate_left
            · simp only [Act.put, List.setIfInBounds_toArray, List.set_cons_zero, List.set_cons_succ, i64_w, i32_w]
              rfl
            refine pure_ (i := 5) (N := (some 46)) (v := ?_) (a' := ?_) #[true, true, true, true, true, true, false, false, false] rfl rfl (any_of HT_.out (by kernel_rfl)) (fun _ _ _ h => h) (Or.inl ⟨by rfl, ?_⟩) ?_ ?_
            rotate_left
            · intro w'
              go_simp
              first | with_reducible rfl | (simp; done) | rfl
            rotate_left
            · simp only [Act.put, List.setIfInBounds_toArray, List.set_cons_zero, List.set_cons_succ, i64_w, i32_w]
              rfl
            refine one_ (i := 6) (N := some 11) #[true, true, true, true, true, true, true, false, false] rfl rfl (one_of HT_.out (by kernel_rfl)) (by decide) (fun K hK => ?_)
            refine value_ (v := .pointer (some ⟨v2_.heap.size, 0, none⟩)) (w1 := v2_.alloc (.cells #[.slice none 0 0, .bool false] 24)) (by rfl) rfl ?_ ?_
            · go_simp
              first | done | rfl
            obtain ⟨g11, hg⟩ : ∃ g, v2_.heap.size = g := ⟨_, rfl⟩
            have hb := below_new v2_ (.cells #[.slice none 0 0, .bool false] 24)
            have hk := blk_new v2_ (.cells #[.slice none 0 0, .bool false] 24)
            have G11 := Aside0.mk (show W.heap.size ≤ g11 by rw [← hg]; exact below_size HB.out)
            have N1_11 := Aside0.mk (show g1 ≠ g11 by rw [← hg]; exact Nat.ne_of_lt (blk_lt BK1.out))
            have N4_11 := Aside0.mk (show g4 ≠ g11 by rw [← hg]; exact Nat.ne_of_lt (blk_lt BK4.out))
            have N7_11 := Aside0.mk (show g7 ≠ g11 by rw [← hg]; exact Nat.ne_of_lt (blk_lt BK7.out))
            have N9_11 := Aside0.mk (show g9 ≠ g11 by rw [← hg]; exact Nat.ne_of_lt (blk_lt BK9.out))
            generalize v2_.alloc (.cells #[.slice none 0 0, .bool false] 24) = v3_ at hb hk ⊢
            have n0 := Aside0.mk (blk_below BK1.out hb)
            have n1 := Aside0.mk (blk_below BK4.out hb)
            have n2 := Aside0.mk (Ia.out.below hb)
            have n3 := Aside0.mk (Ib.out.below hb)
            have n4 := Aside0.mk (below_step HB.out hb)
            have n5 := Aside0.mk (blk_below BK7.out hb)
            have n6 := Aside0.mk (I7.out.below hb)
            have n7 := Aside0.mk (blk_below BK9.out hb)
            have n8 := Aside0.mk (I9.out.below hb)
            have n9 := Aside0.mk (I11.out.below hb)
            clear BK1 BK4 Ia Ib HB BK7 I7 BK9 I9 I11
            have BK1 := n0
            have BK4 := n1
            have Ia := n2
            have Ib := n3
            have HB := n4
            have BK7 := n5
            have I7 := n6
            have BK9 := n7
            have I9 := n8
            have I11 := n9
            clear n0 n1 n2 n3 n4 n5 n6 n7 n8 n9
            clear hb
            rw [hg] at hk ⊢
            have BK11 := Aside0.mk hk
            clear hk hg
            refine hK.out _ _ BK1.out (fun hHeld => ?_)
            clear hK K
            refine norm_ (a' := ?_) ?_ ?_
            rotate_left
            · show Act.put _ (some 11) _ = _
              simp only [Act.put, List.setIfInBounds_toArray, List.set_cons_zero, List.set_cons_succ, i64_w, i32_w]
              rfl
            have hz := hcont (g11, A11, n11, c11) _ ⟨BK1.out, BK4.out, Ia.out, Ib.out, HB.out, BK7.out, I7.out, BK9.out, I9.out, BK11.out, G11.out, N1_11.out, N4_11.out, N7_11.out, N9_11.out, I11.out⟩
            simp only [putAll, Act.put, List.setIfInBounds_toArray, List.set_cons_zero, List.set_cons_succ, i64_w, i32_w] at hz
            exact hz
          · refine value_ (v := .pointer (some ⟨v1_.heap.size, 0, none⟩)) (w1 := v1_.alloc (.cells #[.slice none 0 0, .bool false] 24)) (by rfl) rfl ?_ ?_
            · go_simp
              first | done | rfl
            obtain ⟨g11, hg⟩ : ∃ g, v1_.heap.size = g := ⟨_, rfl⟩
            have hb := below_new v1_ (.cells #[.slice none 0 0, .bool false] 24)
            have hk := blk_new v1_ (.cells #[.slice none 0 0, .bool false] 24)
            have G11 := Aside0.mk (show W.heap.size ≤ g11 by rw [← hg]; exact below_size HB.out)
            have N1_11 := Aside0.mk (show g1 ≠ g11 by rw [← hg]; exact Nat.ne_of_lt (blk_lt BK1.out))
            have N4_11 := Aside0.mk (show g4 ≠ g11 by rw [← hg]; exact Nat.ne_of_lt (blk_lt BK4.out))
            have N7_11 := Aside0.mk (show g7 ≠ g11 by rw [← hg]; exact Nat.ne_of_lt (blk_lt BK7.out))
            have N9_11 := Aside0.mk (show g9 ≠ g11 by rw [← hg]; exact Nat.ne_of_lt (blk_lt BK9.out))
            generalize v1_.alloc (.cells #[.slice none 0 0, .bool false] 24) = v4_ at hb hk ⊢
            have n0 := Aside0.mk (blk_below BK1.out hb)
            have n1 := Aside0.mk (blk_below BK4.out hb)
            have n2 := Aside0.mk (Ia.out.below hb)
            have n3 := Aside0.mk (Ib.out.below hb)
            have n4 := Aside0.mk (below_step HB.out hb)
            have n5 := Aside0.mk (blk_below BK7.out hb)
            have n6 := Aside0.mk (I7.out.below hb)
            have n7 := Aside0.mk (blk_below BK9.out hb)
            have n8 := Aside0.mk (I9.out.below hb)
            clear BK1 BK4 Ia Ib HB BK7 I7 BK9 I9
            have BK1 := n0
            have BK4 := n1
            have Ia := n2
            have Ib := n3
            have HB := n4
            have BK7 := n5
            have I7 := n6
            have BK9 := n7
            have I9 := n8
            clear n0 n1 n2 n3 n4 n5 n6 n7 n8
            clear hb
            rw [hg] at hk ⊢
            have BK11 := Aside0.mk hk
            clear hk hg
            refine hK.out _ _ BK1.out (fun hHeld => ?_)
            clear hK K
            refine norm_ (a' := ?_) ?_ ?_
            rotate_left
            · show Act.put _ (some 11) _ = _
              simp only [Act.put, List.setIfInBounds_toArray, List.set_cons_zero, List.set_cons_succ, i64_w, i32_w]
              rfl
            refine one_ (i := 2) (N := some 44) #[true, true, true, false, false, false, true, false, false] rfl rfl (one_of HT_.out (by kernel_rfl)) (by decide) (fun K hK => ?_)
            refine goes_ Tryd.func11 (by kernel_rfl) rfl #[.agg #[.slice Aa na ca, .bool ta.lost], .int .i64 65, .agg (ea (evN 4))] (by rfl) rfl rfl (by (try simp only [List.map_toArray, List.map_cons, List.map_nil]); first | done | rfl) ?_
            with_reducible refine (push_to Aa na ca ta ⟨[], false⟩ 65 2 (evN 4) _ HQ11.out Ia.out.its (GG.out.below GG.out.lt HB.out) (evn_wf _)).mono ?_
            rintro e0 v5_ ⟨A11, n11, c11, rfl, hio, hb⟩
            refine ⟨_, rfl, ?_⟩
            have hin := Aside0.mk (hio.mono (below_size HB.out))
            have n0 := Aside0.mk (blk_below BK1.out hb)
            have n1 := Aside0.mk (blk_below BK4.out hb)
            have n2 := Aside0.mk (Ia.out.below hb)
            have n3 := Aside0.mk (Ib.out.below hb)
            have n4 := Aside0.mk (below_step HB.out hb)
            have n5 := Aside0.mk (blk_below BK7.out hb)
            have n6 := Aside0.mk (I7.out.below hb)
            have n7 := Aside0.mk (blk_below BK9.out hb)
            have n8 := Aside0.mk (I9.out.below hb)
            have n9 := Aside0.mk (blk_below BK11.out hb)
            clear BK1 BK4 Ia Ib HB BK7 I7 BK9 I9 BK11
            have BK1 := n0
            have BK4 := n1
            have Ia := n2
            have Ib := n3
            have HB := n4
            have BK7 := n5
            have I7 := n6
            have BK9 := n7
            have I9 := n8
            have BK11 := n9
            clear n0 n1 n2 n3 n4 n5 n6 n7 n8 n9
            have I11 := hin
            clear hin hio hb
            refine hK.out _ _ BK1.out (fun hHeld => ?_)
            clear hK K
            refine norm_ (a' := ?_) ?_ ?_
            rotate_left
            · show Act.put _ (some 44) _ = _
              simp only [Act.put, List.setIfInBounds_toArray, List.set_cons_zero, List.set_cons_succ, i64_w, i32_w]
              rfl
            refine pure_ (i := 3) (N := (some 41)) (v := ?_) (a' := ?_) #[true, true, true, true, false, false, true, false, false] rfl rfl (any_of HT_.out (by kernel_rfl)) (fun _ _ _ h => h) (Or.inl ⟨by rfl, ?_⟩) ?_ ?_
            rotate_left
            · intro w'
              go_simp
              first | with_reducible rfl | (simp; done) | rfl
            rotate_left
            · simp only [Act.put, List.setIfInBounds_toArray, List.set_cons_zero, List.set_cons_succ, i64_w, i32_w]
              rfl
            refine pure_ (i := 4) (N := (some 45)) (v := ?_) (a' := ?_) #[true, true, true, true, true, false, true, false, false] rfl rfl (any_of HT_.out (by kernel_rfl)) (fun _ _ _ h => h) (Or.inl ⟨by rfl, ?_⟩) ?_ ?_
            rotate_left
            · intro w'
              go_simp
              first | with_reducible rfl | (simp; done) | rfl
            rotate_left
            · simp only [Act.put, List.setIfInBounds_toArray, List.set_cons_zero, List.set_cons_succ, i64_w, i32_w]
              rfl
            refine pure_ (i := 5) (N := (some 46)) (v := ?_) (a' := ?_) #[true, true, true, true, true, true, true, false, false] rfl rfl (any_of HT_.out (by kernel_rfl)) (fun _ _ _ h => h) (Or.inl ⟨by rfl, ?_⟩) ?_ ?_
            rotate_left
            · intro w'
              go_simp
              first | with_reducible rfl | (simp; done) | rfl
            rotate_left
            · simp only [Act.put, List.setIfInBounds_toArray, List.set_cons_zero, List.set_cons_succ, i64_w, i32_w]
              rfl
            have hz := hcont (g11, A11, n11, c11) _ ⟨BK1.out, BK4.out, Ia.out, Ib.out, HB.out, BK7.out, I7.out, BK9.out, I9.out, BK11.out, G11.out, N1_11.out, N4_11.out, N7_11.out, N9_11.out, I11.out⟩
            simp only [putAll, Act.put, List.setIfInBounds_toArray, List.set_cons_zero, List.set_cons_succ, i64_w, i32_w] at hz
            exact hz
        · refine value_ (v := .pointer (some ⟨wd.heap.size, 0, none⟩)) (w1 := wd.alloc (.cells #[.slice none 0 0, .bool false] 24)) (by rfl) rfl ?_ ?_
          · go_simp
            first | done | rfl
          obtain ⟨g11, hg⟩ : ∃ g, wd.heap.size = g := ⟨_, rfl⟩
          have hb := below_new wd (.cells #[.slice none 0 0, .bool false] 24)
          have hk := blk_new wd (.cells #[.slice none 0 0, .bool false] 24)
          have G11 := Aside0.mk (show W.heap.size ≤ g11 by rw [← hg]; exact below_size HB.out)
          have N1_11 := Aside0.mk (show g1 ≠ g11 by rw [← hg]; exact Nat.ne_of_lt (blk_lt BK1.out))
          have N4_11 := Aside0.mk (show g4 ≠ g11 by rw [← hg]; exact Nat.ne_of_lt (blk_lt BK4.out))
          have N7_11 := Aside0.mk (show g7 ≠ g11 by rw [← hg]; exact Nat.ne_of_lt (blk_lt BK7.out))
          have N9_11 := Aside0.mk (show g9 ≠ g11 by rw [← hg]; exact Nat.ne_of_lt (blk_lt BK9.out))
          generalize wd.alloc (.cells #[.slice none 0 0, .bool false] 24) = v6_ at hb hk ⊢
          have n0 := Aside0.mk (blk_below BK1.out hb)
          have n1 := Aside0.mk (blk_below BK4.out hb)
          have n2 := Aside0.mk (Ia.out.below hb)
          have n3 := Aside0.mk (Ib.out.below hb)
          have n4 := Aside0.mk (below_step HB.out hb)
          have n5 := Aside0.mk (blk_below BK7.out hb)
          have n6 := Aside0.mk (I7.out.below hb)
          have n7 := Aside0.mk (blk_below BK9.out hb)
          have n8 := Aside0.mk (I9.out.below hb)
          clear BK1 BK4 Ia Ib HB BK7 I7 BK9 I9
          have BK1 := n0
          have BK4 := n1
          have Ia := n2
          have Ib := n3
          have HB := n4
          have BK7 := n5
          have I7 := n6
          have BK9 := n7
          have I9 := n8
          clear n0 n1 n2 n3 n4 n5 n6 n7 n8
          clear hb
          rw [hg] at hk ⊢
          have BK11 := Aside0.mk hk
          clear hk hg
          refine hK.out _ _ BK1.out (fun hHeld => ?_)
          clear hK K
          refine norm_ (a' := ?_) ?_ ?_
          rotate_left
          · show Act.put _ (some 11) _ = _
            simp only [Act.put, List.setIfInBounds_toArray, List.set_cons_zero, List.set_cons_succ, i64_w, i32_w]
            rfl
          refine one_ (i := 1) (N := some 43) #[true, true, false, false, false, false, true, false, false] rfl rfl (one_of HT_.out (by kernel_rfl)) (by decide) (fun K hK => ?_)
          refine goes_ Tryd.func12 (by kernel_rfl) rfl #[.int .i64 4] (by rfl) rfl rfl (by (try simp only [List.map_toArray, List.map_cons, List.map_nil]); first | done | rfl) ?_
          with_reducible refine (evn_walk _ _).mono ?_
          rintro e0 v7_ ⟨rfl, hb⟩
          refine ⟨_, rfl, ?_⟩
          have n0 := Aside0.mk (blk_below BK1.out hb)
          have n1 := Aside0.mk (blk_below BK4.out hb)
          have n2 := Aside0.mk (Ia.out.below hb)
          have n3 := Aside0.mk (Ib.out.below hb)
          have n4 := Aside0.mk (below_step HB.out hb)
          have n5 := Aside0.mk (blk_below BK7.out hb)
          have n6 := Aside0.mk (I7.out.below hb)
          have n7 := Aside0.mk (blk_below BK9.out hb)
          have n8 := Aside0.mk (I9.out.below hb)
          have n9 := Aside0.mk (blk_below BK11.out hb)
          clear BK1 BK4 Ia Ib HB BK7 I7 BK9 I9 BK11
          have BK1 := n0
          have BK4 := n1
          have Ia := n2
          have Ib := n3
          have HB := n4
          have BK7 := n5
          have I7 := n6
          have BK9 := n7
          have I9 := n8
          have BK11 := n9
          clear n0 n1 n2 n3 n4 n5 n6 n7 n8 n9
          clear hb
          refine hK.out _ _ BK1.out (fun hHeld => ?_)
          clear hK K
          refine norm_ (a' := ?_) ?_ ?_
          rotate_left
          · show Act.put _ (some 43) _ = _
            simp only [Act.put, List.setIfInBounds_toArray, List.set_cons_zero, List.set_cons_succ, i64_w, i32_w]
            rfl
          refine one_ (i := 2) (N := some 44) #[true, true, true, false, false, false, true, false, false] rfl rfl (one_of HT_.out (by kernel_rfl)) (by decide) (fun K hK => ?_)
          refine goes_ Tryd.func11 (by kernel_rfl) rfl #[.agg #[.slice Aa na ca, .bool ta.lost], .int .i64 65, .agg (ea (evN 4))] (by rfl) rfl rfl (by (try simp only [List.map_toArray, List.map_cons, List.map_nil]); first | done | rfl) ?_
          with_reducible refine (push_to Aa na ca ta ⟨[], false⟩ 65 2 (evN 4) _ HQ11.out Ia.out.its (GG.out.below GG.out.lt HB.out) (evn_wf _)).mono ?_
          rintro e0 v8_ ⟨A11, n11, c11, rfl, hio, hb⟩
          refine ⟨_, rfl, ?_⟩
          have hin := Aside0.mk (hio.mono (below_size HB.out))
          have n0 := Aside0.mk (blk_below BK1.out hb)
          have n1 := Aside0.mk (blk_below BK4.out hb)
          have n2 := Aside0.mk (Ia.out.below hb)
          have n3 := Aside0.mk (Ib.out.below hb)
          have n4 := Aside0.mk (below_step HB.out hb)
          have n5 := Aside0.mk (blk_below BK7.out hb)
          have n6 := Aside0.mk (I7.out.below hb)
          have n7 := Aside0.mk (blk_below BK9.out hb)
          have n8 := Aside0.mk (I9.out.below hb)
          have n9 := Aside0.mk (blk_below BK11.out hb)
          clear BK1 BK4 Ia Ib HB BK7 I7 BK9 I9 BK11
          have BK1 := n0
          have BK4 := n1
          have Ia := n2
          have Ib := n3
          have HB := n4
          have BK7 := n5
          have I7 := n6
          have BK9 := n7
          have I9 := n8
          have BK11 := n9
          clear n0 n1 n2 n3 n4 n5 n6 n7 n8 n9
          have I11 := hin
          clear hin hio hb
          refine hK.out _ _ BK1.out (fun hHeld => ?_)
          clear hK K
          refine norm_ (a' := ?_) ?_ ?_
          rotate_left
          · show Act.put _ (some 44) _ = _
            simp only [Act.put, List.setIfInBounds_toArray, List.set_cons_zero, List.set_cons_succ, i64_w, i32_w]
            rfl
          refine pure_ (i := 3) (N := (some 41)) (v := ?_) (a' := ?_) #[true, true, true, true, false, false, true, false, false] rfl rfl (any_of HT_.out (by kernel_rfl)) (fun _ _ _ h => h) (Or.inl ⟨by rfl, ?_⟩) ?_ ?_
          rotate_left
          · intro w'
            go_simp
            first | with_reducible rfl | (simp; done) | rfl
          rotate_left
          · simp only [Act.put, List.setIfInBounds_toArray, List.set_cons_zero, List.set_cons_succ, i64_w, i32_w]
            rfl
          refine pure_ (i := 4) (N := (some 45)) (v := ?_) (a' := ?_) #[true, true, true, true, true, false, true, false, false] rfl rfl (any_of HT_.out (by kernel_rfl)) (fun _ _ _ h => h) (Or.inl ⟨by rfl, ?_⟩) ?_ ?_
          rotate_left
          · intro w'
            go_simp
            first | with_reducible rfl | (simp; done) | rfl
          rotate_left
          · simp only [Act.put, List.setIfInBounds_toArray, List.set_cons_zero, List.set_cons_succ, i64_w, i32_w]
            rfl
          refine pure_ (i := 5) (N := (some 46)) (v := ?_) (a' := ?_) #[true, true, true, true, true, true, true, false, false] rfl rfl (any_of HT_.out (by kernel_rfl)) (fun _ _ _ h => h) (Or.inl ⟨by rfl, ?_⟩) ?_ ?_
          rotate_left
          · intro w'
            go_simp
            first | with_reducible rfl | (simp; done) | rfl
          rotate_left
          · simp only [Act.put, List.setIfInBounds_toArray, List.set_cons_zero, List.set_cons_succ, i64_w, i32_w]
            rfl
          have hz := hcont (g11, A11, n11, c11) _ ⟨BK1.out, BK4.out, Ia.out, Ib.out, HB.out, BK7.out, I7.out, BK9.out, I9.out, BK11.out, G11.out, N1_11.out, N4_11.out, N7_11.out, N9_11.out, I11.out⟩
          simp only [putAll, Act.put, List.setIfInBounds_toArray, List.set_cons_zero, List.set_cons_succ, i64_w, i32_w] at hz
          exact hz
      · rintro ⟨g11, A11, n11, c11⟩ wj ⟨h0, h1, h2, h3, h4, h5, h6, h7, h8, h9, h10, h11, h12, h13, h14, h15⟩
        simp only [putAll, Act.put, List.setIfInBounds_toArray, List.set_cons_zero, List.set_cons_succ, i64_w, i32_w]
        clear BK1 BK4 Ia Ib HB BK7 I7 BK9 I9
        have BK1 := Aside0.mk h0
        have BK4 := Aside0.mk h1
        have Ia := Aside0.mk h2
        have Ib := Aside0.mk h3
        have HB := Aside0.mk h4
        have BK7 := Aside0.mk h5
        have I7 := Aside0.mk h6
        have BK9 := Aside0.mk h7
        have I9 := Aside0.mk h8
        have BK11 := Aside0.mk h9
        have G11 := Aside0.mk h10
        have N1_11 := Aside0.mk h11
        have N4_11 := Aside0.mk h12
        have N7_11 := Aside0.mk h13
        have N9_11 := Aside0.mk h14
        have I11 := Aside0.mk h15
        clear h0 h1 h2 h3 h4 h5 h6 h7 h8 h9 h10 h11 h12 h13 h14 h15
        refine one_ (i := 7) (N := none) #[true, true, true, true, true, true, true, true, false] rfl rfl (one_of HT_.out (by kernel_rfl)) (by decide) (fun K hK => ?_)
        rw [if_pos (by rfl)]
        refine wp_store_row 24 (.tmp 11) (.tmp 45) rfl g11 (#[.slice A11 n11 c11, .bool (⟨[], false⟩ : Tp).lost]) rfl rfl 24 (#[.slice none 0 0, .bool false]) BK11.out size_tap rfl (tap_one _ _ _ _) ?_
        obtain ⟨wk, hwe⟩ : ∃ w', World.setRow wj g11 (#[.slice A11 n11 c11, .bool (⟨[], false⟩ : Tp).lost]) = w' := ⟨_, rfl⟩
        have hoth : ∀ k, k ≠ g11 → wk.heap[k]? = wj.heap[k]? := fun k hk => by rw [← hwe]; exact setRow_other wj g11 k _ hk
        have n0 := Aside0.mk ((hoth g1 (N1_11.out)).trans BK1.out)
        have n1 := Aside0.mk ((hoth g4 (N4_11.out)).trans BK4.out)
        have n2 := Aside0.mk (io_store Ia.out BK11.out (by decide) hoth)
        have n3 := Aside0.mk (io_store Ib.out BK11.out (by decide) hoth)
        have n4 := Aside0.mk (show Below W.heap.size W wk by rw [← hwe]; exact below_setRow HB.out G11.out (#[.slice A11 n11 c11, .bool (⟨[], false⟩ : Tp).lost]))
        have n5 := Aside0.mk ((hoth g7 (N7_11.out)).trans BK7.out)
        have n6 := Aside0.mk (io_store I7.out BK11.out (by decide) hoth)
        have n7 := Aside0.mk ((hoth g9 (N9_11.out)).trans BK9.out)
        have n8 := Aside0.mk (io_store I9.out BK11.out (by decide) hoth)
        have n9 := Aside0.mk (show wk.heap[g11]? = some (.cells (#[.slice A11 n11 c11, .bool (⟨[], false⟩ : Tp).lost]) 24 (0, 0)) by rw [← hwe]; exact setRow_heap _ g11 _ _ _ _ BK11.out)
        have n10 := Aside0.mk (io_store I11.out BK11.out (by decide) hoth)
        clear BK1 BK4 Ia Ib HB BK7 I7 BK9 I9 BK11 I11
        have BK1 := n0
        have BK4 := n1
        have Ia := n2
        have Ib := n3
        have HB := n4
        have BK7 := n5
        have I7 := n6
        have BK9 := n7
        have I9 := n8
        have BK11 := n9
        have I11 := n10
        clear n0 n1 n2 n3 n4 n5 n6 n7 n8 n9 n10
        rw [hwe]
        clear hwe hoth
        refine hK.out _ _ BK1.out (fun hHeld => ?_)
        clear hK K
        refine pure_ (i := 8) (N := (some 12)) (v := ?_) (a' := ?_) #[true, true, true, true, true, true, true, true, true] rfl rfl (any_of HT_.out (by kernel_rfl)) (fun _ _ _ h => h) (Or.inl ⟨by rfl, ?_⟩) ?_ ?_
        rotate_left
        · intro w'
          go_simp
          first | with_reducible rfl | (simp; done) | rfl
        rotate_left
        · simp only [Act.put, List.setIfInBounds_toArray, List.set_cons_zero, List.set_cons_succ, i64_w, i32_w]
          rfl
        refine done_ (done_of HT_.out (by kernel_rfl)) ?_
        go_wp2
        have hb : Below wk.heap.size wk wk.drew := below_drew (Below.refl _ _)
        refine start_ (n := 9) (S := fun w' => w'.heap[g1]? = some (.cells #[.slice Aa na ca, .bool ta.lost] 24 (0, 0))) (ds := []) #[false, false, false, false, false, false, false, false, false] (by kernel_rfl) rfl rfl (blk_below BK1.out hb) (fun hHeld => ?_)
        refine with_tabW names6_tab names6_bits (fun HT_ HW_ => ?_)
        have n0 := Aside0.mk (blk_below BK1.out hb)
        have n1 := Aside0.mk (blk_below BK4.out hb)
        have n2 := Aside0.mk (Ia.out.below hb)
        have n3 := Aside0.mk (Ib.out.below hb)
        have n4 := Aside0.mk (below_step HB.out hb)
        have n5 := Aside0.mk (blk_below BK7.out hb)
        have n6 := Aside0.mk (I7.out.below hb)
        have n7 := Aside0.mk (blk_below BK9.out hb)
        have n8 := Aside0.mk (I9.out.below hb)
        clear BK1 BK4 Ia Ib HB BK7 I7 BK9 I9
        have BK1 := n0
        have BK4 := n1
        have Ia := n2
        have Ib := n3
        have HB := n4
        have BK7 := n5
        have I7 := n6
        have BK9 := n7
        have I9 := n8
        clear n0 n1 n2 n3 n4 n5 n6 n7 n8
        clear hb
        generalize wk.drew = wd at BK1 BK4 Ia Ib HB BK7 I7 BK9 I9 hHeld ⊢
        refine take_ (i := 0) (N := (some 48)) (v := .agg #[.slice Aa na ca, .bool ta.lost]) (a' := ?_) #[true, false, false, false, false, false, false, false, false] rfl rfl (take_ofW HT_.out HW_.out (by kernel_rfl)) (fun _ _ _ h => h) (Or.inl ⟨by rfl, ?_⟩) hHeld ?_ ?_
        · rintro w' s0
          refine op_load (x := .tmp 1) (load_row Tryd.underlying24 rfl size_tap s0 rfl) ?_ ?_ <;> rfl
        rotate_left
        · simp only [Act.put, List.setIfInBounds_toArray, List.set_cons_zero, List.set_cons_succ, i64_w, i32_w]
          rfl
        refine join_ (σ := Nat × Option Addr × Nat × Nat) 2 #[true, true, true, true, true, true, true, false, false] (fun s => [(49, .agg (ea (evN (-1)))), (50, .tuple #[.agg #[.slice s.2.1 s.2.2.1 s.2.2.2, .bool (⟨[], false⟩ : Tp).lost], .int .i64 8]), (47, .tuple #[.agg #[.slice s.2.1 s.2.2.1 s.2.2.2, .bool (⟨[], false⟩ : Tp).lost], .int .i64 8]), (51, .agg #[.slice s.2.1 s.2.2.1 s.2.2.2, .bool (⟨[], false⟩ : Tp).lost]), (52, .int .i64 8), (13, .pointer (some ⟨s.1, 0, none⟩))]) (fun s w' => w'.heap[g1]? = some (.cells #[.slice Aa na ca, .bool ta.lost] 24 (0, 0)) ∧ w'.heap[g4]? = some (.cells #[.slice Ab nb cb, .bool tb.lost] 24 (0, 0)) ∧ ItsO w' W.heap.size Aa na ca ta.its ∧ ItsO w' W.heap.size Ab nb cb tb.its ∧ Below W.heap.size W w' ∧ w'.heap[g7]? = some (.cells #[.slice A7 n7 c7, .bool tc.lost] 24 (0, 0)) ∧ ItsO w' W.heap.size A7 n7 c7 tc.its ∧ w'.heap[g9]? = some (.cells #[.slice A9 n9 c9, .bool td.lost] 24 (0, 0)) ∧ ItsO w' W.heap.size A9 n9 c9 td.its ∧ w'.heap[s.1]? = some (.cells #[.slice none 0 0, .bool false] 24 (0, 0)) ∧ W.heap.size ≤ s.1 ∧ g1 ≠ s.1 ∧ g4 ≠ s.1 ∧ g7 ≠ s.1 ∧ g9 ≠ s.1 ∧ ItsO w' W.heap.size s.2.1 s.2.2.1 s.2.2.2 (⟨[], false⟩ : Tp).its) ?_ ?_
        rotate_left
        · intro hcont
          refine two_ (i := 1) (j := 6) #[true, true, false, false, false, false, false, false, false] #[true, false, false, false, false, false, true, false, false] rfl rfl rfl rfl (two_of HT_.out (by kernel_rfl)) (by decide) (by decide) (fun K hK => ?_) (fun K hK => ?_)
          · refine goes_ Tryd.func12 (by kernel_rfl) rfl #[.int .i64 (-1)] (by rfl) rfl rfl (by (try simp only [List.map_toArray, List.map_cons, List.map_nil]); first | done | rfl) ?_
            with_reducible refine (evn_walk _ _).mono ?_
            rintro e0 v1_ ⟨rfl, hb⟩
            refine ⟨_, rfl, ?_⟩
            have n0 := Aside0.mk (blk_below BK1.out hb)
            have n1 := Aside0.mk (blk_below BK4.out hb)
            have n2 := Aside0.mk (Ia.out.below hb)
            have n3 := Aside0.mk (Ib.out.below hb)
            have n4 := Aside0.mk (below_step HB.out hb)
            have n5 := Aside0.mk (blk_below BK7.out hb)
            have n6 := Aside0.mk (I7.out.below hb)
            have n7 := Aside0.mk (blk_below BK9.out hb)
            have n8 := Aside0.mk (I9.out.below hb)
            clear BK1 BK4 Ia Ib HB BK7 I7 BK9 I9
            have BK1 := n0
            have BK4 := n1
            have Ia := n2
            have Ib := n3
            have HB := n4
            have BK7 := n5
            have I7 := n6
            have BK9 := n7
            have I9 := n8
            clear n0 n1 n2 n3 n4 n5 n6 n7 n8
            clear hb
            refine hK.out _ _ BK1.out (fun hHeld => ?_)
            clear hK K
            refine norm_ (a' := ?_) ?_ ?_
            rotate_left
            · show Act.put _ (some 49) _ = _
              simp only [Act.put, List.setIfInBounds_toArray, List.set_cons_zero, List.set_cons_succ, i64_w, i32_w]
              rfl
            refine two_ (i := 2) (j := 6) #[true, true, true, false, false, false, false, false, false] #[true, true, false, false, false, false, true, false, false] rfl rfl rfl rfl (two_of HT_.out (by kernel_rfl)) (by decide) (by decide) (fun K hK => ?_) (fun K hK => ?_)
            · refine goes_ Tryd.func11 (by kernel_rfl) rfl #[.agg #[.slice Aa na ca, .bool ta.lost], .int .i64 2, .agg (ea (evN (-1)))] (by rfl) rfl rfl (by (try simp only [List.map_toArray, List.map_cons, List.map_nil]); first | done | rfl) ?_
              with_reducible refine (push_to Aa na ca ta ⟨[], false⟩ 2 8 (evN (-1)) _ HQ13.out Ia.out.its (GG.out.below GG.out.lt HB.out) (evn_wf _)).mono ?_
              rintro e0 v2_ ⟨A13, n13, c13, rfl, hio, hb⟩
              refine ⟨_, rfl, ?_⟩
              have hin := Aside0.mk (hio.mono (below_size HB.out))
              have n0 := Aside0.mk (blk_below BK1.out hb)
              have n1 := Aside0.mk (blk_below BK4.out hb)
              have n2 := Aside0.mk (Ia.out.below hb)
              have n3 := Aside0.mk (Ib.out.below hb)
              have n4 := Aside0.mk (below_step HB.out hb)
              have n5 := Aside0.mk (blk_below BK7.out hb)
              have n6 := Aside0.mk (I7.out.below hb)
              have n7 := Aside0.mk (blk_below BK9.out hb)
              have n8 := Aside0.mk (I9.out.below hb)
              clear BK1 BK4 Ia Ib HB BK7 I7 BK9 I9
              have BK1 := n0
              have BK4 := n1
              have Ia := n2
              have Ib := n3
              have HB := n4
              have BK7 := n5
              have I7 := n6
              have BK9 := n7
              have I9 := n8
              clear n0 n1 n2 n3 n4 n5 n6 n7 n8
              have I13 := hin
              clear hin hio hb
              refine hK.out _ _ BK1.out (fun hHeld => ?_)
              clear hK K
              refine norm_ (a' := ?_) ?_ ?_
              rotate_left
              · show Act.put _ (some 50) _ = _
                simp only [Act.put, List.setIfInBounds_toArray, List.set_cons_zero, List.set_cons_succ, i64_w, i32_w]
                rfl
              refine pure_ (i := 3) (N := (some 47)) (v := ?_) (a' := ?_) #[true, true, true, true, false, false, false, false, false] rfl rfl (any_of HT_.out (by kernel_rfl)) (fun _ _ _ h => h) (Or.inl ⟨by rfl, ?_⟩) ?_ ?_
              rotate_left
              · intro w'
                go_simp
                first | with_reducible rfl | (simp; done) | rfl
              rotate_left
              · simp only [Act.put, List.setIfInBounds_toArray, List.set_cons_zero, List.set_cons_succ, i64_w, i32_w]
                rfl
              refine pure_ (i := 4) (N := (some 51)) (v := ?_) (a' := ?_) #[true, true, true, true, true, false, false, false, false] rfl rfl (any_of HT_.out (by kernel_rfl)) (fun _ _ _ h => h) (Or.inl ⟨by rfl, ?_⟩) ?_ ?_
              rotate_left
              · intro w'
                go_simp
                first | with_reducible rfl | (simp; done) | rfl
              rotate_left
              · simp only [Act.put, List.setIfInBounds_toArray, List.set_cons_zero, List.set_cons_succ, i64_w, i32_w]
                rfl
              refine pure_ (i := 5) (N := (some 52)) (v := ?_) (a' := ?_) #[true, true, true, true, true, true, false, false, false] rfl rfl (any_of HT_.out (by kernel_rfl)) (fun _ _ _ h => h) (Or.inl ⟨by rfl, ?_⟩) ?_ ?_
              rotate_left
              · intro w'
                go_simp
                first | with_reducible rfl | (simp; done) | rfl
              rotate_left
              · simp only [Act.put, List.setIfInBounds_toArray, List.set_cons_zero, List.set_cons_succ, i64_w, i32_w]
                rfl
              refine one_ (i := 6) (N := some 13) #[true, true, true, true, true, true, true, false, false] rfl rfl (one_of HT_.out (by kernel_rfl)) (by decide) (fun K hK => ?_)
              refine value_ (v := .pointer (some ⟨v2_.heap.size, 0, none⟩)) (w1 := v2_.alloc (.cells #[.slice none 0 0, .bool false] 24)) (by rfl) rfl ?_ ?_
              · go_simp
                first | done | rfl
              obtain ⟨g13, hg⟩ : ∃ g, v2_.heap.size = g := ⟨_, rfl⟩
              have hb := below_new v2_ (.cells #[.slice none 0 0, .bool false] 24)
              have hk := blk_new v2_ (.cells #[.slice none 0 0, .bool false] 24)
              have G13 := Aside0.mk (show W.heap.size ≤ g13 by rw [← hg]; exact below_size HB.out)
              have N1_13 := Aside0.mk (show g1 ≠ g13 by rw [← hg]; exact Nat.ne_of_lt (blk_lt BK1.out))
              have N4_13 := Aside0.mk (show g4 ≠ g13 by rw [← hg]; exact Nat.ne_of_lt (blk_lt BK4.out))
              have N7_13 := Aside0.mk (show g7 ≠ g13 by rw [← hg]; exact Nat.ne_of_lt (blk_lt BK7.out))
              have N9_13 := Aside0.mk (show g9 ≠ g13 by rw [← hg]; exact Nat.ne_of_lt (blk_lt BK9.out))
              generalize v2_.alloc (.cells #[.slice none 0 0, .bool false] 24) = v3_ at hb hk ⊢
              have n0 := Aside0.mk (blk_below BK1.out hb)
              have n1 := Aside0.mk (blk_below BK4.out hb)
              have n2 := Aside0.mk (Ia.out.below hb)
              have n3 := Aside0.mk (Ib.out.below hb)
              have n4 := Aside0.mk (below_step HB.out hb)
              have n5 := Aside0.mk (blk_below BK7.out hb)
              have n6 := Aside0.mk (I7.out.below hb)
              have n7 := Aside0.mk (blk_below BK9.out hb)
              have n8 := Aside0.mk (I9.out.below hb)
              have n9 := Aside0.mk (I13.out.below hb)
              clear BK1 BK4 Ia Ib HB BK7 I7 BK9 I9 I13
              have BK1 := n0
              have BK4 := n1
              have Ia := n2
              have Ib := n3
              have HB := n4
              have BK7 := n5
              have I7 := n6
              have BK9 := n7
              have I9 := n8
              have I13 := n9
              clear n0 n1 n2 n3 n4 n5 n6 n7 n8 n9
              clear hb
              rw [hg] at hk ⊢
              have BK13 := Aside0.mk hk
              clear hk hg
              refine hK.out _ _ BK1.out (fun hHeld => ?_)
              clear hK K
              refine norm_ (a' := ?_) ?_ ?_
              rotate_left
              · show Act.put _ (some 13) _ = _
                simp only [Act.put, List.setIfInBounds_toArray, List.set_cons_zero, List.set_cons_succ, i64_w, i32_w]
                rfl
              have hz := hcont (g13, A13, n13, c13) _ ⟨BK1.out, BK4.out, Ia.out, Ib.out, HB.out, BK7.out, I7.out, BK9.out, I9.out, BK13.out, G13.out, N1_13.out, N4_13.out, N7_13.out, N9_13.out, I13.out⟩
              simp only [putAll, Act.put, List.setIfInBounds_toArray, List.set_cons_zero, List.set_cons_succ, i64_w, i32_w] at hz
              exact hz
            · refine value_ (v := .pointer (some ⟨v1_.heap.size, 0, none⟩)) (w1 := v1_.alloc (.cells #[.slice none 0 0, .bool false] 24)) (by rfl) rfl ?_ ?_
              · go_simp
                first | done | rfl
              obtain ⟨g13, hg⟩ : ∃ g, v1_.heap.size = g := ⟨_, rfl⟩
              have hb := below_new v1_ (.cells #[.slice none 0 0, .bool false] 24)
              have hk := blk_new v1_ (.cells #[.slice none 0 0, .bool false] 24)
              have G13 := Aside0.mk (show W.heap.size ≤ g13 by rw [← hg]; exact below_size HB.out)
              have N1_13 := Aside0.mk (show g1 ≠ g13 by rw [← hg]; exact Nat.ne_of_lt (blk_lt BK1.out))
              have N4_13 := Aside0.mk (show g4 ≠ g13 by rw [← hg]; exact Nat.ne_of_lt (blk_lt BK4.out))
              have N7_13 := Aside0.mk (show g7 ≠ g13 by rw [← hg]; exact Nat.ne_of_lt (blk_lt BK7.out))
              have N9_13 := Aside0.mk (show g9 ≠ g13 by rw [← hg]; exact Nat.ne_of_lt (blk_lt BK9.out))
              generalize v1_.alloc (.cells #[.slice none 0 0, .bool false] 24) = v4_ at hb hk ⊢
              have n0 := Aside0.mk (blk_below BK1.out hb)
              have n1 := Aside0.mk (blk_below BK4.out hb)
              have n2 := Aside0.mk (Ia.out.below hb)
              have n3 := Aside0.mk (Ib.out.below hb)
              have n4 := Aside0.mk (below_step HB.out hb)
              have n5 := Aside0.mk (blk_below BK7.out hb)
              have n6 := Aside0.mk (I7.out.below hb)
              have n7 := Aside0.mk (blk_below BK9.out hb)
              have n8 := Aside0.mk (I9.out.below hb)
              clear BK1 BK4 Ia Ib HB BK7 I7 BK9 I9
              have BK1 := n0
              have BK4 := n1
              have Ia := n2
              have Ib := n3
              have HB := n4
              have BK7 := n5
              have I7 := n6
              have BK9 := n7
              have I9 := n8
              clear n0 n1 n2 n3 n4 n5 n6 n7 n8
              clear hb
              rw [hg] at hk ⊢
              have BK13 := Aside0.mk hk
              clear hk hg
              refine hK.out _ _ BK1.out (fun hHeld => ?_)
              clear hK K
              refine norm_ (a' := ?_) ?_ ?_
              rotate_left
              · show Act.put _ (some 13) _ = _
                simp only [Act.put, List.setIfInBounds_toArray, List.set_cons_zero, List.set_cons_succ, i64_w, i32_w]
                rfl
              refine one_ (i := 2) (N := some 50) #[true, true, true, false, false, false, true, false, false] rfl rfl (one_of HT_.out (by kernel_rfl)) (by decide) (fun K hK => ?_)
              refine goes_ Tryd.func11 (by kernel_rfl) rfl #[.agg #[.slice Aa na ca, .bool ta.lost], .int .i64 2, .agg (ea (evN (-1)))] (by rfl) rfl rfl (by (try simp only [List.map_toArray, List.map_cons, List.map_nil]); first | done | rfl) ?_
              with_reducible refine (push_to Aa na ca ta ⟨[], false⟩ 2 8 (evN (-1)) _ HQ13.out Ia.out.its (GG.out.below GG.out.lt HB.out) (evn_wf _)).mono ?_
              rintro e0 v5_ ⟨A13, n13, c13, rfl, hio, hb⟩
              refine ⟨_, rfl, ?_⟩
              have hin := Aside0.mk (hio.mono (below_size HB.out))
              have n0 := Aside0.mk (blk_below BK1.out hb)
              have n1 := Aside0.mk (blk_below BK4.out hb)
              have n2 := Aside0.mk (Ia.out.below hb)
              have n3 := Aside0.mk (Ib.out.below hb)
              have n4 := Aside0.mk (below_step HB.out hb)
              have n5 := Aside0.mk (blk_below BK7.out hb)
              have n6 := Aside0.mk (I7.out.below hb)
              have n7 := Aside0.mk (blk_below BK9.out hb)
              have n8 := Aside0.mk (I9.out.below hb)
              have n9 := Aside0.mk (blk_below BK13.out hb)
              clear BK1 BK4 Ia Ib HB BK7 I7 BK9 I9 BK13
              have BK1 := n0
              have BK4 := n1
              have Ia := n2
              have Ib := n3
              have HB := n4
              have BK7 := n5
              have I7 := n6
              have BK9 := n7
              have I9 := n8
              have BK13 := n9
              clear n0 n1 n2 n3 n4 n5 n6 n7 n8 n9
              have I13 := hin
              clear hin hio hb
              refine hK.out _ _ BK1.out (fun hHeld => ?_)
              clear hK K
              refine norm_ (a' := ?_) ?_ ?_
              rotate_left
              · show Act.put _ (some 50) _ = _
                simp only [Act.put, List.setIfInBounds_toArray, List.set_cons_zero, List.set_cons_succ, i64_w, i32_w]
                rfl
              refine pure_ (i := 3) (N := (some 47)) (v := ?_) (a' := ?_) #[true, true, true, true, false, false, true, false, false] rfl rfl (any_of HT_.out (by kernel_rfl)) (fun _ _ _ h => h) (Or.inl ⟨by rfl, ?_⟩) ?_ ?_
              rotate_left
              · intro w'
                go_simp
                first | with_reducible rfl | (simp; done) | rfl
              rotate_left
              · simp only [Act.put, List.setIfInBounds_toArray, List.set_cons_zero, List.set_cons_succ, i64_w, i32_w]
                rfl
              refine pure_ (i := 4) (N := (some 51)) (v := ?_) (a' := ?_) #[true, true, true, true, true, false, true, false, false] rfl rfl (any_of HT_.out (by kernel_rfl)) (fun _ _ _ h => h) (Or.inl ⟨by rfl, ?_⟩) ?_ ?_
              rotate_left
              · intro w'
                go_simp
                first | with_reducible rfl | (simp; done) | rfl
              rotate_left
              · simp only [Act.put, List.setIfInBounds_toArray, List.set_cons_zero, List.set_cons_succ, i64_w, i32_w]
                rfl
              refine pure_ (i := 5) (N := (some 52)) (v := ?_) (a' := ?_) #[true, true, true, true, true, true, true, false, false] rfl rfl (any_of HT_.out (by kernel_rfl)) (fun _ _ _ h => h) (Or.inl ⟨by rfl, ?_⟩) ?_ ?_
              rotate_left
              · intro w'
                go_simp
                first | with_reducible rfl | (simp; done) | rfl
              rotate_left
              · simp only [Act.put, List.setIfInBounds_toArray, List.set_cons_zero, List.set_cons_succ, i64_w, i32_w]
                rfl
              have hz := hcont (g13, A13, n13, c13) _ ⟨BK1.out, BK4.out, Ia.out, Ib.out, HB.out, BK7.out, I7.out, BK9.out, I9.out, BK13.out, G13.out, N1_13.out, N4_13.out, N7_13.out, N9_13.out, I13.out⟩
              simp only [putAll, Act.put, List.setIfInBounds_toArray, List.set_cons_zero, List.set_cons_succ, i64_w, i32_w] at hz
              exact hz
          · refine value_ (v := .pointer (some ⟨wd.heap.size, 0, none⟩)) (w1 := wd.alloc (.cells #[.slice none 0 0, .bool false] 24)) (by rfl) rfl ?_ ?_
            · go_simp
              first | done | rfl
            obtain ⟨g13, hg⟩ : ∃ g, wd.heap.size = g := ⟨_, rfl⟩
            have hb := below_new wd (.cells #[.slice none 0 0, .bool false] 24)
            have hk := blk_new wd (.cells #[.slice none 0 0, .bool false] 24)
            have G13 := Aside0.mk (show W.heap.size ≤ g13 by rw [← hg]; exact below_size HB.out)
            have N1_13 := Aside0.mk (show g1 ≠ g13 by rw [← hg]; exact Nat.ne_of_lt (blk_lt BK1.out))
            have N4_13 := Aside0.mk (show g4 ≠ g13 by rw [← hg]; exact Nat.ne_of_lt (blk_lt BK4.out))
            have N7_13 := Aside0.mk (show g7 ≠ g13 by rw [← hg]; exact Nat.ne_of_lt (blk_lt BK7.out))
            have N9_13 := Aside0.mk (show g9 ≠ g13 by rw [← hg]; exact Nat.ne_of_lt (blk_lt BK9.out))
            generalize wd.alloc (.cells #[.slice none 0 0, .bool false] 24) = v6_ at hb hk ⊢
            have n0 := Aside0.mk (blk_below BK1.out hb)
            have n1 := Aside0.mk (blk_below BK4.out hb)
            have n2 := Aside0.mk (Ia.out.below hb)
            have n3 := Aside0.mk (Ib.out.below hb)
            have n4 := Aside0.mk (below_step HB.out hb)
            have n5 := Aside0.mk (blk_below BK7.out hb)
            have n6 := Aside0.mk (I7.out.below hb)
            have n7 := Aside0.mk (blk_below BK9.out hb)
            have n8 := Aside0.mk (I9.out.below hb)
            clear BK1 BK4 Ia Ib HB BK7 I7 BK9 I9
            have BK1 := n0
            have BK4 := n1
            have Ia := n2
            have Ib := n3
            have HB := n4
            have BK7 := n5
            have I7 := n6
            have BK9 := n7
            have I9 := n8
            clear n0 n1 n2 n3 n4 n5 n6 n7 n8
            clear hb
            rw [hg] at hk ⊢
            have BK13 := Aside0.mk hk
            clear hk hg
            refine hK.out _ _ BK1.out (fun hHeld => ?_)
            clear hK K
            refine norm_ (a' := ?_) ?_ ?_
            rotate_left
            · show Act.put _ (some 13) _ = _
              simp only [Act.put, List.setIfInBounds_toArray, List.set_cons_zero, List.set_cons_succ, i64_w, i32_w]
              rfl
            refine one_ (i := 1) (N := some 49) #[true, true, false, false, false, false, true, false, false] rfl rfl (one_of HT_.out (by kernel_rfl)) (by decide) (fun K hK => ?_)
            refine goes_ Tryd.func12 (by kernel_rfl) rfl #[.int .i64 (-1)] (by rfl) rfl rfl (by (try simp only [List.map_toArray, List.map_cons, List.map_nil]); first | done | rfl) ?_
            with_reducible refine (evn_walk _ _).mono ?_
            rintro e0 v7_ ⟨rfl, hb⟩
            refine ⟨_, rfl, ?_⟩
            have n0 := Aside0.mk (blk_below BK1.out hb)
            have n1 := Aside0.mk (blk_below BK4.out hb)
            have n2 := Aside0.mk (Ia.out.below hb)
            have n3 := Aside0.mk (Ib.out.below hb)
            have n4 := Aside0.mk (below_step HB.out hb)
            have n5 := Aside0.mk (blk_below BK7.out hb)
            have n6 := Aside0.mk (I7.out.below hb)
            have n7 := Aside0.mk (blk_below BK9.out hb)
            have n8 := Aside0.mk (I9.out.below hb)
            have n9 := Aside0.mk (blk_below BK13.out hb)
            clear BK1 BK4 Ia Ib HB BK7 I7 BK9 I9 BK13
            have BK1 := n0
            have BK4 := n1
            have Ia := n2
            have Ib := n3
            have HB := n4
            have BK7 := n5
            have I7 := n6
            have BK9 := n7
            have I9 := n8
            have BK13 := n9
            clear n0 n1 n2 n3 n4 n5 n6 n7 n8 n9
            clear hb
            refine hK.out _ _ BK1.out (fun hHeld => ?_)
            clear hK K
            refine norm_ (a' := ?_) ?_ ?_
            rotate_left
            · show Act.put _ (some 49) _ = _
              simp only [Act.put, List.setIfInBounds_toArray, List.set_cons_zero, List.set_cons_succ, i64_w, i32_w]
              rfl
            refine one_ (i := 2) (N := some 50) #[true, true, true, false, false, false, true, false, false] rfl rfl (one_of HT_.out (by kernel_rfl)) (by decide) (fun K hK => ?_)
            refine goes_ Tryd.func11 (by kernel_rfl) rfl #[.agg #[.slice Aa na ca, .bool ta.lost], .int .i64 2, .agg (ea (evN (-1)))] (by rfl) rfl rfl (by (try simp only [List.map_toArray, List.map_cons, List.map_nil]); first | done | rfl) ?_
            with_reducible refine (push_to Aa na ca ta ⟨[], false⟩ 2 8 (evN (-1)) _ HQ13.out Ia.out.its (GG.out.below GG.out.lt HB.out) (evn_wf _)).mono ?_
            rintro e0 v8_ ⟨A13, n13, c13, rfl, hio, hb⟩
            refine ⟨_, rfl, ?_⟩
            have hin := Aside0.mk (hio.mono (below_size HB.out))
            have n0 := Aside0.mk (blk_below BK1.out hb)
            have n1 := Aside0.mk (blk_below BK4.out hb)
            have n2 := Aside0.mk (Ia.out.below hb)
            have n3 := Aside0.mk (Ib.out.below hb)
            have n4 := Aside0.mk (below_step HB.out hb)
            have n5 := Aside0.mk (blk_below BK7.out hb)
            have n6 := Aside0.mk (I7.out.below hb)
            have n7 := Aside0.mk (blk_below BK9.out hb)
            have n8 := Aside0.mk (I9.out.below hb)
            have n9 := Aside0.mk (blk_below BK13.out hb)
            clear BK1 BK4 Ia Ib HB BK7 I7 BK9 I9 BK13
            have BK1 := n0
            have BK4 := n1
            have Ia := n2
            have Ib := n3
            have HB := n4
            have BK7 := n5
            have I7 := n6
            have BK9 := n7
            have I9 := n8
            have BK13 := n9
            clear n0 n1 n2 n3 n4 n5 n6 n7 n8 n9
            have I13 := hin
            clear hin hio hb
            refine hK.out _ _ BK1.out (fun hHeld => ?_)
            clear hK K
            refine norm_ (a' := ?_) ?_ ?_
            rotate_left
            · show Act.put _ (some 50) _ = _
              simp only [Act.put, List.setIfInBounds_toArray, List.set_cons_zero, List.set_cons_succ, i64_w, i32_w]
              rfl
            refine pure_ (i := 3) (N := (some 47)) (v := ?_) (a' := ?_) #[true, true, true, true, false, false, true, false, false] rfl rfl (any_of HT_.out (by kernel_rfl)) (fun _ _ _ h => h) (Or.inl ⟨by rfl, ?_⟩) ?_ ?_
            rotate_left
            · intro w'
              go_simp
              first | with_reducible rfl | (simp; done) | rfl
            rotate_left
            · simp only [Act.put, List.setIfInBounds_toArray, List.set_cons_zero, List.set_cons_succ, i64_w, i32_w]
              rfl
            refine pure_ (i := 4) (N := (some 51)) (v := ?_) (a' := ?_) #[true, true, true, true, true, false, true, false, false] rfl rfl (any_of HT_.out (by kernel_rfl)) (fun _ _ _ h => h) (Or.inl ⟨by rfl, ?_⟩) ?_ ?_
            rotate_left
            · intro w'
              go_simp
              first | with_reducible rfl | (simp; done) | rfl
            rotate_left
            · simp only [Act.put, List.setIfInBounds_toArray, List.set_cons_zero, List.set_cons_succ, i64_w, i32_w]
              rfl
            refine pure_ (i := 5) (N := (some 52)) (v := ?_) (a' := ?_) #[true, true, true, true, true, true, true, false, false] rfl rfl (any_of HT_.out (by kernel_rfl)) (fun _ _ _ h => h) (Or.inl ⟨by rfl, ?_⟩) ?_ ?_
            rotate_left
            · intro w'
              go_simp
              first | with_reducible rfl | (simp; done) | rfl
            rotate_left
            · simp only [Act.put, List.setIfInBounds_toArray, List.set_cons_zero, List.set_cons_succ, i64_w, i32_w]
              rfl
            have hz := hcont (g13, A13, n13, c13) _ ⟨BK1.out, BK4.out, Ia.out, Ib.out, HB.out, BK7.out, I7.out, BK9.out, I9.out, BK13.out, G13.out, N1_13.out, N4_13.out, N7_13.out, N9_13.out, I13.out⟩
            simp only [putAll, Act.put, List.setIfInBounds_toArray, List.set_cons_zero, List.set_cons_succ, i64_w, i32_w] at hz
            exact hz
        · rintro ⟨g13, A13, n13, c13⟩ wj ⟨h0, h1, h2, h3, h4, h5, h6, h7, h8, h9, h10, h11, h12, h13, h14, h15⟩
          simp only [putAll, Act.put, List.setIfInBounds_toArray, List.set_cons_zero, List.set_cons_succ, i64_w, i32_w]
          clear BK1 BK4 Ia Ib HB BK7 I7 BK9 I9
          have BK1 := Aside0.mk h0
          have BK4 := Aside0.mk h1
          have Ia := Aside0.mk h2
          have Ib := Aside0.mk h3
          have HB := Aside0.mk h4
          have BK7 := Aside0.mk h5
          have I7 := Aside0.mk h6
          have BK9 := Aside0.mk h7
          have I9 := Aside0.mk h8
          have BK13 := Aside0.mk h9
          have G13 := Aside0.mk h10
          have N1_13 := Aside0.mk h11
          have N4_13 := Aside0.mk h12
          have N7_13 := Aside0.mk h13
          have N9_13 := Aside0.mk h14
          have I13 := Aside0.mk h15
          clear h0 h1 h2 h3 h4 h5 h6 h7 h8 h9 h10 h11 h12 h13 h14 h15
          refine one_ (i := 7) (N := none) #[true, true, true, true, true, true, true, true, false] rfl rfl (one_of HT_.out (by kernel_rfl)) (by decide) (fun K hK => ?_)
          rw [if_pos (by rfl)]
          refine wp_store_row 24 (.tmp 13) (.tmp 51) rfl g13 (#[.slice A13 n13 c13, .bool (⟨[], false⟩ : Tp).lost]) rfl rfl 24 (#[.slice none 0 0, .bool false]) BK13.out size_tap rfl (tap_one _ _ _ _) ?_
          obtain ⟨wk, hwe⟩ : ∃ w', World.setRow wj g13 (#[.slice A13 n13 c13, .bool (⟨[], false⟩ : Tp).lost]) = w' := ⟨_, rfl⟩
          have hoth : ∀ k, k ≠ g13 → wk.heap[k]? = wj.heap[k]? := fun k hk => by rw [← hwe]; exact setRow_other wj g13 k _ hk
          have n0 := Aside0.mk ((hoth g1 (N1_13.out)).trans BK1.out)
          have n1 := Aside0.mk ((hoth g4 (N4_13.out)).trans BK4.out)
          have n2 := Aside0.mk (io_store Ia.out BK13.out (by decide) hoth)
          have n3 := Aside0.mk (io_store Ib.out BK13.out (by decide) hoth)
          have n4 := Aside0.mk (show Below W.heap.size W wk by rw [← hwe]; exact below_setRow HB.out G13.out (#[.slice A13 n13 c13, .bool (⟨[], false⟩ : Tp).lost]))
          have n5 := Aside0.mk ((hoth g7 (N7_13.out)).trans BK7.out)
          have n6 := Aside0.mk (io_store I7.out BK13.out (by decide) hoth)
          have n7 := Aside0.mk ((hoth g9 (N9_13.out)).trans BK9.out)
          have n8 := Aside0.mk (io_store I9.out BK13.out (by decide) hoth)
          have n9 := Aside0.mk (show wk.heap[g13]? = some (.cells (#[.slice A13 n13 c13, .bool (⟨[], false⟩ : Tp).lost]) 24 (0, 0)) by rw [← hwe]; exact setRow_heap _ g13 _ _ _ _ BK13.out)
          have n10 := Aside0.mk (io_store I13.out BK13.out (by decide) hoth)
          clear BK1 BK4 Ia Ib HB BK7 I7 BK9 I9 BK13 I13
          have BK1 := n0
          have BK4 := n1
          have Ia := n2
          have Ib := n3
          have HB := n4
          have BK7 := n5
          have I7 := n6
          have BK9 := n7
          have I9 := n8
          have BK13 := n9
          have I13 := n10
          clear n0 n1 n2 n3 n4 n5 n6 n7 n8 n9 n10
          rw [hwe]
          clear hwe hoth
          refine hK.out _ _ BK1.out (fun hHeld => ?_)
          clear hK K
          refine pure_ (i := 8) (N := (some 14)) (v := ?_) (a' := ?_) #[true, true, true, true, true, true, true, true, true] rfl rfl (any_of HT_.out (by kernel_rfl)) (fun _ _ _ h => h) (Or.inl ⟨by rfl, ?_⟩) ?_ ?_
          rotate_left
          · intro w'
            go_simp
            first | with_reducible rfl | (simp; done) | rfl
          rotate_left
          · simp only [Act.put, List.setIfInBounds_toArray, List.set_cons_zero, List.set_cons_succ, i64_w, i32_w]
            rfl
          refine done_ (done_of HT_.out (by kernel_rfl)) ?_
          go_wp2_with (
            first
            | ((with_reducible refine gate_dst (N := 53) rfl ?_); refine wl_build1 (v := .bool true) (cells := ia gapI) rfl rfl rfl built_gap ?_)
            | ((with_reducible refine gate_dst (N := 54) rfl ?_); refine wl_build1 (v := .bool true) (cells := ia gapI) rfl rfl rfl built_gap ?_)
            | ((with_reducible refine gate_dst (N := 55) rfl ?_); refine wl_two_ev rfl gapI gapI HW2.out (.tmp 53) (.tmp 54) rfl rfl rfl ?_; intro h15 w15 hb hio; have n15 := Aside0.mk (hio _ (below_size HB.out)); have n0 := Aside0.mk (blk_below BK7.out hb); have n1 := Aside0.mk (I7.out.below hb); have n2 := Aside0.mk (blk_below BK9.out hb); have n3 := Aside0.mk (I9.out.below hb); have n4 := Aside0.mk (below_step HB.out hb); clear BK7 I7 BK9 I9 HB; have BK7 := n0; have I7 := n1; have BK9 := n2; have I9 := n3; have HB := n4; clear n0 n1 n2 n3 n4; have I15 := n15; clear n15 hb hio)
            | ((with_reducible refine gate_dst (N := 15) rfl ?_); refine box_event ?hg (N := 15) ?hd (cs := #[.slice none 0 0, .bool false]) (t := 24) ?hr ?_; (case hd => rfl); (case hg => rfl); (case hr => first | (go_simp; done) | (go_simp; rfl)); intro g15 hg w201_ hbox hb; have BK15 := Aside0.mk hbox; have G15 := Aside0.mk (show W.heap.size ≤ g15 by rw [hg]; exact below_size HB.out); have N7_15 := Aside0.mk (show g7 ≠ g15 by rw [hg]; exact Nat.ne_of_lt (blk_lt BK7.out)); have N9_15 := Aside0.mk (show g9 ≠ g15 by rw [hg]; exact Nat.ne_of_lt (blk_lt BK9.out)); have n0 := Aside0.mk (blk_below BK7.out hb); have n1 := Aside0.mk (I7.out.below hb); have n2 := Aside0.mk (blk_below BK9.out hb); have n3 := Aside0.mk (I9.out.below hb); have n4 := Aside0.mk (below_step HB.out hb); have n5 := Aside0.mk (I15.out.below hb); clear BK7 I7 BK9 I9 HB I15; have BK7 := n0; have I7 := n1; have BK9 := n2; have I9 := n3; have HB := n4; have I15 := n5; clear n0 n1 n2 n3 n4 n5; clear hb hbox hg)
            | ((with_reducible refine gate_store (p := 15) rfl ?_); refine row_store rfl size_tap (.tmp 15) (.tmp 56) rfl g15 (#[.slice (some ⟨h15, 0, none⟩) 2 2, .bool false]) (#[.slice none 0 0, .bool false]) rfl rfl BK15.out (rfl) (rfl) (tap_one _ _ _ _) ?_; intro s202_ bk hoth hbel; have n0 := Aside0.mk ((hoth g7 N7_15.out).trans BK7.out); have n1 := Aside0.mk (io_store I7.out BK15.out (by decide) hoth); have n2 := Aside0.mk ((hoth g9 N9_15.out).trans BK9.out); have n3 := Aside0.mk (io_store I9.out BK15.out (by decide) hoth); have n4 := Aside0.mk (hbel _ _ HB.out G15.out); have n5 := Aside0.mk (io_store I15.out BK15.out (by decide) hoth); have n6 := Aside0.mk bk; clear BK7 I7 BK9 I9 HB I15 BK15; have BK7 := n0; have I7 := n1; have BK9 := n2; have I9 := n3; have HB := n4; have I15 := n5; have BK15 := n6; clear n0 n1 n2 n3 n4 n5 n6; clear bk hoth hbel)
            | ((with_reducible refine gate_dst (N := 57) rfl ?_); refine wl_build1 (v := .bool true) (cells := ia gapI) rfl rfl rfl built_gap ?_)
            | ((with_reducible refine gate_dst (N := 58) rfl ?_); refine wl_one_ev rfl gapI HW1.out (.tmp 57) rfl rfl ?_; intro h16 w16 hb hio; have n16 := Aside0.mk (hio _ (below_size HB.out)); have n0 := Aside0.mk (blk_below BK7.out hb); have n1 := Aside0.mk (I7.out.below hb); have n2 := Aside0.mk (blk_below BK9.out hb); have n3 := Aside0.mk (I9.out.below hb); have n4 := Aside0.mk (below_step HB.out hb); have n5 := Aside0.mk (I15.out.below hb); have n6 := Aside0.mk (blk_below BK15.out hb); clear BK7 I7 BK9 I9 HB I15 BK15; have BK7 := n0; have I7 := n1; have BK9 := n2; have I9 := n3; have HB := n4; have I15 := n5; have BK15 := n6; clear n0 n1 n2 n3 n4 n5 n6; have I16 := n16; clear n16 hb hio)
            | ((with_reducible refine gate_dst (N := 16) rfl ?_); refine box_event ?hg (N := 16) ?hd (cs := #[.slice none 0 0, .bool false]) (t := 24) ?hr ?_; (case hd => rfl); (case hg => rfl); (case hr => first | (go_simp; done) | (go_simp; rfl)); intro g16 hg w203_ hbox hb; have BK16 := Aside0.mk hbox; have G16 := Aside0.mk (show W.heap.size ≤ g16 by rw [hg]; exact below_size HB.out); have N7_16 := Aside0.mk (show g7 ≠ g16 by rw [hg]; exact Nat.ne_of_lt (blk_lt BK7.out)); have N9_16 := Aside0.mk (show g9 ≠ g16 by rw [hg]; exact Nat.ne_of_lt (blk_lt BK9.out)); have N15_16 := Aside0.mk (show g15 ≠ g16 by rw [hg]; exact Nat.ne_of_lt (blk_lt BK15.out)); have n0 := Aside0.mk (blk_below BK7.out hb); have n1 := Aside0.mk (I7.out.below hb); have n2 := Aside0.mk (blk_below BK9.out hb); have n3 := Aside0.mk (I9.out.below hb); have n4 := Aside0.mk (below_step HB.out hb); have n5 := Aside0.mk (I15.out.below hb); have n6 := Aside0.mk (blk_below BK15.out hb); have n7 := Aside0.mk (I16.out.below hb); clear BK7 I7 BK9 I9 HB I15 BK15 I16; have BK7 := n0; have I7 := n1; have BK9 := n2; have I9 := n3; have HB := n4; have I15 := n5; have BK15 := n6; have I16 := n7; clear n0 n1 n2 n3 n4 n5 n6 n7; clear hb hbox hg)
            | ((with_reducible refine gate_store (p := 16) rfl ?_); refine row_store rfl size_tap (.tmp 16) (.tmp 59) rfl g16 (#[.slice (some ⟨h16, 0, none⟩) 1 1, .bool false]) (#[.slice none 0 0, .bool false]) rfl rfl BK16.out (rfl) (rfl) (tap_one _ _ _ _) ?_; intro s204_ bk hoth hbel; have n0 := Aside0.mk ((hoth g7 N7_16.out).trans BK7.out); have n1 := Aside0.mk (io_store I7.out BK16.out (by decide) hoth); have n2 := Aside0.mk ((hoth g9 N9_16.out).trans BK9.out); have n3 := Aside0.mk (io_store I9.out BK16.out (by decide) hoth); have n4 := Aside0.mk (hbel _ _ HB.out G16.out); have n5 := Aside0.mk (io_store I15.out BK16.out (by decide) hoth); have n6 := Aside0.mk ((hoth g15 N15_16.out).trans BK15.out); have n7 := Aside0.mk (io_store I16.out BK16.out (by decide) hoth); have n8 := Aside0.mk bk; clear BK7 I7 BK9 I9 HB I15 BK15 I16 BK16; have BK7 := n0; have I7 := n1; have BK9 := n2; have I9 := n3; have HB := n4; have I15 := n5; have BK15 := n6; have I16 := n7; have BK16 := n8; clear n0 n1 n2 n3 n4 n5 n6 n7 n8; clear bk hoth hbel)
            | (go_at_call 13; (with_reducible refine (alive23_walk _ (GG.out.below GG.out.lt HB.out)).mono ?_); rintro e w205_ ⟨rfl, hb⟩; have n0 := Aside0.mk (blk_below BK7.out hb); have n1 := Aside0.mk (I7.out.below hb); have n2 := Aside0.mk (blk_below BK9.out hb); have n3 := Aside0.mk (I9.out.below hb); have n4 := Aside0.mk (below_step HB.out hb); have n5 := Aside0.mk (I15.out.below hb); have n6 := Aside0.mk (blk_below BK15.out hb); have n7 := Aside0.mk (I16.out.below hb); have n8 := Aside0.mk (blk_below BK16.out hb); clear BK7 I7 BK9 I9 HB I15 BK15 I16 BK16; have BK7 := n0; have I7 := n1; have BK9 := n2; have I9 := n3; have HB := n4; have I15 := n5; have BK15 := n6; have I16 := n7; have BK16 := n8; clear n0 n1 n2 n3 n4 n5 n6 n7 n8; clear hb)
            | ((with_reducible refine gate_dst (N := 76) rfl ?_); refine gate_guard (by rfl) ?_; refine wl_load rfl rfl rfl (load_row Tryd.underlying24 rfl size_tap BK7.out (rfl)) ?_)
            | (go_at_call 14; (with_reducible refine (HPC.out _ _ _ _ _ (I7.out.below (below_new _ _)).its (GG.out.below GG.out.lt (below_alloc HB.out _)) (blk_new _ _)).mono ?_); rintro e wp1_ ⟨rfl, hb⟩; have n0 := Aside0.mk (blk_below (blk_alloc BK7.out _) hb); have n1 := Aside0.mk ((I7.out.below (below_new _ _)).below hb); have n2 := Aside0.mk (blk_below (blk_alloc BK9.out _) hb); have n3 := Aside0.mk ((I9.out.below (below_new _ _)).below hb); have n4 := Aside0.mk (below_step (below_alloc HB.out _) hb); have n5 := Aside0.mk ((I15.out.below (below_new _ _)).below hb); have n6 := Aside0.mk (blk_below (blk_alloc BK15.out _) hb); have n7 := Aside0.mk ((I16.out.below (below_new _ _)).below hb); have n8 := Aside0.mk (blk_below (blk_alloc BK16.out _) hb); clear BK7 I7 BK9 I9 HB I15 BK15 I16 BK16; have BK7 := n0; have I7 := n1; have BK9 := n2; have I9 := n3; have HB := n4; have I15 := n5; have BK15 := n6; have I16 := n7; have BK16 := n8; clear n0 n1 n2 n3 n4 n5 n6 n7 n8; clear hb)
            | ((with_reducible refine gate_dst (N := 85) rfl ?_); refine gate_guard (by rfl) ?_; refine wl_load rfl rfl rfl (load_row Tryd.underlying24 rfl size_tap BK9.out (rfl)) ?_)
            | (go_at_call 14; (with_reducible refine (HPD.out _ _ _ _ _ (I9.out.below (below_new _ _)).its (GG.out.below GG.out.lt (below_alloc HB.out _)) (blk_new _ _)).mono ?_); rintro e wp2_ ⟨rfl, hb⟩; have n0 := Aside0.mk (blk_below (blk_alloc BK7.out _) hb); have n1 := Aside0.mk ((I7.out.below (below_new _ _)).below hb); have n2 := Aside0.mk (blk_below (blk_alloc BK9.out _) hb); have n3 := Aside0.mk ((I9.out.below (below_new _ _)).below hb); have n4 := Aside0.mk (below_step (below_alloc HB.out _) hb); have n5 := Aside0.mk ((I15.out.below (below_new _ _)).below hb); have n6 := Aside0.mk (blk_below (blk_alloc BK15.out _) hb); have n7 := Aside0.mk ((I16.out.below (below_new _ _)).below hb); have n8 := Aside0.mk (blk_below (blk_alloc BK16.out _) hb); clear BK7 I7 BK9 I9 HB I15 BK15 I16 BK16; have BK7 := n0; have I7 := n1; have BK9 := n2; have I9 := n3; have HB := n4; have I15 := n5; have BK15 := n6; have I16 := n7; have BK16 := n8; clear n0 n1 n2 n3 n4 n5 n6 n7 n8; clear hb)
            | ((with_reducible refine gate_dst (N := 98) rfl ?_); refine gate_guard (by rfl) ?_; refine wl_load rfl rfl rfl (load_row Tryd.underlying24 rfl size_tap BK15.out (rfl)) ?_)
            | (go_at_call 15; (with_reducible refine (HC2.out _ _ I15.out.its (GG.out.below GG.out.lt HB.out)).mono ?_); rintro e w206_ ⟨rfl, hb⟩; have n0 := Aside0.mk (blk_below BK7.out hb); have n1 := Aside0.mk (I7.out.below hb); have n2 := Aside0.mk (blk_below BK9.out hb); have n3 := Aside0.mk (I9.out.below hb); have n4 := Aside0.mk (below_step HB.out hb); have n5 := Aside0.mk (I15.out.below hb); have n6 := Aside0.mk (blk_below BK15.out hb); have n7 := Aside0.mk (I16.out.below hb); have n8 := Aside0.mk (blk_below BK16.out hb); clear BK7 I7 BK9 I9 HB I15 BK15 I16 BK16; have BK7 := n0; have I7 := n1; have BK9 := n2; have I9 := n3; have HB := n4; have I15 := n5; have BK15 := n6; have I16 := n7; have BK16 := n8; clear n0 n1 n2 n3 n4 n5 n6 n7 n8; clear hb)
            | ((with_reducible refine gate_dst (N := 103) rfl ?_); refine gate_guard (by rfl) ?_; refine wl_load rfl rfl rfl (load_row Tryd.underlying24 rfl size_tap BK16.out (rfl)) ?_)
            | (go_at_call 15; (with_reducible refine (HC1.out _ _ I16.out.its (GG.out.below GG.out.lt HB.out)).mono ?_); rintro e w207_ ⟨rfl, hb⟩; have n0 := Aside0.mk (blk_below BK7.out hb); have n1 := Aside0.mk (I7.out.below hb); have n2 := Aside0.mk (blk_below BK9.out hb); have n3 := Aside0.mk (I9.out.below hb); have n4 := Aside0.mk (below_step HB.out hb); have n5 := Aside0.mk (I15.out.below hb); have n6 := Aside0.mk (blk_below BK15.out hb); have n7 := Aside0.mk (I16.out.below hb); have n8 := Aside0.mk (blk_below BK16.out hb); clear BK7 I7 BK9 I9 HB I15 BK15 I16 BK16; have BK7 := n0; have I7 := n1; have BK9 := n2; have I9 := n3; have HB := n4; have I15 := n5; have BK15 := n6; have I16 := n7; have BK16 := n8; clear n0 n1 n2 n3 n4 n5 n6 n7 n8; clear hb))
          go_ret
          exact ⟨rfl, HB.out⟩
end Go.Proofs.YtkkkjidbakmjdaaDoor.Q
