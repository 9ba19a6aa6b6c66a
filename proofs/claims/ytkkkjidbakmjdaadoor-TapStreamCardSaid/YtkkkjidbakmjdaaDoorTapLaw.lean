/-
  event, pushed, polls of law 23's statements: walks (written by wip/tools/gen_taplaw.py).
-/
import Derived.Test.YtkkkjidbakmjdaaDoorTapPoll
namespace Go.Proofs.YtkkkjidbakmjdaaDoor.Q
open Go.RowKit Go.Proofs.YtkkkjidbakmjdaaDoorW.PrintWords Go.Proofs.YtkkkjidbakmjdaaDoorW.PrintLast Go.Proofs.YtkkkjidbakmjdaaDoorW.PrintMore
set_option linter.unusedVariables false
set_option linter.unusedSimpArgs false

def evN (n : Int) : Evt := ⟨n, false, hd0⟩
theorem evn_wf (n : Int) : (evN n).hd.wf := hd0_wf
set_option maxRecDepth 100000 in
theorem built_evn (n : Int) : Tryd.prog.built 30 [(0, .int .i64 n)] = some (ea (evN n)) := by kernel_rfl
theorem ItsO.its {W : World} {base n c : Nat} {A : Option Addr} {l : List Itm} (h : ItsO W base A n c l) : Its W A n c l := h.1
/-- Items in memory that came in, or in memory made since. -/
def Kept (W0 w : World) (A : Option Addr) (n c : Nat) (l : List Itm) : Prop := Its W0 A n c l ∨ ItsO w W0.heap.size A n c l
theorem Kept.below {W0 w w1 : World} {A : Option Addr} {n c : Nat} {l : List Itm} (h : Kept W0 w A n c l) (hb : Below w.heap.size w w1) : Kept W0 w1 A n c l := h.imp id (fun h => h.below hb)
theorem Kept.store {W0 w w1 : World} {A : Option Addr} {n c : Nat} {l : List Itm} (h : Kept W0 w A n c l) {g : Nat} {t : TypeId} {cs : Array Value} (hg : w.heap[g]? = some (.cells cs t (0, 0))) (ht : t ≠ 32) (hoth : ∀ k, k ≠ g → w1.heap[k]? = w.heap[k]?) : Kept W0 w1 A n c l := h.imp id (fun h => io_store h hg ht hoth)
theorem Kept.its {W0 w : World} {A : Option Addr} {n c : Nat} {l : List Itm} (h : Kept W0 w A n c l) (hb : Below W0.heap.size W0 w) : Its w A n c l := h.elim (fun h => h.below hb) (fun h => h.1)

set_option maxHeartbeats 8000000 in
set_option maxRecDepth 100000 in
theorem evn_walk (n : Int) (W : World) :
    Calls Tryd.prog 12 #[.int .i64 n] W fun e W' => e = .returned (.agg (ea (evN n))) ∧ Below W.heap.size W W' := by
  have HB := Aside0.mk (Below.refl W.heap.size W)
  go_enter Tryd.func12, Tryd.ntmps12
  go_wp2_with (
    first
    | ((with_reducible refine gate_dst (N := 2) rfl ?_); refine box_event ?hg (N := 2) ?hd (cs := ea ev0) (t := 30) ?hr ?_; (case hd => rfl); (case hg => rfl); (case hr => first | (go_simp; done) | (go_simp; rfl)); intro g2 hg w1_ hbox hb; have BK2 := Aside0.mk hbox; have G2 := Aside0.mk (show W.heap.size ≤ g2 by rw [hg]; exact below_size HB.out); have n0 := Aside0.mk (below_step HB.out hb); clear HB; have HB := n0; clear n0; clear hb hbox hg)
    | ((with_reducible refine gate_dst (N := 4) rfl ?_); refine wl_build1 (v := .int .i64 n) (cells := ea (evN n)) rfl rfl rfl (built_evn n) ?_)
    | ((with_reducible refine gate_store (p := 2) rfl ?_); refine row_store rfl size_evt (.tmp 2) (.tmp 4) rfl g2 (ea (evN n)) (ea ev0) rfl rfl BK2.out (ea_size (x := evN n) hd0_wf) (ea_size (x := ev0) hd0_wf) (ea_one _) ?_; intro s2_ bk hoth hbel; have n0 := Aside0.mk (hbel _ _ HB.out G2.out); have n1 := Aside0.mk bk; clear HB BK2; have HB := n0; have BK2 := n1; clear n0 n1; clear bk hoth hbel))
  refine bodyPost_ret (results_c rfl _ _ g2 30 (ea (evN n)) (0, 0) _ rfl BK2.out Tryd.underlying30 rfl (by rw [ea_size (x := evN n) hd0_wf]; exact size_evt)) rfl ?_
  exact ⟨rfl, HB.out⟩
def pushesP : Nat → Tp
  | 0 => ⟨[], false⟩
  | k + 1 => (pushP (pushesP k) 2 (evN ((k + 1 : Nat) : Int))).1
theorem push_tp (A : Option Addr) (n c : Nat) (t : Tp) (room : Int) (e : Evt) (W : World) (h : Its W A n c t.its) (hg : GT W) (he : e.hd.wf) :
    Calls Tryd.prog 11 #[.agg #[.slice A n c, .bool t.lost], .int .i64 room, .agg (ea e)] W fun x W' => ∃ A' n' c', x = .returned (.tuple #[.agg #[.slice A' n' c', .bool (pushP t room e).1.lost], .int .i64 (pushP t room e).2]) ∧ ItsO W' W.heap.size A' n' c' (pushP t room e).1.its ∧ Below W.heap.size W W' :=
  (push_walk A n c t.its t.lost room e W h hg he).mono fun x W' ⟨v, hx, ho, hb⟩ => by
    have hw : Wfs (pushP t room e).1.its := by
      have hw0 : Wfs t.its := h.wf
      have h1 : Wfs [(⟨false, e⟩ : Itm)] := fun y hy => by rw [List.mem_singleton.1 hy]; exact he
      have h2 : Wfs [gapI, (⟨false, e⟩ : Itm)] := fun y hy => by
        rcases List.mem_cons.1 hy with rfl | hy
        · exact hd0_wf
        · rw [List.mem_singleton.1 hy]; exact he
      have happ : ∀ a b : List Itm, Wfs a → Wfs b → Wfs (a ++ b) := fun a b ha hb y hy => (List.mem_append.1 hy).elim (ha y) (hb y)
      have hnil : Wfs [] := fun y hy => by cases hy
      unfold pushP withP
      split
      · split
        · split
          · exact happ _ _ hw0 h2
          · split
            · exact happ _ _ hw0 h1
            · exact hw0
        · exact hnil
      · exact hnil
    obtain ⟨A', c', rfl, hi⟩ := own_its ho hw
    exact ⟨A', _, c', hx, hi, hb⟩

def pushed5_T : Bool × List (List Nat × List Nat) := (true, [([], []), ([], []), ([1], [1]), ([0, 2, 2], [0, 2]), ([3], [3]), ([4], [4]), ([4], [4]), ([5, 3, 0, 1, 2, 3, 4, 5], [5])])
def pushed5_B : List Nat := [0, 0, 2, 7, 15, 31, 31, 63]
theorem pushed5_tab : rtab .any (opsOf Tryd.f10 5) = pushed5_T := by kernel_rfl
theorem pushed5_bits : waitsOk pushed5_T.2 pushed5_B = true := by kernel_rfl

set_option maxHeartbeats 16000000 in
set_option maxRecDepth 100000 in
theorem pushed_walk (m : Nat) (hm : m ≤ 100) (W : World) (hg : GT W) :
    Calls Tryd.prog 10 #[.int .i64 (m : Int)] W fun e W' => ∃ A n c, e = .returned (.agg #[.slice A n c, .bool (pushesP m).lost]) ∧ ItsO W' W.heap.size A n c (pushesP m).its ∧ Below W.heap.size W W' := by
  have GG := Aside0.mk hg
  have HB := Aside0.mk (Below.refl W.heap.size W)
  clear hg
  go_enter Tryd.func10, Tryd.ntmps10
  go_wp2_with (
    first
    | ((with_reducible refine gate_dst (N := 2) rfl ?_); refine box_event ?hg (N := 2) ?hd (cs := #[.slice none 0 0, .bool false]) (t := 24) ?hr ?_; (case hd => rfl); (case hg => rfl); (case hr => first | (go_simp; done) | (go_simp; rfl)); intro g2 hg w1_ hbox hb; have BK2 := Aside0.mk hbox; have G2 := Aside0.mk (show W.heap.size ≤ g2 by rw [hg]; exact below_size HB.out); have n0 := Aside0.mk (below_step HB.out hb); clear HB; have HB := n0; clear n0; clear hb hbox hg)
    | ((with_reducible refine gate_dst (N := 3) rfl ?_); refine box_event ?hg (N := 3) ?hd (cs := #[.slice none 0 0, .bool false]) (t := 24) ?hr ?_; (case hd => rfl); (case hg => rfl); (case hr => first | (go_simp; done) | (go_simp; rfl)); intro g3 hg w2_ hbox hb; have BK3 := Aside0.mk hbox; have G3 := Aside0.mk (show W.heap.size ≤ g3 by rw [hg]; exact below_size HB.out); have N2_3 := Aside0.mk (show g2 ≠ g3 by rw [hg]; exact Nat.ne_of_lt (blk_lt BK2.out)); have n0 := Aside0.mk (below_step HB.out hb); have n1 := Aside0.mk (blk_below BK2.out hb); clear HB BK2; have HB := n0; have BK2 := n1; clear n0 n1; clear hb hbox hg))
  go_loopw [4] (fun y wr => ∃ (k : Nat) (t : Tp) (A : Option Addr) (n c : Nat), k ≤ m ∧ y = .int .i64 ((k + 1 : Nat) : Int) ∧ Aside0 (pushesP k = t) ∧ Aside0 (wr.heap[g3]? = some (.cells #[.slice A n c, .bool t.lost] 24 (0, 0))) ∧ Aside0 (wr.heap[g2]? = some (.cells #[.slice none 0 0, .bool false] 24 (0, 0))) ∧ Aside0 (ItsO wr W.heap.size A n c t.its) ∧ Aside0 (Below W.heap.size W wr)) (fun y _ => m + 1 - (intOf y).toNat)
  case atStart => exact ⟨0, ⟨[], false⟩, none, 0, 0, by omega, rfl, ⟨rfl⟩, BK3, BK2, ⟨ItsO.none _ _⟩, HB⟩
  case round =>
    obtain ⟨k, t, A, n, c, hk, rfl, HT, hb3, hb2, IT, hbB⟩ := hrel
    clear BK3 BK2 HB
    have BK3 := hb3
    have BK2 := hb2
    have HB := hbB
    clear hb3 hb2 hbB
    by_cases hlt : k < m
    · have hle : ((k + 1 : Nat) : Int) ≤ (m : Int) := by omega
      have hle2 : k + 1 ≤ m := by omega
      go_wp2
      have hb : Below wr.heap.size wr wr.drew := below_drew (Below.refl _ _)
      refine start_ (n := 8) (S := fun w' => w'.heap[g3]? = some (.cells #[.slice A n c, .bool t.lost] 24 (0, 0))) (ds := [7]) #[false, false, false, false, false, false, false, false] (by kernel_rfl) rfl rfl (blk_below BK3.out hb) (fun hHeld => ?_)
      refine with_tabW pushed5_tab pushed5_bits (fun HT_ HW_ => ?_)
      have n0 := Aside0.mk (blk_below BK3.out hb)
      have n1 := Aside0.mk (blk_below BK2.out hb)
      have n2 := Aside0.mk (below_step HB.out hb)
      have n3 := Aside0.mk (IT.out.below hb)
      clear BK3 BK2 HB IT
      have BK3 := n0
      have BK2 := n1
      have HB := n2
      have IT := n3
      clear n0 n1 n2 n3
      clear hb
      generalize wr.drew = wd at BK3 BK2 HB IT hHeld ⊢
      refine pure_ (i := 1) (N := (some 12)) (v := ?_) (a' := ?_) #[false, true, false, false, false, false, false, false] rfl rfl (any_of HT_.out (by kernel_rfl)) (fun _ _ _ h => h) (Or.inl ⟨by rfl, ?_⟩) ?_ ?_
      rotate_left
      · intro w'
        go_simp
        first | with_reducible rfl | (simp; done) | rfl
      rotate_left
      · simp only [Act.put, List.setIfInBounds_toArray, List.set_cons_zero, List.set_cons_succ, i64_w, i32_w]
        rfl
      refine take_ (i := 0) (N := (some 11)) (v := .agg #[.slice A n c, .bool t.lost]) (a' := ?_) #[true, true, false, false, false, false, false, false] rfl rfl (take_ofW HT_.out HW_.out (by kernel_rfl)) (fun _ _ _ h => h) (Or.inl ⟨by rfl, ?_⟩) hHeld ?_ ?_
      · rintro w' s3
        refine op_load (x := .tmp 3) (load_row Tryd.underlying24 rfl size_tap s3 rfl) ?_ ?_ <;> rfl
      rotate_left
      · simp only [Act.put, List.setIfInBounds_toArray, List.set_cons_zero, List.set_cons_succ, i64_w, i32_w]
        rfl
      refine one_ (i := 2) (N := (some 13)) #[true, true, true, false, false, false, false, false] rfl rfl (one_of HT_.out (by kernel_rfl)) (by decide) (fun K hK => ?_)
      refine goes_ Tryd.func12 (by kernel_rfl) rfl #[.int .i64 ((k + 1 : Nat) : Int)] (by rfl) rfl rfl (by (try simp only [List.map_toArray, List.map_cons, List.map_nil]); first | done | rfl) ?_
      with_reducible refine (evn_walk _ _).mono ?_
      rintro e0 we ⟨rfl, hb⟩
      refine ⟨_, rfl, ?_⟩
      have n0 := Aside0.mk (blk_below BK3.out hb)
      have n1 := Aside0.mk (blk_below BK2.out hb)
      have n2 := Aside0.mk (below_step HB.out hb)
      have n3 := Aside0.mk (IT.out.below hb)
      clear BK3 BK2 HB IT
      have BK3 := n0
      have BK2 := n1
      have HB := n2
      have IT := n3
      clear n0 n1 n2 n3
      clear hb
      refine hK.out _ _ BK3.out (fun hHeld => ?_)
      clear hK K
      refine norm_ (a' := ?_) ?_ ?_
      rotate_left
      · show Act.put _ (some 13) _ = _
        simp only [Act.put, List.setIfInBounds_toArray, List.set_cons_zero, List.set_cons_succ, i64_w, i32_w]
        rfl
      refine one_ (i := 3) (N := (some 14)) #[true, true, true, true, false, false, false, false] rfl rfl (one_of HT_.out (by kernel_rfl)) (by decide) (fun K hK => ?_)
      refine goes_ Tryd.func11 (by kernel_rfl) rfl #[.agg #[.slice A n c, .bool t.lost], .int .i64 2, .agg (ea (evN ((k + 1 : Nat) : Int)))] (by rfl) rfl rfl (by (try simp only [List.map_toArray, List.map_cons, List.map_nil]); first | done | rfl) ?_
      with_reducible refine (push_tp A n c t 2 (evN ((k + 1 : Nat) : Int)) _ IT.out.its (GG.out.below GG.out.lt HB.out) (evn_wf _)).mono ?_
      rintro e0 wf ⟨A', n', c', rfl, hio, hb⟩
      refine ⟨_, rfl, ?_⟩
      have n3 := Aside0.mk (blk_below BK2.out hb)
      have n0 := Aside0.mk (blk_below BK3.out hb)
      have n1 := Aside0.mk (hio.mono (below_size HB.out))
      have n2 := Aside0.mk (below_step HB.out hb)
      clear BK3 BK2 IT HB hio hb
      have BK2 := n3
      have BK3 := n0
      have IT := n1
      have HB := n2
      clear n0 n1 n2 n3
      refine hK.out _ _ BK3.out (fun hHeld => ?_)
      clear hK K
      refine norm_ (a' := ?_) ?_ ?_
      rotate_left
      · show Act.put _ (some 14) _ = _
        simp only [Act.put, List.setIfInBounds_toArray, List.set_cons_zero, List.set_cons_succ, i64_w, i32_w]
        rfl
      refine pure_ (i := 4) (N := (some 10)) (v := ?_) (a' := ?_) #[true, true, true, true, true, false, false, false] rfl rfl (any_of HT_.out (by kernel_rfl)) (fun _ _ _ h => h) (Or.inl ⟨by rfl, ?_⟩) ?_ ?_
      rotate_left
      · intro w'
        go_simp
        first | with_reducible rfl | (simp; done) | rfl
      rotate_left
      · simp only [Act.put, List.setIfInBounds_toArray, List.set_cons_zero, List.set_cons_succ, i64_w, i32_w]
        rfl
      refine pure_ (i := 5) (N := (some 15)) (v := ?_) (a' := ?_) #[true, true, true, true, true, true, false, false] rfl rfl (any_of HT_.out (by kernel_rfl)) (fun _ _ _ h => h) (Or.inl ⟨by rfl, ?_⟩) ?_ ?_
      rotate_left
      · intro w'
        go_simp
        first | with_reducible rfl | (simp; done) | rfl
      rotate_left
      · simp only [Act.put, List.setIfInBounds_toArray, List.set_cons_zero, List.set_cons_succ, i64_w, i32_w]
        rfl
      refine pure_ (i := 6) (N := (some 16)) (v := ?_) (a' := ?_) #[true, true, true, true, true, true, true, false] rfl rfl (any_of HT_.out (by kernel_rfl)) (fun _ _ _ h => h) (Or.inl ⟨by rfl, ?_⟩) ?_ ?_
      rotate_left
      · intro w'
        go_simp
        first | with_reducible rfl | (simp; done) | rfl
      rotate_left
      · simp only [Act.put, List.setIfInBounds_toArray, List.set_cons_zero, List.set_cons_succ, i64_w, i32_w]
        rfl
      refine last_ (i := 7) (N := none) #[true, true, true, true, true, true, true, true] rfl rfl (one_of HT_.out (by kernel_rfl)) (by decide) (fun K hK => ?_)
      rw [if_pos (by rfl)]
      refine wp_store_row 24 (.tmp 3) (.tmp 15) rfl g3 (#[.slice A' n' c', .bool (pushP t 2 (evN ((k + 1 : Nat) : Int))).1.lost]) rfl rfl 24 (#[.slice A n c, .bool t.lost]) BK3.out size_tap rfl (tap_one _ _ _ _) ?_
      obtain ⟨wh, hwe⟩ : ∃ w', World.setRow wf g3 (#[.slice A' n' c', .bool (pushP t 2 (evN ((k + 1 : Nat) : Int))).1.lost]) = w' := ⟨_, rfl⟩
      have hoth : ∀ k, k ≠ g3 → wh.heap[k]? = wf.heap[k]? := fun k hk => by rw [← hwe]; exact setRow_other wf g3 k _ hk
      have n0 := Aside0.mk (show wh.heap[g3]? = some (.cells (#[.slice A' n' c', .bool (pushP t 2 (evN ((k + 1 : Nat) : Int))).1.lost]) 24 (0, 0)) by rw [← hwe]; exact setRow_heap _ g3 _ _ _ _ BK3.out)
      have n1 := Aside0.mk ((hoth g2 (N2_3.out)).trans BK2.out)
      have n2 := Aside0.mk (show Below W.heap.size W wh by rw [← hwe]; exact below_setRow HB.out G3.out (#[.slice A' n' c', .bool (pushP t 2 (evN ((k + 1 : Nat) : Int))).1.lost]))
      have n3 := Aside0.mk (io_store IT.out BK3.out (by decide) hoth)
      clear BK3 BK2 HB IT
      have BK3 := n0
      have BK2 := n1
      have HB := n2
      have IT := n3
      clear n0 n1 n2 n3
      rw [hwe]
      clear hwe hoth
      refine hK.out _ _ ?_
      clear hK K
      refine done_ (done_of HT_.out (by kernel_rfl)) ?_
      go_wp2
      exact ⟨⟨k + 1, _, A', n', c', hle2, by simp, ⟨by rw [← HT.out]; rfl⟩, BK3, BK2, IT, HB⟩, by simp [intOf]; omega⟩
    · have hle : ¬ ((k + 1 : Nat) : Int) ≤ (m : Int) := by omega
      have hle2 : ¬ k + 1 ≤ m := by omega
      obtain rfl : k = m := by omega
      go_wp2_with (
        first
        | ((with_reducible refine gate_dst (N := 17) rfl ?_); refine wl_load rfl rfl rfl (load_row Tryd.underlying24 rfl size_tap BK3.out (rfl)) ?_)
        | ((with_reducible refine gate_store (p := 2) rfl ?_); refine row_store rfl size_tap (.tmp 2) (.tmp 17) rfl g2 (#[.slice A n c, .bool t.lost]) (#[.slice none 0 0, .bool false]) rfl rfl BK2.out (rfl) (rfl) (tap_one _ _ _ _) ?_; intro s1_ bk hoth hbel; have n0 := Aside0.mk ((hoth g3 (fun e => N2_3.out e.symm)).trans BK3.out); have n1 := Aside0.mk bk; have n2 := Aside0.mk (hbel _ _ HB.out G2.out); have n3 := Aside0.mk (io_store IT.out BK2.out (by decide) hoth); clear BK3 BK2 HB IT; have BK3 := n0; have BK2 := n1; have HB := n2; have IT := n3; clear n0 n1 n2 n3; clear bk hoth hbel))
      refine bodyPost_ret (results_c rfl _ _ g2 24 #[.slice A n c, .bool t.lost] (0, 0) _ rfl BK2.out Tryd.underlying24 rfl size_tap) rfl ?_
      have ht := HT.out
      subst ht
      exact ⟨_, _, _, rfl, IT.out, HB.out⟩
end Go.Proofs.YtkkkjidbakmjdaaDoor.Q
