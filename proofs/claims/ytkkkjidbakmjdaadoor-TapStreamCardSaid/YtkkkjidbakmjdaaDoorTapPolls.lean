/-
  polls of law 23's statements: walk (written by wip/tools/gen_tappolls.py).
-/
import Derived.Test.YtkkkjidbakmjdaaDoorTapLaw
namespace Go.Proofs.YtkkkjidbakmjdaaDoor.Q
open Go.RowKit Go.Proofs.YtkkkjidbakmjdaaDoorW.PrintWords Go.Proofs.YtkkkjidbakmjdaaDoorW.PrintLast Go.Proofs.YtkkkjidbakmjdaaDoorW.PrintMore
set_option linter.unusedVariables false
set_option linter.unusedSimpArgs false

theorem io_store3 {w w1 : World} {base n c : Nat} {A : Option Addr} {l : List Itm} (h : ItsO w base A n c l) {g : Nat} (hne : ∀ ad, A = some ad → ad.block ≠ g) (hoth : ∀ k, k ≠ g → w1.heap[k]? = w.heap[k]?) : ItsO w1 base A n c l := by
  have each : ∀ ad, A = some ad → ∃ g' k cur, ad = ⟨g', k, Option.none⟩ ∧ base ≤ g' ∧ w.heap[g']? = some (.cells cur 32 (0, 0)) ∧ w1.heap[g']? = some (.cells cur 32 (0, 0)) ∧ k + n * 101 ≤ cur.size := fun ad e => by
    obtain ⟨g', k, cur, e1, h1, h2, h3⟩ := h.2 ad e
    exact ⟨g', k, cur, e1, h1, h2, (hoth g' (by have := hne ad e; rw [e1] at this; exact this)).trans h2, h3⟩
  refine ⟨⟨h.1.len, h.1.le, h.1.max, h.1.nil_, fun ad e i v hv => ?_, h.1.wf⟩, fun ad e => ?_⟩
  · obtain ⟨g', k, cur, e1, h1, h2, h3, _⟩ := each ad e
    have hc := h.1.lie ad e i v hv
    subst e1
    have ea : (⟨g', k, Option.none⟩ : Addr).add i = ⟨g', k + i, Option.none⟩ := by rw [← addr0 g' k, addr_add, addr0]
    rw [ea, cell_of_row w g' (k + i) cur 32 (0, 0) h2] at hc
    rw [ea, cell_of_row w1 g' (k + i) cur 32 (0, 0) h3]
    exact hc
  · obtain ⟨g', k, cur, e1, h1, h2, h3, h4⟩ := each ad e
    exact ⟨g', k, cur, e1, h1, h3, h4⟩
theorem io_ne {w : World} {base n c : Nat} {A : Option Addr} {l : List Itm} (h : ItsO w base A n c l) {g : Nat} (hg : g = w.heap.size) : ∀ ad, A = some ad → ad.block ≠ g := fun ad e => by
  obtain ⟨g', k, cur, e1, h1, h2, h3⟩ := h.2 ad e
  rw [e1]
  have := blk_lt h2
  simp only
  omega
/-- Whole numbers that lie from an address on. -/
def Ints (w : World) (ad : Addr) (l : List Int) : Prop := ∀ (j : Nat) (x : Int), l[j]? = some x → w.cell? (ad.add j) = some (.int .i64 x)
theorem Ints.below {W w : World} {ad : Addr} {l : List Int} (h : Ints W ad l) (hb : Below W.heap.size W w) : Ints w ad l := fun j x hx => cell_below (h j x hx) hb
/-- Are these told, one behind the other, and then nothing? -/
def pollsP : Tp → List Int → Bool
  | t, [] => decide ((pollP t).2.2 = 6)
  | t, x :: xs => decide ((pollP t).2.2 = 0) && decide ((pollP t).2.1.gap = decide (x < 0)) && ((pollP t).2.1.gap || decide ((pollP t).2.1.ev.n = x)) && pollsP (pollP t).1 xs
theorem idx_ints (ad : Addr) (n cap i : Nat) (hi : i < n) (W : World) : (Instr.indexAt 81 (.slice (some ad) n cap) (.int .i64 (i : Int))).run Tryd.prog W = .ok (.pointer (some (ad.add i))) W := by
  have hel : Tryd.prog.elem 81 = 3 := by kernel_rfl
  have hin : (Tryd.prog.info? 3).map (·.size) = some 1 := by kernel_rfl
  obtain ⟨j, hj, h2⟩ := Option.map_eq_some_iff.1 hin
  rw [run_indexAt_slice W 81 _ _ _ _ _ (by rw [hel]; exact Tryd.underlying81)]
  simp [hi, hel, sizeOf, typeInfo, hj, h2, Result.andThen]
theorem ia_num (x : Itm) : (ia x)[1]? = some (.int .i64 x.ev.n) := by simp [ia, icl, ecl]
theorem poll_tp (A : Option Addr) (n c : Nat) (t t' : Tp) (x : Itm) (cd : Int) (W : World) (hp : pollP t = (t', x, cd)) (h : Its W A n c t.its) (hg : GT W) :
    Calls Tryd.prog 9 #[.agg #[.slice A n c, .bool t.lost]] W fun e W' => ∃ A' n' c', e = .returned (.tuple #[.agg #[.slice A' n' c', .bool t'.lost], .agg (ia x), .int .i64 cd]) ∧ ItsO W' W.heap.size A' n' c' t'.its ∧ x.ev.hd.wf ∧ Below W.heap.size W W' := by
  have := poll_walk A n c t.its t.lost W h hg
  rwa [show (⟨t.its, t.lost⟩ : Tp) = t from rfl, hp] at this

def polls5_T : Bool × List (List Nat × List Nat) := (true, [([], []), ([0], [0]), ([1], [1]), ([2], [2]), ([3, 2], [2, 3]), ([2], [2]), ([2], [2]), ([5, 6, 2], [2, 5, 6]), ([7, 2], [2, 7]), ([8, 2], [2, 8]), ([4, 9, 2], [2, 4, 9]), ([2, 10], [2, 10]), ([11, 2], [11]), ([12], [12]), ([13, 12], [12, 13]), ([14, 12], [12, 14]), ([15, 12, 12], [12, 15]), ([16], [16]), ([17, 16], [16, 17]), ([18, 16], [16, 18]), ([16], [16]), ([16], [16]), ([20, 21, 16], [16, 20, 21]), ([22, 16], [16, 22]), ([19, 23, 16], [16, 19, 23]), ([16, 24, 12], [12, 16, 24]), ([12, 25], [12, 25])])
def polls5_B : List Nat := [0, 1, 3, 7, 15, 7, 7, 103, 231, 487, 1023, 2047, 4095, 8191, 16383, 32767, 65535, 131071, 262143, 524287, 131071, 131071, 3276799, 7471103, 16777215, 33554431, 67108863]
theorem polls5_tab : rtab .any (opsOf Tryd.f14 5) = polls5_T := by kernel_rfl
theorem polls5_bits : waitsOk polls5_T.2 polls5_B = true := by kernel_rfl

set_option maxHeartbeats 16000000 in
set_option maxRecDepth 100000 in
theorem polls_walk (A0 : Option Addr) (n0 c0 : Nat) (t0 : Tp) (ad : Addr) (m cm : Nat) (want : List Int) (W : World) (h : Its W A0 n0 c0 t0.its) (hg : GT W) (hw : want.length = m) (hm : m ≤ 1000) (hi : Ints W ad want) (hp : pollsP t0 want = true) :
    Calls Tryd.prog 14 #[.agg #[.slice A0 n0 c0, .bool t0.lost], .slice (some ad) m cm] W fun e W' => e = .returned (.bool true) ∧ Below W.heap.size W W' := by
  have GG := Aside0.mk hg
  have KE0 : Aside0 (Kept W W A0 n0 c0 t0.its) := ⟨.inl h⟩
  have HI := Aside0.mk hi
  have HWL := Aside0.mk hw
  have HP0 := Aside0.mk hp
  have HB := Aside0.mk (Below.refl W.heap.size W)
  have hmx : m ≤ 9223372036854775807 := by omega
  clear h hg hi hw hp hm
  go_enter Tryd.func14, Tryd.ntmps14
  go_wp2_with (
    first
    | ((with_reducible refine gate_dst (N := 2) rfl ?_); refine box_event ?hg (N := 2) ?hd (cs := #[.slice A0 n0 c0, .bool t0.lost]) (t := 24) ?hr ?_; (case hd => rfl); (case hg => rfl); (case hr => first | (go_simp; done) | (go_simp; rfl)); intro g2 hg w1_ hbox hb; have BK2 := Aside0.mk hbox; have G2 := Aside0.mk (show W.heap.size ≤ g2 by rw [hg]; exact below_size HB.out); have n0 := Aside0.mk (below_step HB.out hb); clear HB; have HB := n0; clear n0; clear hb hbox hg))
  go_loopw [5] (fun z wr => ∃ (k : Nat) (t : Tp) (A : Option Addr) (n c : Nat), k ≤ m ∧ z = .int .i64 (k : Int) ∧ Aside0 (pollsP t (want.drop k) = true) ∧ Aside0 (wr.heap[g2]? = some (.cells #[.slice A n c, .bool t.lost] 24 (0, 0))) ∧ Aside0 (Kept W wr A n c t.its) ∧ Aside0 (Below W.heap.size W wr)) (fun z _ => m - (intOf z).toNat)
  case atStart => exact ⟨0, t0, A0, n0, c0, by omega, rfl, HP0, BK2, ⟨KE0.out.imp id (fun h => h.below HB.out)⟩, HB⟩
  case round =>
    obtain ⟨k, t, A, n, c, hk, rfl, HT, hb2, KE, hbB⟩ := hrel
    clear BK2 HB KE0
    have BK2 := hb2
    have HB := hbB
    clear hb2 hbB
    obtain ⟨t', x, cd, hp⟩ : ∃ t' x cd, pollP t = (t', x, cd) := ⟨_, _, _, rfl⟩
    have HP := Aside0.mk hp
    by_cases hlt : k < m
    · have hle : k + 1 ≤ m := hlt
      obtain ⟨y, hyk⟩ : ∃ y, want[k]? = some y := ⟨_, List.getElem?_eq_getElem (by rw [HWL.out]; exact hlt)⟩
      have HC := Aside0.mk (HI.out k y hyk)
      have hix := fun X => idx_ints ad m cm k hlt X
      have hd : want.drop k = y :: want.drop (k + 1) := by
        obtain ⟨hkl, rfl⟩ := List.getElem?_eq_some_iff.1 hyk
        exact List.drop_eq_getElem_cons hkl
      have ht := HT.out
      rw [hd] at ht
      unfold pollsP at ht
      rw [hp] at ht
      simp only [Bool.and_eq_true, decide_eq_true_eq, Bool.or_eq_true] at ht
      obtain ⟨⟨⟨h0, h1⟩, h2⟩, h3⟩ := ht
      subst h0
      have HQ := Aside0.mk h3
      clear h3 hd hyk hp HT
      cases hgap : x.gap with
      | true =>
        have IG : Aside0 ((ia x)[0]? = some (.bool true)) := ⟨by rw [ia_gap, hgap]⟩
        have hy : decide (y < 0) = true := by rw [← h1, hgap]
        have hy2 : y < 0 := by simpa using hy
        clear hgap h1 h2
        focus
          skip
          go_wp2_with (
            first
            | ((with_reducible refine gate_dst (N := 19) rfl ?_); refine wl_load rfl rfl rfl (load_row Tryd.underlying24 rfl size_tap BK2.out (rfl)) ?_)
            | (go_at_call 9; have HB0 := HB; (with_reducible refine (poll_tp A n c t t' x 0 _ HP.out (KE.out.its HB.out) (GG.out.below GG.out.lt HB.out)).mono ?_); rintro e w1_ ⟨A', n', c', rfl, hio, hwf, hb⟩; have HX := Aside0.mk hwf; have n0 := Aside0.mk (blk_below BK2.out hb); have n1 := Aside0.mk (below_step HB.out hb); have n2 := Aside0.mk (KE.out.below hb); clear BK2 HB KE; have BK2 := n0; have HB := n1; have KE := n2; clear n0 n1 n2; have IO := Aside0.mk (hio.mono (below_size HB0.out)); clear hb)
            | ((with_reducible refine gate_dst (N := 6) rfl ?_); refine box_event ?hg (N := 6) ?hd (cs := #[.slice none 0 0, .bool false]) (t := 24) ?hr ?_; (case hd => rfl); (case hg => rfl); (case hr => first | (go_simp; done) | (go_simp; rfl)); intro g6 hg w2_ hbox hb; have BK6 := Aside0.mk hbox; have G6 := Aside0.mk (show W.heap.size ≤ g6 by rw [hg]; exact below_size HB.out); have N2_6 := Aside0.mk (show g2 ≠ g6 by rw [hg]; exact Nat.ne_of_lt (blk_lt BK2.out)); have n0 := Aside0.mk (blk_below BK2.out hb); have n1 := Aside0.mk (below_step HB.out hb); have n2 := Aside0.mk (IO.out.below hb); clear BK2 HB IO; have BK2 := n0; have HB := n1; have IO := n2; clear n0 n1 n2; clear hb hbox hg)
            | ((with_reducible refine gate_dst (N := 7) rfl ?_); refine box_event ?hg (N := 7) ?hd (cs := ia it0) (t := 32) ?hr ?_; (case hd => rfl); (case hg => rfl); (case hr => first | (go_simp; done) | (go_simp; rfl)); intro g7 hg w3_ hbox hb; have BK7 := Aside0.mk hbox; have G7 := Aside0.mk (show W.heap.size ≤ g7 by rw [hg]; exact below_size HB.out); have N2_7 := Aside0.mk (show g2 ≠ g7 by rw [hg]; exact Nat.ne_of_lt (blk_lt BK2.out)); have N6_7 := Aside0.mk (show g6 ≠ g7 by rw [hg]; exact Nat.ne_of_lt (blk_lt BK6.out)); have NB7 := Aside0.mk (io_ne (g := g7) IO.out hg); have n0 := Aside0.mk (blk_below BK2.out hb); have n1 := Aside0.mk (below_step HB.out hb); have n2 := Aside0.mk (IO.out.below hb); have n3 := Aside0.mk (blk_below BK6.out hb); clear BK2 HB IO BK6; have BK2 := n0; have HB := n1; have IO := n2; have BK6 := n3; clear n0 n1 n2 n3; clear hb hbox hg)
            | ((with_reducible refine gate_store (p := 6) rfl ?_); refine row_store rfl size_tap (.tmp 6) (.tmp 21) rfl g6 (#[.slice A' n' c', .bool t'.lost]) (#[.slice none 0 0, .bool false]) rfl rfl BK6.out (rfl) (rfl) (tap_one _ _ _ _) ?_; intro s4_ bk hoth hbel; have n0 := Aside0.mk ((hoth g2 N2_6.out).trans BK2.out); have n1 := Aside0.mk (hbel _ _ HB.out G6.out); have n2 := Aside0.mk (io_store IO.out BK6.out (by decide) hoth); have n3 := Aside0.mk bk; have n4 := Aside0.mk ((hoth g7 (fun e => N6_7.out e.symm)).trans BK7.out); clear BK2 HB IO BK6 BK7; have BK2 := n0; have HB := n1; have IO := n2; have BK6 := n3; have BK7 := n4; clear n0 n1 n2 n3 n4; clear bk hoth hbel)
            | ((with_reducible refine gate_store (p := 7) rfl ?_); refine row_store rfl size_itm (.tmp 7) (.tmp 22) rfl g7 (ia x) (ia it0) rfl rfl BK7.out (ia_size HX.out) (ia_size hd0_wf) (ia_one _) ?_; intro s5_ bk hoth hbel; have n0 := Aside0.mk ((hoth g2 N2_7.out).trans BK2.out); have n1 := Aside0.mk (hbel _ _ HB.out G7.out); have n2 := Aside0.mk (io_store3 IO.out NB7.out hoth); have n3 := Aside0.mk ((hoth g6 N6_7.out).trans BK6.out); have n4 := Aside0.mk bk; clear BK2 HB IO BK6 BK7; have BK2 := n0; have HB := n1; have IO := n2; have BK6 := n3; have BK7 := n4; clear n0 n1 n2 n3 n4; clear bk hoth hbel))
          have hb : Below s5_.heap.size s5_ s5_.drew := below_drew (Below.refl _ _)
          refine start_ (n := 27) (S := fun w' => w'.heap[g7]? = some (.cells (ia x) 32 (0, 0)) ∧ w'.cell? (ad.add k) = some (.int .i64 y)) (ds := []) #[false, false, false, false, false, false, false, false, false, false, false, false, false, false, false, false, false, false, false, false, false, false, false, false, false, false, false] (by kernel_rfl) rfl rfl ⟨blk_below BK7.out hb, cell_below (cell_below HC.out HB.out) hb⟩ (fun hHeld => ?_)
          refine with_tabW polls5_tab polls5_bits (fun HT_ HW_ => ?_)
          have n0 := Aside0.mk (blk_below BK2.out hb)
          have n1 := Aside0.mk (blk_below BK6.out hb)
          have n2 := Aside0.mk (blk_below BK7.out hb)
          have n3 := Aside0.mk (below_step HB.out hb)
          have n4 := Aside0.mk (IO.out.below hb)
          clear BK2 BK6 BK7 HB IO
          have BK2 := n0
          have BK6 := n1
          have BK7 := n2
          have HB := n3
          have IO := n4
          clear n0 n1 n2 n3 n4
          clear hb
          generalize s5_.drew = wd at BK2 BK6 BK7 HB IO hHeld ⊢
          refine pure_ (i := 0) (N := (some 24)) (v := ?_) (a' := ?_) #[true, false, false, false, false, false, false, false, false, false, false, false, false, false, false, false, false, false, false, false, false, false, false, false, false, false, false] rfl rfl (any_of HT_.out (by kernel_rfl)) (fun _ _ _ h => h) (Or.inl ⟨by rfl, ?_⟩) ?_ ?_
          rotate_left
          · intro w'
            go_simp
            first | with_reducible rfl | (simp; done) | rfl
          rotate_left
          · simp only [Act.put, List.setIfInBounds_toArray, List.set_cons_zero, List.set_cons_succ, i64_w, i32_w]
            rfl
          refine pure_ (i := 1) (N := (some 25)) (v := ?_) (a' := ?_) #[true, true, false, false, false, false, false, false, false, false, false, false, false, false, false, false, false, false, false, false, false, false, false, false, false, false, false] rfl rfl (any_of HT_.out (by kernel_rfl)) (fun _ _ _ h => h) (Or.inl ⟨by rfl, ?_⟩) ?_ ?_
          rotate_left
          · intro w'
            go_simp
            first | with_reducible rfl | (simp; done) | rfl
          rotate_left
          · simp only [Act.put, List.setIfInBounds_toArray, List.set_cons_zero, List.set_cons_succ, i64_w, i32_w]
            rfl
          refine pure_ (i := 2) (N := (some 26)) (v := ?_) (a' := ?_) #[true, true, true, false, false, false, false, false, false, false, false, false, false, false, false, false, false, false, false, false, false, false, false, false, false, false, false] rfl rfl (any_of HT_.out (by kernel_rfl)) (fun _ _ _ h => h) (Or.inl ⟨by rfl, ?_⟩) ?_ ?_
          rotate_left
          · intro w'
            go_simp
            first | with_reducible rfl | (simp; done) | rfl
          rotate_left
          · simp only [Act.put, List.setIfInBounds_toArray, List.set_cons_zero, List.set_cons_succ, i64_w, i32_w]
            rfl
          refine pure_ (i := 3) (N := (some 27)) (v := ?_) (a' := ?_) #[true, true, true, true, false, false, false, false, false, false, false, false, false, false, false, false, false, false, false, false, false, false, false, false, false, false, false] rfl rfl (any_of HT_.out (by kernel_rfl)) (fun _ _ _ h => h) (Or.inl ⟨by rfl, ?_⟩) ?_ ?_
          rotate_left
          · intro w'
            go_simp
            first | with_reducible rfl | (simp; done) | rfl
          rotate_left
          · simp only [Act.put, List.setIfInBounds_toArray, List.set_cons_zero, List.set_cons_succ, i64_w, i32_w]
            rfl
          refine take_ (i := 4) (N := (some 28)) (v := .bool true) (a' := ?_) #[true, true, true, true, true, false, false, false, false, false, false, false, false, false, false, false, false, false, false, false, false, false, false, false, false, false, false] rfl rfl (take_ofW HT_.out HW_.out (by kernel_rfl)) (fun _ _ _ h => h) (Or.inl ⟨by rfl, ?_⟩) hHeld ?_ ?_
          · rintro w' ⟨s7, sc⟩
            refine op_load (x := .tmp 27) (load_cell (k := 0) Tryd.underlying4 rfl s7 IG.out) ?_ ?_ <;> rfl
          rotate_left
          · simp only [Act.put, List.setIfInBounds_toArray, List.set_cons_zero, List.set_cons_succ, i64_w, i32_w]
            rfl
          refine pure_ (i := 5) (N := (some 29)) (v := ?_) (a' := ?_) #[true, true, true, true, true, true, false, false, false, false, false, false, false, false, false, false, false, false, false, false, false, false, false, false, false, false, false] rfl rfl (any_of HT_.out (by kernel_rfl)) (fun _ _ _ h => h) (Or.inl ⟨by rfl, ?_⟩) ?_ ?_
          rotate_left
          · intro w'
            go_simp
            first | with_reducible rfl | (simp; done) | rfl
          rotate_left
          · simp only [Act.put, List.setIfInBounds_toArray, List.set_cons_zero, List.set_cons_succ, i64_w, i32_w]
            rfl
          refine pure_ (i := 6) (N := (some 30)) (v := ?_) (a' := ?_) #[true, true, true, true, true, true, true, false, false, false, false, false, false, false, false, false, false, false, false, false, false, false, false, false, false, false, false] rfl rfl (any_of HT_.out (by kernel_rfl)) (fun _ _ _ h => h) (Or.inl ⟨by rfl, ?_⟩) ?_ ?_
          rotate_left
          · intro w'
            go_simp
            first | with_reducible rfl | (simp; done) | rfl
          rotate_left
          · simp only [Act.put, List.setIfInBounds_toArray, List.set_cons_zero, List.set_cons_succ, i64_w, i32_w]
            rfl
          refine pure_ (i := 7) (N := (some 31)) (v := ?_) (a' := ?_) #[true, true, true, true, true, true, true, true, false, false, false, false, false, false, false, false, false, false, false, false, false, false, false, false, false, false, false] rfl rfl (any_of HT_.out (by kernel_rfl)) (fun _ _ _ h => h) (Or.inl ⟨by rfl, ?_⟩) ?_ ?_
          rotate_left
          · intro w'
            go_simp
            first | with_reducible rfl | (simp; done) | rfl
          rotate_left
          · simp only [Act.put, List.setIfInBounds_toArray, List.set_cons_zero, List.set_cons_succ, i64_w, i32_w]
            rfl
          refine take_ (i := 8) (N := (some 32)) (v := .int .i64 y) (a' := ?_) #[true, true, true, true, true, true, true, true, true, false, false, false, false, false, false, false, false, false, false, false, false, false, false, false, false, false, false] rfl rfl (take_ofW HT_.out HW_.out (by kernel_rfl)) (fun _ _ _ h => h) (Or.inl ⟨by rfl, ?_⟩) hHeld ?_ ?_
          · rintro w' ⟨s7, sc⟩
            refine op_load (x := .tmp 31) (load_one Tryd.underlying3 rfl sc) ?_ ?_ <;> rfl
          rotate_left
          · simp only [Act.put, List.setIfInBounds_toArray, List.set_cons_zero, List.set_cons_succ, i64_w, i32_w]
            rfl
          refine pure_ (i := 9) (N := (some 33)) (v := ?_) (a' := ?_) #[true, true, true, true, true, true, true, true, true, true, false, false, false, false, false, false, false, false, false, false, false, false, false, false, false, false, false] rfl rfl (any_of HT_.out (by kernel_rfl)) (fun _ _ _ h => h) (Or.inl ⟨by rfl, ?_⟩) ?_ ?_
          rotate_left
          · intro w'
            go_simp
            first | with_reducible rfl | (simp; done) | rfl
          rotate_left
          · simp only [Act.put, List.setIfInBounds_toArray, List.set_cons_zero, List.set_cons_succ, i64_w, i32_w]
            rfl
          try rw [hy]
          refine pure_ (i := 10) (N := (some 34)) (v := ?_) (a' := ?_) #[true, true, true, true, true, true, true, true, true, true, true, false, false, false, false, false, false, false, false, false, false, false, false, false, false, false, false] rfl rfl (any_of HT_.out (by kernel_rfl)) (fun _ _ _ h => h) (Or.inl ⟨by rfl, ?_⟩) ?_ ?_
          rotate_left
          · intro w'
            go_simp
            first | with_reducible rfl | (simp; done) | rfl
          rotate_left
          · simp only [Act.put, List.setIfInBounds_toArray, List.set_cons_zero, List.set_cons_succ, i64_w, i32_w]
            rfl
          refine pure_ (i := 11) (N := (some 35)) (v := ?_) (a' := ?_) #[true, true, true, true, true, true, true, true, true, true, true, true, false, false, false, false, false, false, false, false, false, false, false, false, false, false, false] rfl rfl (any_of HT_.out (by kernel_rfl)) (fun _ _ _ h => h) (Or.inl ⟨by rfl, ?_⟩) ?_ ?_
          rotate_left
          · intro w'
            go_simp
            first | with_reducible rfl | (simp; done) | rfl
          rotate_left
          · simp only [Act.put, List.setIfInBounds_toArray, List.set_cons_zero, List.set_cons_succ, i64_w, i32_w]
            rfl
          refine pure_ (i := 12) (N := (some 36)) (v := ?_) (a' := ?_) #[true, true, true, true, true, true, true, true, true, true, true, true, true, false, false, false, false, false, false, false, false, false, false, false, false, false, false] rfl rfl (any_of HT_.out (by kernel_rfl)) (fun _ _ _ h => h) (Or.inl ⟨by rfl, ?_⟩) ?_ ?_
          rotate_left
          · intro w'
            go_simp
            first | with_reducible rfl | (simp; done) | rfl
          rotate_left
          · simp only [Act.put, List.setIfInBounds_toArray, List.set_cons_zero, List.set_cons_succ, i64_w, i32_w]
            rfl
          refine pure_ (i := 13) (N := (some 37)) (v := ?_) (a' := ?_) #[true, true, true, true, true, true, true, true, true, true, true, true, true, true, false, false, false, false, false, false, false, false, false, false, false, false, false] rfl rfl (any_of HT_.out (by kernel_rfl)) (fun _ _ _ h => h) (Or.inl ⟨by rfl, ?_⟩) ?_ ?_
          rotate_left
          · intro w'
            go_simp
            first | with_reducible rfl | (simp; done) | rfl
          rotate_left
          · simp only [Act.put, List.setIfInBounds_toArray, List.set_cons_zero, List.set_cons_succ, i64_w, i32_w]
            rfl
          refine take_ (i := 14) (N := (some 38)) (v := .bool true) (a' := ?_) #[true, true, true, true, true, true, true, true, true, true, true, true, true, true, true, false, false, false, false, false, false, false, false, false, false, false, false] rfl rfl (take_ofW HT_.out HW_.out (by kernel_rfl)) (fun _ _ _ h => h) (Or.inl ⟨by rfl, ?_⟩) hHeld ?_ ?_
          · rintro w' ⟨s7, sc⟩
            refine op_load (x := .tmp 37) (load_cell (k := 0) Tryd.underlying4 rfl s7 IG.out) ?_ ?_ <;> rfl
          rotate_left
          · simp only [Act.put, List.setIfInBounds_toArray, List.set_cons_zero, List.set_cons_succ, i64_w, i32_w]
            rfl
          refine pure_ (i := 15) (N := (some 39)) (v := ?_) (a' := ?_) #[true, true, true, true, true, true, true, true, true, true, true, true, true, true, true, true, false, false, false, false, false, false, false, false, false, false, false] rfl rfl (any_of HT_.out (by kernel_rfl)) (fun _ _ _ h => h) (Or.inl ⟨by rfl, ?_⟩) ?_ ?_
          rotate_left
          · intro w'
            go_simp
            first | with_reducible rfl | (simp; done) | rfl
          rotate_left
          · simp only [Act.put, List.setIfInBounds_toArray, List.set_cons_zero, List.set_cons_succ, i64_w, i32_w]
            rfl
          refine pure_ (i := 16) (N := (some 40)) (v := ?_) (a' := ?_) #[true, true, true, true, true, true, true, true, true, true, true, true, true, true, true, true, true, false, false, false, false, false, false, false, false, false, false] rfl rfl (any_of HT_.out (by kernel_rfl)) (fun _ _ _ h => h) (Or.inl ⟨by rfl, ?_⟩) ?_ ?_
          rotate_left
          · intro w'
            go_simp
            first | with_reducible rfl | (simp; done) | rfl
          rotate_left
          · simp only [Act.put, List.setIfInBounds_toArray, List.set_cons_zero, List.set_cons_succ, i64_w, i32_w]
            rfl
          refine pure_ (i := 17) (N := (some 41)) (v := undef) (a' := ?_) #[true, true, true, true, true, true, true, true, true, true, true, true, true, true, true, true, true, true, false, false, false, false, false, false, false, false, false] rfl rfl (any_of HT_.out (by kernel_rfl)) (fun _ _ _ h => h) (Or.inr ⟨by rfl, rfl⟩) ?_ ?_
          rotate_left
          · simp only [Act.put, List.setIfInBounds_toArray, List.set_cons_zero, List.set_cons_succ, i64_w, i32_w]
            rfl
          refine pure_ (i := 18) (N := (some 42)) (v := undef) (a' := ?_) #[true, true, true, true, true, true, true, true, true, true, true, true, true, true, true, true, true, true, true, false, false, false, false, false, false, false, false] rfl rfl (any_of HT_.out (by kernel_rfl)) (fun _ _ _ h => h) (Or.inr ⟨by rfl, rfl⟩) ?_ ?_
          rotate_left
          · simp only [Act.put, List.setIfInBounds_toArray, List.set_cons_zero, List.set_cons_succ, i64_w, i32_w]
            rfl
          refine pure_ (i := 19) (N := (some 43)) (v := undef) (a' := ?_) #[true, true, true, true, true, true, true, true, true, true, true, true, true, true, true, true, true, true, true, true, false, false, false, false, false, false, false] rfl rfl (any_of HT_.out (by kernel_rfl)) (fun _ _ _ h => h) (Or.inr ⟨by rfl, rfl⟩) ?_ ?_
          rotate_left
          · simp only [Act.put, List.setIfInBounds_toArray, List.set_cons_zero, List.set_cons_succ, i64_w, i32_w]
            rfl
          refine pure_ (i := 20) (N := (some 44)) (v := undef) (a' := ?_) #[true, true, true, true, true, true, true, true, true, true, true, true, true, true, true, true, true, true, true, true, true, false, false, false, false, false, false] rfl rfl (any_of HT_.out (by kernel_rfl)) (fun _ _ _ h => h) (Or.inr ⟨by rfl, rfl⟩) ?_ ?_
          rotate_left
          · simp only [Act.put, List.setIfInBounds_toArray, List.set_cons_zero, List.set_cons_succ, i64_w, i32_w]
            rfl
          refine pure_ (i := 21) (N := (some 45)) (v := undef) (a' := ?_) #[true, true, true, true, true, true, true, true, true, true, true, true, true, true, true, true, true, true, true, true, true, true, false, false, false, false, false] rfl rfl (any_of HT_.out (by kernel_rfl)) (fun _ _ _ h => h) (Or.inr ⟨by rfl, rfl⟩) ?_ ?_
          rotate_left
          · simp only [Act.put, List.setIfInBounds_toArray, List.set_cons_zero, List.set_cons_succ, i64_w, i32_w]
            rfl
          refine pure_ (i := 22) (N := (some 46)) (v := undef) (a' := ?_) #[true, true, true, true, true, true, true, true, true, true, true, true, true, true, true, true, true, true, true, true, true, true, true, false, false, false, false] rfl rfl (any_of HT_.out (by kernel_rfl)) (fun _ _ _ h => h) (Or.inr ⟨by rfl, rfl⟩) ?_ ?_
          rotate_left
          · simp only [Act.put, List.setIfInBounds_toArray, List.set_cons_zero, List.set_cons_succ, i64_w, i32_w]
            rfl
          refine pure_ (i := 23) (N := (some 47)) (v := undef) (a' := ?_) #[true, true, true, true, true, true, true, true, true, true, true, true, true, true, true, true, true, true, true, true, true, true, true, true, false, false, false] rfl rfl (any_of HT_.out (by kernel_rfl)) (fun _ _ _ h => h) (Or.inr ⟨by rfl, rfl⟩) ?_ ?_
          rotate_left
          · simp only [Act.put, List.setIfInBounds_toArray, List.set_cons_zero, List.set_cons_succ, i64_w, i32_w]
            rfl
          refine pure_ (i := 24) (N := (some 48)) (v := undef) (a' := ?_) #[true, true, true, true, true, true, true, true, true, true, true, true, true, true, true, true, true, true, true, true, true, true, true, true, true, false, false] rfl rfl (any_of HT_.out (by kernel_rfl)) (fun _ _ _ h => h) (Or.inr ⟨by rfl, rfl⟩) ?_ ?_
          rotate_left
          · simp only [Act.put, List.setIfInBounds_toArray, List.set_cons_zero, List.set_cons_succ, i64_w, i32_w]
            rfl
          refine pure_ (i := 25) (N := (some 49)) (v := ?_) (a' := ?_) #[true, true, true, true, true, true, true, true, true, true, true, true, true, true, true, true, true, true, true, true, true, true, true, true, true, true, false] rfl rfl (any_of HT_.out (by kernel_rfl)) (fun _ _ _ h => h) (Or.inl ⟨by rfl, ?_⟩) ?_ ?_
          rotate_left
          · intro w'
            go_simp
            first | with_reducible rfl | (simp; done) | rfl
          rotate_left
          · simp only [Act.put, List.setIfInBounds_toArray, List.set_cons_zero, List.set_cons_succ, i64_w, i32_w]
            rfl
          refine pure_ (i := 26) (N := (some 50)) (v := ?_) (a' := ?_) #[true, true, true, true, true, true, true, true, true, true, true, true, true, true, true, true, true, true, true, true, true, true, true, true, true, true, true] rfl rfl (any_of HT_.out (by kernel_rfl)) (fun _ _ _ h => h) (Or.inl ⟨by rfl, ?_⟩) ?_ ?_
          rotate_left
          · intro w'
            go_simp
            first | with_reducible rfl | (simp; done) | rfl
          rotate_left
          · simp only [Act.put, List.setIfInBounds_toArray, List.set_cons_zero, List.set_cons_succ, i64_w, i32_w]
            rfl
          refine done_ (done_of HT_.out (by kernel_rfl)) ?_
          go_wp2_with (
            first
            | ((with_reducible refine gate_dst (N := 51) rfl ?_); refine wl_load rfl rfl rfl (load_row Tryd.underlying24 rfl size_tap BK6.out (rfl)) ?_)
            | ((with_reducible refine gate_store (p := 2) rfl ?_); refine row_store rfl size_tap (.tmp 2) (.tmp 51) rfl g2 (#[.slice A' n' c', .bool t'.lost]) (#[.slice A n c, .bool t.lost]) rfl rfl BK2.out (rfl) (rfl) (tap_one _ _ _ _) ?_; intro s51_ bk hoth hbel; have n0 := Aside0.mk bk; have n1 := Aside0.mk ((hoth g6 (fun e => N2_6.out e.symm)).trans BK6.out); have n2 := Aside0.mk ((hoth g7 (fun e => N2_7.out e.symm)).trans BK7.out); have n3 := Aside0.mk (hbel _ _ HB.out G2.out); have n4 := Aside0.mk (io_store IO.out BK2.out (by decide) hoth); clear BK2 BK6 BK7 HB IO; have BK2 := n0; have BK6 := n1; have BK7 := n2; have HB := n3; have IO := n4; clear n0 n1 n2 n3 n4; clear bk hoth hbel))
          exact ⟨⟨k + 1, t', A', n', c', hle, by simp, ⟨HQ.out⟩, BK2, ⟨.inr IO.out⟩, HB⟩, by simp [intOf]; omega⟩
      | false =>
        have IG : Aside0 ((ia x)[0]? = some (.bool false)) := ⟨by rw [ia_gap, hgap]⟩
        have hy : decide (y < 0) = false := by rw [← h1, hgap]
        have hy2 : ¬ y < 0 := by simpa using hy
        have hn : x.ev.n = y := by
          rcases h2 with h2 | h2
          · rw [hgap] at h2; cases h2
          · exact h2
        have INM : Aside0 ((ia x)[1]? = some (.int .i64 y)) := ⟨by rw [ia_num, hn]⟩
        clear hgap h1 h2 hn
        focus
          skip
          go_wp2_with (
            first
            | ((with_reducible refine gate_dst (N := 19) rfl ?_); refine wl_load rfl rfl rfl (load_row Tryd.underlying24 rfl size_tap BK2.out (rfl)) ?_)
            | (go_at_call 9; have HB0 := HB; (with_reducible refine (poll_tp A n c t t' x 0 _ HP.out (KE.out.its HB.out) (GG.out.below GG.out.lt HB.out)).mono ?_); rintro e w1_ ⟨A', n', c', rfl, hio, hwf, hb⟩; have HX := Aside0.mk hwf; have n0 := Aside0.mk (blk_below BK2.out hb); have n1 := Aside0.mk (below_step HB.out hb); have n2 := Aside0.mk (KE.out.below hb); clear BK2 HB KE; have BK2 := n0; have HB := n1; have KE := n2; clear n0 n1 n2; have IO := Aside0.mk (hio.mono (below_size HB0.out)); clear hb)
            | ((with_reducible refine gate_dst (N := 6) rfl ?_); refine box_event ?hg (N := 6) ?hd (cs := #[.slice none 0 0, .bool false]) (t := 24) ?hr ?_; (case hd => rfl); (case hg => rfl); (case hr => first | (go_simp; done) | (go_simp; rfl)); intro g6 hg w2_ hbox hb; have BK6 := Aside0.mk hbox; have G6 := Aside0.mk (show W.heap.size ≤ g6 by rw [hg]; exact below_size HB.out); have N2_6 := Aside0.mk (show g2 ≠ g6 by rw [hg]; exact Nat.ne_of_lt (blk_lt BK2.out)); have n0 := Aside0.mk (blk_below BK2.out hb); have n1 := Aside0.mk (below_step HB.out hb); have n2 := Aside0.mk (IO.out.below hb); clear BK2 HB IO; have BK2 := n0; have HB := n1; have IO := n2; clear n0 n1 n2; clear hb hbox hg)
            | ((with_reducible refine gate_dst (N := 7) rfl ?_); refine box_event ?hg (N := 7) ?hd (cs := ia it0) (t := 32) ?hr ?_; (case hd => rfl); (case hg => rfl); (case hr => first | (go_simp; done) | (go_simp; rfl)); intro g7 hg w3_ hbox hb; have BK7 := Aside0.mk hbox; have G7 := Aside0.mk (show W.heap.size ≤ g7 by rw [hg]; exact below_size HB.out); have N2_7 := Aside0.mk (show g2 ≠ g7 by rw [hg]; exact Nat.ne_of_lt (blk_lt BK2.out)); have N6_7 := Aside0.mk (show g6 ≠ g7 by rw [hg]; exact Nat.ne_of_lt (blk_lt BK6.out)); have NB7 := Aside0.mk (io_ne (g := g7) IO.out hg); have n0 := Aside0.mk (blk_below BK2.out hb); have n1 := Aside0.mk (below_step HB.out hb); have n2 := Aside0.mk (IO.out.below hb); have n3 := Aside0.mk (blk_below BK6.out hb); clear BK2 HB IO BK6; have BK2 := n0; have HB := n1; have IO := n2; have BK6 := n3; clear n0 n1 n2 n3; clear hb hbox hg)
            | ((with_reducible refine gate_store (p := 6) rfl ?_); refine row_store rfl size_tap (.tmp 6) (.tmp 21) rfl g6 (#[.slice A' n' c', .bool t'.lost]) (#[.slice none 0 0, .bool false]) rfl rfl BK6.out (rfl) (rfl) (tap_one _ _ _ _) ?_; intro s4_ bk hoth hbel; have n0 := Aside0.mk ((hoth g2 N2_6.out).trans BK2.out); have n1 := Aside0.mk (hbel _ _ HB.out G6.out); have n2 := Aside0.mk (io_store IO.out BK6.out (by decide) hoth); have n3 := Aside0.mk bk; have n4 := Aside0.mk ((hoth g7 (fun e => N6_7.out e.symm)).trans BK7.out); clear BK2 HB IO BK6 BK7; have BK2 := n0; have HB := n1; have IO := n2; have BK6 := n3; have BK7 := n4; clear n0 n1 n2 n3 n4; clear bk hoth hbel)
            | ((with_reducible refine gate_store (p := 7) rfl ?_); refine row_store rfl size_itm (.tmp 7) (.tmp 22) rfl g7 (ia x) (ia it0) rfl rfl BK7.out (ia_size HX.out) (ia_size hd0_wf) (ia_one _) ?_; intro s5_ bk hoth hbel; have n0 := Aside0.mk ((hoth g2 N2_7.out).trans BK2.out); have n1 := Aside0.mk (hbel _ _ HB.out G7.out); have n2 := Aside0.mk (io_store3 IO.out NB7.out hoth); have n3 := Aside0.mk ((hoth g6 N6_7.out).trans BK6.out); have n4 := Aside0.mk bk; clear BK2 HB IO BK6 BK7; have BK2 := n0; have HB := n1; have IO := n2; have BK6 := n3; have BK7 := n4; clear n0 n1 n2 n3 n4; clear bk hoth hbel))
          have hb : Below s5_.heap.size s5_ s5_.drew := below_drew (Below.refl _ _)
          refine start_ (n := 27) (S := fun w' => w'.heap[g7]? = some (.cells (ia x) 32 (0, 0)) ∧ w'.cell? (ad.add k) = some (.int .i64 y)) (ds := []) #[false, false, false, false, false, false, false, false, false, false, false, false, false, false, false, false, false, false, false, false, false, false, false, false, false, false, false] (by kernel_rfl) rfl rfl ⟨blk_below BK7.out hb, cell_below (cell_below HC.out HB.out) hb⟩ (fun hHeld => ?_)
          refine with_tabW polls5_tab polls5_bits (fun HT_ HW_ => ?_)
          have n0 := Aside0.mk (blk_below BK2.out hb)
          have n1 := Aside0.mk (blk_below BK6.out hb)
          have n2 := Aside0.mk (blk_below BK7.out hb)
          have n3 := Aside0.mk (below_step HB.out hb)
          have n4 := Aside0.mk (IO.out.below hb)
          clear BK2 BK6 BK7 HB IO
          have BK2 := n0
          have BK6 := n1
          have BK7 := n2
          have HB := n3
          have IO := n4
          clear n0 n1 n2 n3 n4
          clear hb
          generalize s5_.drew = wd at BK2 BK6 BK7 HB IO hHeld ⊢
          refine pure_ (i := 0) (N := (some 24)) (v := ?_) (a' := ?_) #[true, false, false, false, false, false, false, false, false, false, false, false, false, false, false, false, false, false, false, false, false, false, false, false, false, false, false] rfl rfl (any_of HT_.out (by kernel_rfl)) (fun _ _ _ h => h) (Or.inl ⟨by rfl, ?_⟩) ?_ ?_
          rotate_left
          · intro w'
            go_simp
            first | with_reducible rfl | (simp; done) | rfl
          rotate_left
          · simp only [Act.put, List.setIfInBounds_toArray, List.set_cons_zero, List.set_cons_succ, i64_w, i32_w]
            rfl
          refine pure_ (i := 1) (N := (some 25)) (v := ?_) (a' := ?_) #[true, true, false, false, false, false, false, false, false, false, false, false, false, false, false, false, false, false, false, false, false, false, false, false, false, false, false] rfl rfl (any_of HT_.out (by kernel_rfl)) (fun _ _ _ h => h) (Or.inl ⟨by rfl, ?_⟩) ?_ ?_
          rotate_left
          · intro w'
            go_simp
            first | with_reducible rfl | (simp; done) | rfl
          rotate_left
          · simp only [Act.put, List.setIfInBounds_toArray, List.set_cons_zero, List.set_cons_succ, i64_w, i32_w]
            rfl
          refine pure_ (i := 2) (N := (some 26)) (v := ?_) (a' := ?_) #[true, true, true, false, false, false, false, false, false, false, false, false, false, false, false, false, false, false, false, false, false, false, false, false, false, false, false] rfl rfl (any_of HT_.out (by kernel_rfl)) (fun _ _ _ h => h) (Or.inl ⟨by rfl, ?_⟩) ?_ ?_
          rotate_left
          · intro w'
            go_simp
            first | with_reducible rfl | (simp; done) | rfl
          rotate_left
          · simp only [Act.put, List.setIfInBounds_toArray, List.set_cons_zero, List.set_cons_succ, i64_w, i32_w]
            rfl
          refine pure_ (i := 3) (N := (some 27)) (v := ?_) (a' := ?_) #[true, true, true, true, false, false, false, false, false, false, false, false, false, false, false, false, false, false, false, false, false, false, false, false, false, false, false] rfl rfl (any_of HT_.out (by kernel_rfl)) (fun _ _ _ h => h) (Or.inl ⟨by rfl, ?_⟩) ?_ ?_
          rotate_left
          · intro w'
            go_simp
            first | with_reducible rfl | (simp; done) | rfl
          rotate_left
          · simp only [Act.put, List.setIfInBounds_toArray, List.set_cons_zero, List.set_cons_succ, i64_w, i32_w]
            rfl
          refine take_ (i := 4) (N := (some 28)) (v := .bool false) (a' := ?_) #[true, true, true, true, true, false, false, false, false, false, false, false, false, false, false, false, false, false, false, false, false, false, false, false, false, false, false] rfl rfl (take_ofW HT_.out HW_.out (by kernel_rfl)) (fun _ _ _ h => h) (Or.inl ⟨by rfl, ?_⟩) hHeld ?_ ?_
          · rintro w' ⟨s7, sc⟩
            refine op_load (x := .tmp 27) (load_cell (k := 0) Tryd.underlying4 rfl s7 IG.out) ?_ ?_ <;> rfl
          rotate_left
          · simp only [Act.put, List.setIfInBounds_toArray, List.set_cons_zero, List.set_cons_succ, i64_w, i32_w]
            rfl
          refine pure_ (i := 5) (N := (some 29)) (v := ?_) (a' := ?_) #[true, true, true, true, true, true, false, false, false, false, false, false, false, false, false, false, false, false, false, false, false, false, false, false, false, false, false] rfl rfl (any_of HT_.out (by kernel_rfl)) (fun _ _ _ h => h) (Or.inl ⟨by rfl, ?_⟩) ?_ ?_
          rotate_left
          · intro w'
            go_simp
            first | with_reducible rfl | (simp; done) | rfl
          rotate_left
          · simp only [Act.put, List.setIfInBounds_toArray, List.set_cons_zero, List.set_cons_succ, i64_w, i32_w]
            rfl
          refine pure_ (i := 6) (N := (some 30)) (v := ?_) (a' := ?_) #[true, true, true, true, true, true, true, false, false, false, false, false, false, false, false, false, false, false, false, false, false, false, false, false, false, false, false] rfl rfl (any_of HT_.out (by kernel_rfl)) (fun _ _ _ h => h) (Or.inl ⟨by rfl, ?_⟩) ?_ ?_
          rotate_left
          · intro w'
            go_simp
            first | with_reducible rfl | (simp; done) | rfl
          rotate_left
          · simp only [Act.put, List.setIfInBounds_toArray, List.set_cons_zero, List.set_cons_succ, i64_w, i32_w]
            rfl
          refine pure_ (i := 7) (N := (some 31)) (v := ?_) (a' := ?_) #[true, true, true, true, true, true, true, true, false, false, false, false, false, false, false, false, false, false, false, false, false, false, false, false, false, false, false] rfl rfl (any_of HT_.out (by kernel_rfl)) (fun _ _ _ h => h) (Or.inl ⟨by rfl, ?_⟩) ?_ ?_
          rotate_left
          · intro w'
            go_simp
            first | with_reducible rfl | (simp; done) | rfl
          rotate_left
          · simp only [Act.put, List.setIfInBounds_toArray, List.set_cons_zero, List.set_cons_succ, i64_w, i32_w]
            rfl
          refine take_ (i := 8) (N := (some 32)) (v := .int .i64 y) (a' := ?_) #[true, true, true, true, true, true, true, true, true, false, false, false, false, false, false, false, false, false, false, false, false, false, false, false, false, false, false] rfl rfl (take_ofW HT_.out HW_.out (by kernel_rfl)) (fun _ _ _ h => h) (Or.inl ⟨by rfl, ?_⟩) hHeld ?_ ?_
          · rintro w' ⟨s7, sc⟩
            refine op_load (x := .tmp 31) (load_one Tryd.underlying3 rfl sc) ?_ ?_ <;> rfl
          rotate_left
          · simp only [Act.put, List.setIfInBounds_toArray, List.set_cons_zero, List.set_cons_succ, i64_w, i32_w]
            rfl
          refine pure_ (i := 9) (N := (some 33)) (v := ?_) (a' := ?_) #[true, true, true, true, true, true, true, true, true, true, false, false, false, false, false, false, false, false, false, false, false, false, false, false, false, false, false] rfl rfl (any_of HT_.out (by kernel_rfl)) (fun _ _ _ h => h) (Or.inl ⟨by rfl, ?_⟩) ?_ ?_
          rotate_left
          · intro w'
            go_simp
            first | with_reducible rfl | (simp; done) | rfl
          rotate_left
          · simp only [Act.put, List.setIfInBounds_toArray, List.set_cons_zero, List.set_cons_succ, i64_w, i32_w]
            rfl
          try rw [hy]
          refine pure_ (i := 10) (N := (some 34)) (v := ?_) (a' := ?_) #[true, true, true, true, true, true, true, true, true, true, true, false, false, false, false, false, false, false, false, false, false, false, false, false, false, false, false] rfl rfl (any_of HT_.out (by kernel_rfl)) (fun _ _ _ h => h) (Or.inl ⟨by rfl, ?_⟩) ?_ ?_
          rotate_left
          · intro w'
            go_simp
            first | with_reducible rfl | (simp; done) | rfl
          rotate_left
          · simp only [Act.put, List.setIfInBounds_toArray, List.set_cons_zero, List.set_cons_succ, i64_w, i32_w]
            rfl
          refine pure_ (i := 11) (N := (some 35)) (v := ?_) (a' := ?_) #[true, true, true, true, true, true, true, true, true, true, true, true, false, false, false, false, false, false, false, false, false, false, false, false, false, false, false] rfl rfl (any_of HT_.out (by kernel_rfl)) (fun _ _ _ h => h) (Or.inl ⟨by rfl, ?_⟩) ?_ ?_
          rotate_left
          · intro w'
            go_simp
            first | with_reducible rfl | (simp; done) | rfl
          rotate_left
          · simp only [Act.put, List.setIfInBounds_toArray, List.set_cons_zero, List.set_cons_succ, i64_w, i32_w]
            rfl
          refine pure_ (i := 12) (N := (some 36)) (v := ?_) (a' := ?_) #[true, true, true, true, true, true, true, true, true, true, true, true, true, false, false, false, false, false, false, false, false, false, false, false, false, false, false] rfl rfl (any_of HT_.out (by kernel_rfl)) (fun _ _ _ h => h) (Or.inl ⟨by rfl, ?_⟩) ?_ ?_
          rotate_left
          · intro w'
            go_simp
            first | with_reducible rfl | (simp; done) | rfl
          rotate_left
          · simp only [Act.put, List.setIfInBounds_toArray, List.set_cons_zero, List.set_cons_succ, i64_w, i32_w]
            rfl
          refine pure_ (i := 13) (N := (some 37)) (v := ?_) (a' := ?_) #[true, true, true, true, true, true, true, true, true, true, true, true, true, true, false, false, false, false, false, false, false, false, false, false, false, false, false] rfl rfl (any_of HT_.out (by kernel_rfl)) (fun _ _ _ h => h) (Or.inl ⟨by rfl, ?_⟩) ?_ ?_
          rotate_left
          · intro w'
            go_simp
            first | with_reducible rfl | (simp; done) | rfl
          rotate_left
          · simp only [Act.put, List.setIfInBounds_toArray, List.set_cons_zero, List.set_cons_succ, i64_w, i32_w]
            rfl
          refine take_ (i := 14) (N := (some 38)) (v := .bool false) (a' := ?_) #[true, true, true, true, true, true, true, true, true, true, true, true, true, true, true, false, false, false, false, false, false, false, false, false, false, false, false] rfl rfl (take_ofW HT_.out HW_.out (by kernel_rfl)) (fun _ _ _ h => h) (Or.inl ⟨by rfl, ?_⟩) hHeld ?_ ?_
          · rintro w' ⟨s7, sc⟩
            refine op_load (x := .tmp 37) (load_cell (k := 0) Tryd.underlying4 rfl s7 IG.out) ?_ ?_ <;> rfl
          rotate_left
          · simp only [Act.put, List.setIfInBounds_toArray, List.set_cons_zero, List.set_cons_succ, i64_w, i32_w]
            rfl
          refine pure_ (i := 15) (N := (some 39)) (v := ?_) (a' := ?_) #[true, true, true, true, true, true, true, true, true, true, true, true, true, true, true, true, false, false, false, false, false, false, false, false, false, false, false] rfl rfl (any_of HT_.out (by kernel_rfl)) (fun _ _ _ h => h) (Or.inl ⟨by rfl, ?_⟩) ?_ ?_
          rotate_left
          · intro w'
            go_simp
            first | with_reducible rfl | (simp; done) | rfl
          rotate_left
          · simp only [Act.put, List.setIfInBounds_toArray, List.set_cons_zero, List.set_cons_succ, i64_w, i32_w]
            rfl
          refine pure_ (i := 16) (N := (some 40)) (v := ?_) (a' := ?_) #[true, true, true, true, true, true, true, true, true, true, true, true, true, true, true, true, true, false, false, false, false, false, false, false, false, false, false] rfl rfl (any_of HT_.out (by kernel_rfl)) (fun _ _ _ h => h) (Or.inl ⟨by rfl, ?_⟩) ?_ ?_
          rotate_left
          · intro w'
            go_simp
            first | with_reducible rfl | (simp; done) | rfl
          rotate_left
          · simp only [Act.put, List.setIfInBounds_toArray, List.set_cons_zero, List.set_cons_succ, i64_w, i32_w]
            rfl
          refine pure_ (i := 17) (N := (some 41)) (v := ?_) (a' := ?_) #[true, true, true, true, true, true, true, true, true, true, true, true, true, true, true, true, true, true, false, false, false, false, false, false, false, false, false] rfl rfl (any_of HT_.out (by kernel_rfl)) (fun _ _ _ h => h) (Or.inl ⟨by rfl, ?_⟩) ?_ ?_
          rotate_left
          · intro w'
            go_simp
            first | with_reducible rfl | (simp; done) | rfl
          rotate_left
          · simp only [Act.put, List.setIfInBounds_toArray, List.set_cons_zero, List.set_cons_succ, i64_w, i32_w]
            rfl
          refine pure_ (i := 18) (N := (some 42)) (v := ?_) (a' := ?_) #[true, true, true, true, true, true, true, true, true, true, true, true, true, true, true, true, true, true, true, false, false, false, false, false, false, false, false] rfl rfl (any_of HT_.out (by kernel_rfl)) (fun _ _ _ h => h) (Or.inl ⟨by rfl, ?_⟩) ?_ ?_
          rotate_left
          · intro w'
            go_simp
            first | with_reducible rfl | (simp; done) | rfl
          rotate_left
          · simp only [Act.put, List.setIfInBounds_toArray, List.set_cons_zero, List.set_cons_succ, i64_w, i32_w]
            rfl
          refine take_ (i := 19) (N := (some 43)) (v := .int .i64 y) (a' := ?_) #[true, true, true, true, true, true, true, true, true, true, true, true, true, true, true, true, true, true, true, true, false, false, false, false, false, false, false] rfl rfl (take_ofW HT_.out HW_.out (by kernel_rfl)) (fun _ _ _ h => h) (Or.inl ⟨by rfl, ?_⟩) hHeld ?_ ?_
          · rintro w' ⟨s7, sc⟩
            refine op_load (x := .tmp 42) (load_cell (k := 1) Tryd.underlying3 rfl s7 INM.out) ?_ ?_ <;> rfl
          rotate_left
          · simp only [Act.put, List.setIfInBounds_toArray, List.set_cons_zero, List.set_cons_succ, i64_w, i32_w]
            rfl
          refine pure_ (i := 20) (N := (some 44)) (v := ?_) (a' := ?_) #[true, true, true, true, true, true, true, true, true, true, true, true, true, true, true, true, true, true, true, true, true, false, false, false, false, false, false] rfl rfl (any_of HT_.out (by kernel_rfl)) (fun _ _ _ h => h) (Or.inl ⟨by rfl, ?_⟩) ?_ ?_
          rotate_left
          · intro w'
            go_simp
            first | with_reducible rfl | (simp; done) | rfl
          rotate_left
          · simp only [Act.put, List.setIfInBounds_toArray, List.set_cons_zero, List.set_cons_succ, i64_w, i32_w]
            rfl
          refine pure_ (i := 21) (N := (some 45)) (v := ?_) (a' := ?_) #[true, true, true, true, true, true, true, true, true, true, true, true, true, true, true, true, true, true, true, true, true, true, false, false, false, false, false] rfl rfl (any_of HT_.out (by kernel_rfl)) (fun _ _ _ h => h) (Or.inl ⟨by rfl, ?_⟩) ?_ ?_
          rotate_left
          · intro w'
            go_simp
            first | with_reducible rfl | (simp; done) | rfl
          rotate_left
          · simp only [Act.put, List.setIfInBounds_toArray, List.set_cons_zero, List.set_cons_succ, i64_w, i32_w]
            rfl
          refine pure_ (i := 22) (N := (some 46)) (v := ?_) (a' := ?_) #[true, true, true, true, true, true, true, true, true, true, true, true, true, true, true, true, true, true, true, true, true, true, true, false, false, false, false] rfl rfl (any_of HT_.out (by kernel_rfl)) (fun _ _ _ h => h) (Or.inl ⟨by rfl, ?_⟩) ?_ ?_
          rotate_left
          · intro w'
            go_simp
            first | with_reducible rfl | (simp; done) | rfl
          rotate_left
          · simp only [Act.put, List.setIfInBounds_toArray, List.set_cons_zero, List.set_cons_succ, i64_w, i32_w]
            rfl
          refine take_ (i := 23) (N := (some 47)) (v := .int .i64 y) (a' := ?_) #[true, true, true, true, true, true, true, true, true, true, true, true, true, true, true, true, true, true, true, true, true, true, true, true, false, false, false] rfl rfl (take_ofW HT_.out HW_.out (by kernel_rfl)) (fun _ _ _ h => h) (Or.inl ⟨by rfl, ?_⟩) hHeld ?_ ?_
          · rintro w' ⟨s7, sc⟩
            refine op_load (x := .tmp 46) (load_one Tryd.underlying3 rfl sc) ?_ ?_ <;> rfl
          rotate_left
          · simp only [Act.put, List.setIfInBounds_toArray, List.set_cons_zero, List.set_cons_succ, i64_w, i32_w]
            rfl
          refine pure_ (i := 24) (N := (some 48)) (v := ?_) (a' := ?_) #[true, true, true, true, true, true, true, true, true, true, true, true, true, true, true, true, true, true, true, true, true, true, true, true, true, false, false] rfl rfl (any_of HT_.out (by kernel_rfl)) (fun _ _ _ h => h) (Or.inl ⟨by rfl, ?_⟩) ?_ ?_
          rotate_left
          · intro w'
            go_simp
            first | with_reducible rfl | (simp; done) | rfl
          rotate_left
          · simp only [Act.put, List.setIfInBounds_toArray, List.set_cons_zero, List.set_cons_succ, i64_w, i32_w]
            rfl
          refine pure_ (i := 25) (N := (some 49)) (v := ?_) (a' := ?_) #[true, true, true, true, true, true, true, true, true, true, true, true, true, true, true, true, true, true, true, true, true, true, true, true, true, true, false] rfl rfl (any_of HT_.out (by kernel_rfl)) (fun _ _ _ h => h) (Or.inl ⟨by rfl, ?_⟩) ?_ ?_
          rotate_left
          · intro w'
            go_simp
            first | with_reducible rfl | (simp; done) | rfl
          rotate_left
          · simp only [Act.put, List.setIfInBounds_toArray, List.set_cons_zero, List.set_cons_succ, i64_w, i32_w]
            rfl
          refine pure_ (i := 26) (N := (some 50)) (v := ?_) (a' := ?_) #[true, true, true, true, true, true, true, true, true, true, true, true, true, true, true, true, true, true, true, true, true, true, true, true, true, true, true] rfl rfl (any_of HT_.out (by kernel_rfl)) (fun _ _ _ h => h) (Or.inl ⟨by rfl, ?_⟩) ?_ ?_
          rotate_left
          · intro w'
            go_simp
            first | with_reducible rfl | (simp; done) | rfl
          rotate_left
          · simp only [Act.put, List.setIfInBounds_toArray, List.set_cons_zero, List.set_cons_succ, i64_w, i32_w]
            rfl
          refine done_ (done_of HT_.out (by kernel_rfl)) ?_
          go_wp2_with (
            first
            | ((with_reducible refine gate_dst (N := 51) rfl ?_); refine wl_load rfl rfl rfl (load_row Tryd.underlying24 rfl size_tap BK6.out (rfl)) ?_)
            | ((with_reducible refine gate_store (p := 2) rfl ?_); refine row_store rfl size_tap (.tmp 2) (.tmp 51) rfl g2 (#[.slice A' n' c', .bool t'.lost]) (#[.slice A n c, .bool t.lost]) rfl rfl BK2.out (rfl) (rfl) (tap_one _ _ _ _) ?_; intro s51_ bk hoth hbel; have n0 := Aside0.mk bk; have n1 := Aside0.mk ((hoth g6 (fun e => N2_6.out e.symm)).trans BK6.out); have n2 := Aside0.mk ((hoth g7 (fun e => N2_7.out e.symm)).trans BK7.out); have n3 := Aside0.mk (hbel _ _ HB.out G2.out); have n4 := Aside0.mk (io_store IO.out BK2.out (by decide) hoth); clear BK2 BK6 BK7 HB IO; have BK2 := n0; have BK6 := n1; have BK7 := n2; have HB := n3; have IO := n4; clear n0 n1 n2 n3 n4; clear bk hoth hbel))
          exact ⟨⟨k + 1, t', A', n', c', hle, by simp, ⟨HQ.out⟩, BK2, ⟨.inr IO.out⟩, HB⟩, by simp [intOf]; omega⟩
    · obtain rfl : k = m := by omega
      have ht := HT.out
      rw [List.drop_of_length_le (by rw [HWL.out]; omega)] at ht
      unfold pollsP at ht
      rw [hp] at ht
      simp only [decide_eq_true_eq] at ht
      subst ht
      clear hp HT
      go_wp2_with (
        first
        | ((with_reducible refine gate_dst (N := 53) rfl ?_); refine wl_load rfl rfl rfl (load_row Tryd.underlying24 rfl size_tap BK2.out (rfl)) ?_)
        | (go_at_call 9; have HB0 := HB; (with_reducible refine (poll_tp A n c t t' x 6 _ HP.out (KE.out.its HB.out) (GG.out.below GG.out.lt HB.out)).mono ?_); rintro e w81_ ⟨A', n', c', rfl, hio, hwf, hb⟩; have HX := Aside0.mk hwf; have n0 := Aside0.mk (blk_below BK2.out hb); have n1 := Aside0.mk (below_step HB.out hb); have n2 := Aside0.mk (KE.out.below hb); clear BK2 HB KE; have BK2 := n0; have HB := n1; have KE := n2; clear n0 n1 n2; have IO := Aside0.mk (hio.mono (below_size HB0.out)); clear hb)
        | ((with_reducible refine gate_dst (N := 9) rfl ?_); refine box_event ?hg (N := 9) ?hd (cs := #[.slice none 0 0, .bool false]) (t := 24) ?hr ?_; (case hd => rfl); (case hg => rfl); (case hr => first | (go_simp; done) | (go_simp; rfl)); intro g9 hg w82_ hbox hb; have BK9 := Aside0.mk hbox; have G9 := Aside0.mk (show W.heap.size ≤ g9 by rw [hg]; exact below_size HB.out); have N2_9 := Aside0.mk (show g2 ≠ g9 by rw [hg]; exact Nat.ne_of_lt (blk_lt BK2.out)); have n0 := Aside0.mk (blk_below BK2.out hb); have n1 := Aside0.mk (below_step HB.out hb); have n2 := Aside0.mk (IO.out.below hb); clear BK2 HB IO; have BK2 := n0; have HB := n1; have IO := n2; clear n0 n1 n2; clear hb hbox hg)
        | ((with_reducible refine gate_dst (N := 10) rfl ?_); refine box_event ?hg (N := 10) ?hd (cs := ia it0) (t := 32) ?hr ?_; (case hd => rfl); (case hg => rfl); (case hr => first | (go_simp; done) | (go_simp; rfl)); intro g10 hg w83_ hbox hb; have BK10 := Aside0.mk hbox; have G10 := Aside0.mk (show W.heap.size ≤ g10 by rw [hg]; exact below_size HB.out); have N2_10 := Aside0.mk (show g2 ≠ g10 by rw [hg]; exact Nat.ne_of_lt (blk_lt BK2.out)); have N9_10 := Aside0.mk (show g9 ≠ g10 by rw [hg]; exact Nat.ne_of_lt (blk_lt BK9.out)); have NB10 := Aside0.mk (io_ne (g := g10) IO.out hg); have n0 := Aside0.mk (blk_below BK2.out hb); have n1 := Aside0.mk (below_step HB.out hb); have n2 := Aside0.mk (IO.out.below hb); have n3 := Aside0.mk (blk_below BK9.out hb); clear BK2 HB IO BK9; have BK2 := n0; have HB := n1; have IO := n2; have BK9 := n3; clear n0 n1 n2 n3; clear hb hbox hg)
        | ((with_reducible refine gate_store (p := 9) rfl ?_); refine row_store rfl size_tap (.tmp 9) (.tmp 55) rfl g9 (#[.slice A' n' c', .bool t'.lost]) (#[.slice none 0 0, .bool false]) rfl rfl BK9.out (rfl) (rfl) (tap_one _ _ _ _) ?_; intro s84_ bk hoth hbel; have n0 := Aside0.mk ((hoth g2 N2_9.out).trans BK2.out); have n1 := Aside0.mk (hbel _ _ HB.out G9.out); have n2 := Aside0.mk (io_store IO.out BK9.out (by decide) hoth); have n3 := Aside0.mk bk; have n4 := Aside0.mk ((hoth g10 (fun e => N9_10.out e.symm)).trans BK10.out); clear BK2 HB IO BK9 BK10; have BK2 := n0; have HB := n1; have IO := n2; have BK9 := n3; have BK10 := n4; clear n0 n1 n2 n3 n4; clear bk hoth hbel)
        | ((with_reducible refine gate_store (p := 10) rfl ?_); refine row_store rfl size_itm (.tmp 10) (.tmp 56) rfl g10 (ia x) (ia it0) rfl rfl BK10.out (ia_size HX.out) (ia_size hd0_wf) (ia_one _) ?_; intro s85_ bk hoth hbel; have n0 := Aside0.mk ((hoth g2 N2_10.out).trans BK2.out); have n1 := Aside0.mk (hbel _ _ HB.out G10.out); have n2 := Aside0.mk (io_store3 IO.out NB10.out hoth); have n3 := Aside0.mk ((hoth g9 N9_10.out).trans BK9.out); have n4 := Aside0.mk bk; clear BK2 HB IO BK9 BK10; have BK2 := n0; have HB := n1; have IO := n2; have BK9 := n3; have BK10 := n4; clear n0 n1 n2 n3 n4; clear bk hoth hbel))
      go_ret
      exact ⟨rfl, HB.out⟩
end Go.Proofs.YtkkkjidbakmjdaaDoor.Q
