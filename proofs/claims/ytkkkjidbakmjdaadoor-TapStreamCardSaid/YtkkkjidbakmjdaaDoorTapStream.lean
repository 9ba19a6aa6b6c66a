/-
  TapStream of law 23's statements: walk (written by wip/tools/gen_tapstream.py).
-/
import Derived.Test.YtkkkjidbakmjdaaDoorTapStrM
namespace Go.Proofs.YtkkkjidbakmjdaaDoor.Q
open Go.RowKit Go.Proofs.YtkkkjidbakmjdaaDoorW.PrintWords Go.Proofs.YtkkkjidbakmjdaaDoorW.PrintLast Go.Proofs.YtkkkjidbakmjdaaDoorW.PrintMore
set_option linter.unusedVariables false
set_option linter.unusedSimpArgs false
theorem told_le {room : Int} {t : Tp} {told : List Itm} {bits : List Bool} (h : Inv room ⟨t, told, bits⟩) : told.length + (tailP t).length ≤ bits.length := by
  have := congrArg List.length h.eq
  simp only [List.length_append] at this
  have h2 := want_len bits 0 false
  omega
theorem tail_nil {t : Tp} (h : (tailP t).length = 0) : t.its = [] ∧ t.lost = false := by
  obtain ⟨its, lost⟩ := t
  simp only [tailP, List.length_append] at h
  refine ⟨List.eq_nil_of_length_eq_zero (Nat.add_eq_zero_iff.1 h).1, ?_⟩
  have h2 := (Nat.add_eq_zero_iff.1 h).2
  cases lost
  · rfl
  · simp at h2

def strm18_T : Bool × List (List Nat × List Nat) := (true, [([], []), ([], []), ([], []), ([2], [2]), ([0, 1, 3, 3], [0, 1, 3]), ([4], [4]), ([5], [5]), ([5], [5]), ([], []), ([8, 6, 4, 0, 1, 2, 3, 4, 5, 6, 8], [6, 8]), ([7, 9, 0, 1, 2, 3, 4, 5, 6, 7, 8, 9], [7])])
def strm18_B : List Nat := [0, 0, 0, 4, 15, 31, 63, 63, 0, 383, 1023]
theorem strm18_tab : rtab .any (opsOf Tryd.f4 18) = strm18_T := by kernel_rfl
theorem strm18_bits : waitsOk strm18_T.2 strm18_B = true := by kernel_rfl

set_option maxHeartbeats 32000000 in
set_option maxRecDepth 100000 in
theorem tapStream_walk (room : Int) (A0 : Option Addr) (m c0 : Nat) (script : List Bool) (W : World) (hg : GT W) (hlen : script.length = m) (hmx : m ≤ 9223372036854775807) (hnil : A0 = none → m = 0) (hs : ∀ ad, A0 = some ad → Bools W ad script) :
    Calls Tryd.prog 4 #[.int .i64 room, .slice A0 m c0] W fun e W' => e = .returned (.bool true) ∧ Below W.heap.size W W' := by
  have GG := Aside0.mk hg
  have HSC := Aside0.mk hs
  have HNL := Aside0.mk hnil
  have HLN := Aside0.mk hlen
  have HB := Aside0.mk (Below.refl W.heap.size W)
  clear hg hs hnil hlen
  by_cases hr1 : room < 1
  · go_enter Tryd.func4, Tryd.ntmps4
    go_wp2_with (
      first
      | (go_at_call 13; (with_reducible refine (alive23_walk _ (GG.out.below GG.out.lt HB.out)).mono ?_); rintro e w1_ ⟨rfl, hb⟩; have n0 := Aside0.mk (below_step HB.out hb); clear HB; have HB := n0; clear n0; clear hb))
    go_ret
    exact ⟨rfl, HB.out⟩
  by_cases hr2 : 64 < room
  · go_enter Tryd.func4, Tryd.ntmps4
    go_wp2_with (
      first
      | (go_at_call 13; (with_reducible refine (alive23_walk _ (GG.out.below GG.out.lt HB.out)).mono ?_); rintro e w1_ ⟨rfl, hb⟩; have n0 := Aside0.mk (below_step HB.out hb); clear HB; have HB := n0; clear n0; clear hb))
    go_ret
    exact ⟨rfl, HB.out⟩
  by_cases hm1 : 60 < m
  · have hm1' : (60 : Int) < (m : Int) := by omega
    go_enter Tryd.func4, Tryd.ntmps4
    go_wp2_with (
      first
      | (go_at_call 13; (with_reducible refine (alive23_walk _ (GG.out.below GG.out.lt HB.out)).mono ?_); rintro e w1_ ⟨rfl, hb⟩; have n0 := Aside0.mk (below_step HB.out hb); clear HB; have HB := n0; clear n0; clear hb))
    go_ret
    exact ⟨rfl, HB.out⟩
  have hm1' : ¬ (60 : Int) < (m : Int) := by omega
  have hr3 : 1 ≤ room := by omega
  have hr4 : room ≤ 64 := by omega
  have hm2 : m ≤ 60 := by omega
  obtain ⟨i0, hi0, hz0, hz1, hz2⟩ := info_parts info_itm
  go_enter Tryd.func4, Tryd.ntmps4
  go_wp2_with (
    first
    | (go_at_call 13; (with_reducible refine (alive23_walk _ (GG.out.below GG.out.lt HB.out)).mono ?_); rintro e w1_ ⟨rfl, hb⟩; have n0 := Aside0.mk (below_step HB.out hb); clear HB; have HB := n0; clear n0; clear hb)
    | ((with_reducible refine gate_dst (N := 6) rfl ?_); refine box_event ?hg (N := 6) ?hd (cs := #[.slice none 0 0, .bool false]) (t := 24) ?hr ?_; (case hd => rfl); (case hg => rfl); (case hr => first | (go_simp; done) | (go_simp; rfl)); intro g6 hg w2_ hbox hb; have BK6 := Aside0.mk hbox; have G6 := Aside0.mk (show W.heap.size ≤ g6 by rw [hg]; exact below_size HB.out); have n0 := Aside0.mk (below_step HB.out hb); clear HB; have HB := n0; clear n0; clear hb hbox hg)
    | ((with_reducible refine gate_dst (N := 40) rfl ?_); refine wl_make_bools rfl (m + 1) (by omega) (.tmp 39) rfl rfl ?_; intro g8 hg w3_ hbox hb; have BK8 := Aside0.mk hbox; have G8 := Aside0.mk (show W.heap.size ≤ g8 by rw [hg]; exact below_size HB.out); have N6_8 := Aside0.mk (show g6 ≠ g8 by rw [hg]; exact Nat.ne_of_lt (blk_lt BK6.out)); have n0 := Aside0.mk (below_step HB.out hb); have n1 := Aside0.mk (blk_below BK6.out hb); clear HB BK6; have HB := n0; have BK6 := n1; clear n0 n1; clear hb hbox hg))
  go_loopw [7, 9, 10] (fun v y z wr => ∃ (k q : Nat) (t : Tp) (told : List Itm) (bits : List Bool) (A : Option Addr) (n c : Nat), k ≤ m ∧ q ≤ k ∧ y = .int .i64 (q : Int) ∧ z = .int .i64 (k : Int) ∧ Aside0 (bits.length = q) ∧ Aside0 (Inv room ⟨t, told, bits⟩) ∧ Aside0 (Wfs told) ∧ Aside0 (wr.ownsRow W.heap.size 32 101 v told.length (flatI told)) ∧ Aside0 (wr.heap[g6]? = some (.cells #[.slice A n c, .bool t.lost] 24 (0, 0))) ∧ Aside0 (wr.heap[g8]? = some (.cells (lostA (m + 1) bits) 4 (0, 0))) ∧ Aside0 (Kept W wr A n c t.its) ∧ Aside0 (Below W.heap.size W wr)) (fun _ _ z _ => m - (intOf z).toNat)
  case atStart => exact ⟨0, 0, ⟨[], false⟩, [], [], none, 0, 0, by omega, by omega, rfl, rfl, ⟨rfl⟩, ⟨inv_start room hr3⟩, ⟨fun x hx => by cases hx⟩, ⟨own_nil _ _ _ _⟩, BK6, BK8, ⟨.inl (Its.none W)⟩, HB⟩
  case round =>
    obtain ⟨k, q, t, told, bits, A, n, c, hk, hqk, rfl, rfl, HBL, HI, HWF, hot, hb6, hb8, KE, hbB⟩ := hrel
    obtain ⟨At, ct, rfl⟩ := own_slice hot.out
    clear BK6 BK8 HB
    have OT := hot
    have BK6 := hb6
    have BK8 := hb8
    have HB := hbB
    clear hot hb6 hb8 hbB
    by_cases hlt : k < m
    · have hle : k + 1 ≤ m := hlt
      obtain ⟨b, hbk⟩ : ∃ b, script[k]? = some b := ⟨_, List.getElem?_eq_getElem (by rw [HLN.out]; exact hlt)⟩
      obtain ⟨sd, hsd⟩ : ∃ sd, A0 = some sd := by
        cases e : A0 with
        | none => have := HNL.out e; omega
        | some sd => exact ⟨sd, rfl⟩
      have CS := Aside0.mk (HSC.out sd hsd k b hbk)
      have hsx : ∀ X, (Instr.indexAt 43 (.slice A0 m c0) (.int .i64 (k : Int))).run Tryd.prog X = .ok (.pointer (some (sd.add k))) X := fun X => by rw [hsd]; exact idx_bools sd m c0 k hlt X
      have HTL : Aside0 (told.length ≤ 100) := ⟨by have h1 := told_le HI.out; have h2 := HBL.out; omega⟩
      clear hbk hsd
      cases b with
      | false =>
        rcases inv_poll HI.out hr4 hr3 with ⟨t', x, hp, hl2, hi⟩ | ⟨t', x, hp, hl2⟩
        · have HP := Aside0.mk hp
          have HI2 := Aside0.mk hi
          clear hp hi hl2 HI
          go_wp2_with (
            first
            | ((with_reducible refine gate_dst (N := 50) rfl ?_); refine wl_load rfl rfl rfl (load_one Tryd.underlying4 rfl (cell_below CS.out HB.out)) ?_)
            | ((with_reducible refine gate_dst (N := 53) rfl ?_); refine wl_load rfl rfl rfl (load_row Tryd.underlying24 rfl size_tap BK6.out (rfl)) ?_)
            | (go_at_call 9; have OL0 := Aside0.mk (own_lt OT.out); have HBS := Aside0.mk (below_size HB.out); (with_reducible refine (poll_tp A n c t t' x 0 _ HP.out (KE.out.its HB.out) (GG.out.below GG.out.lt HB.out)).mono ?_); rintro e w21_ ⟨A', n', c', rfl, hio, hwf, hb⟩; have HX := Aside0.mk hwf; have n0 := Aside0.mk (blk_below BK6.out hb); have n1 := Aside0.mk (blk_below BK8.out hb); have n2 := Aside0.mk (pw_own_below OT.out hb); have n3 := Aside0.mk (below_step HB.out hb); clear BK6 BK8 OT HB; have BK6 := n0; have BK8 := n1; have OT := n2; have HB := n3; clear n0 n1 n2 n3; have IO := Aside0.mk hio; clear hb)
            | ((with_reducible refine gate_dst (N := 11) rfl ?_); refine box_event ?hg (N := 11) ?hd (cs := #[.slice none 0 0, .bool false]) (t := 24) ?hr ?_; (case hd => rfl); (case hg => rfl); (case hr => first | (go_simp; done) | (go_simp; rfl)); intro g11 hg w22_ hbox hb; have BK11 := Aside0.mk hbox; have G11 := Aside0.mk (show W.heap.size ≤ g11 by rw [hg]; exact below_size HB.out); have N6_11 := Aside0.mk (show g6 ≠ g11 by rw [hg]; exact Nat.ne_of_lt (blk_lt BK6.out)); have N8_11 := Aside0.mk (show g8 ≠ g11 by rw [hg]; exact Nat.ne_of_lt (blk_lt BK8.out)); have n0 := Aside0.mk (blk_below BK6.out hb); have n1 := Aside0.mk (blk_below BK8.out hb); have n2 := Aside0.mk (pw_own_below OT.out hb); have n3 := Aside0.mk (below_step HB.out hb); have n4 := Aside0.mk (IO.out.below hb); clear BK6 BK8 OT HB IO; have BK6 := n0; have BK8 := n1; have OT := n2; have HB := n3; have IO := n4; clear n0 n1 n2 n3 n4; clear hb hbox hg)
            | ((with_reducible refine gate_dst (N := 12) rfl ?_); refine box_event ?hg (N := 12) ?hd (cs := ia it0) (t := 32) ?hr ?_; (case hd => rfl); (case hg => rfl); (case hr => first | (go_simp; done) | (go_simp; rfl)); intro g12 hg w23_ hbox hb; have BK12 := Aside0.mk hbox; have G12 := Aside0.mk (show W.heap.size ≤ g12 by rw [hg]; exact below_size HB.out); have N6_12 := Aside0.mk (show g6 ≠ g12 by rw [hg]; exact Nat.ne_of_lt (blk_lt BK6.out)); have N8_12 := Aside0.mk (show g8 ≠ g12 by rw [hg]; exact Nat.ne_of_lt (blk_lt BK8.out)); have N11_12 := Aside0.mk (show g11 ≠ g12 by rw [hg]; exact Nat.ne_of_lt (blk_lt BK11.out)); have NB12_IO := Aside0.mk (io_ne (g := g12) IO.out hg); have NB12_OT := Aside0.mk (own_ne OT.out hg); have n0 := Aside0.mk (blk_below BK6.out hb); have n1 := Aside0.mk (blk_below BK8.out hb); have n2 := Aside0.mk (pw_own_below OT.out hb); have n3 := Aside0.mk (below_step HB.out hb); have n4 := Aside0.mk (IO.out.below hb); have n5 := Aside0.mk (blk_below BK11.out hb); clear BK6 BK8 OT HB IO BK11; have BK6 := n0; have BK8 := n1; have OT := n2; have HB := n3; have IO := n4; have BK11 := n5; clear n0 n1 n2 n3 n4 n5; clear hb hbox hg)
            | ((with_reducible refine gate_store (p := 11) rfl ?_); refine row_store rfl size_tap (.tmp 11) (.tmp 55) rfl g11 (#[.slice A' n' c', .bool t'.lost]) (#[.slice none 0 0, .bool false]) rfl rfl BK11.out (rfl) (rfl) (tap_one _ _ _ _) ?_; intro s24_ bk hoth hbel; have n0 := Aside0.mk ((hoth g6 N6_11.out).trans BK6.out); have n1 := Aside0.mk ((hoth g8 N8_11.out).trans BK8.out); have n2 := Aside0.mk (own_store OT.out BK11.out (by decide) hoth); have n3 := Aside0.mk (hbel _ _ HB.out G11.out); have n4 := Aside0.mk (io_store IO.out BK11.out (by decide) hoth); have n5 := Aside0.mk bk; have n6 := Aside0.mk ((hoth g12 (fun e => N11_12.out e.symm)).trans BK12.out); clear BK6 BK8 OT HB IO BK11 BK12; have BK6 := n0; have BK8 := n1; have OT := n2; have HB := n3; have IO := n4; have BK11 := n5; have BK12 := n6; clear n0 n1 n2 n3 n4 n5 n6; clear bk hoth hbel)
            | ((with_reducible refine gate_store (p := 12) rfl ?_); refine row_store rfl size_itm (.tmp 12) (.tmp 56) rfl g12 (ia x) (ia it0) rfl rfl BK12.out (ia_size HX.out) (ia_size hd0_wf) (ia_one _) ?_; intro s25_ bk hoth hbel; have n0 := Aside0.mk ((hoth g6 N6_12.out).trans BK6.out); have n1 := Aside0.mk ((hoth g8 N8_12.out).trans BK8.out); have n2 := Aside0.mk (own_store3 OT.out NB12_OT.out hoth); have n3 := Aside0.mk (hbel _ _ HB.out G12.out); have n4 := Aside0.mk (io_store3 IO.out NB12_IO.out hoth); have n5 := Aside0.mk ((hoth g11 N11_12.out).trans BK11.out); have n6 := Aside0.mk bk; clear BK6 BK8 OT HB IO BK11 BK12; have BK6 := n0; have BK8 := n1; have OT := n2; have HB := n3; have IO := n4; have BK11 := n5; have BK12 := n6; clear n0 n1 n2 n3 n4 n5 n6; clear bk hoth hbel)
            | ((with_reducible refine gate_dst (N := 61) rfl ?_); refine wl_load rfl rfl rfl (load_row Tryd.underlying32 rfl size_itm BK12.out (ia_size HX.out)) ?_)
            | ((with_reducible refine gate_dst (N := 62) rfl ?_); refine wl_item rfl x HX.out (.tmp 61) rfl rfl ?_; intro h62 w26_ hli hb; have LB := Aside0.mk hli; have n0 := Aside0.mk (blk_below BK6.out hb); have n1 := Aside0.mk (blk_below BK8.out hb); have n2 := Aside0.mk (pw_own_below OT.out hb); have n3 := Aside0.mk (below_step HB.out hb); have n4 := Aside0.mk (IO.out.below hb); have n5 := Aside0.mk (blk_below BK11.out hb); clear BK6 BK8 OT HB IO BK11; have BK6 := n0; have BK8 := n1; have OT := n2; have HB := n3; have IO := n4; have BK11 := n5; clear n0 n1 n2 n3 n4 n5; clear hb hli)
            | ((with_reducible refine gate_dst (N := 63) rfl ?_); refine wpList_append_own _ rfl (.tmp 60) (.tmp 62) 22 rfl W.heap.size 32 i0 (.agg (ia it0)) 101 136 Tryd.underlying22 hi0 hz0 hz1 hz2 (ia_size hd0_wf) (by decide) _ (told.length) (flatI told) rfl OT.out ⟨h62, 0, none⟩ 1 1 (icl x) rfl (by rw [icl_len HX.out]) (LB.out) (icl_one x) (by have := HTL.out; simp only [maxLen]; omega) (by have := HTL.out; omega) (below_size HB.out) ?_; intro v63 w27_ ho hg _; obtain ⟨A63, c63, rfl⟩ := own_slice ho; have n0 := Aside0.mk (bk_grown BK6.out OT.out hg (by decide)); have n1 := Aside0.mk (bk_grown BK8.out OT.out hg (by decide)); have n2 := Aside0.mk (below_own HB.out (below_size HB.out) OT.out hg); have n3 := Aside0.mk (io_grown IO.out OL0.out hg); have n4 := Aside0.mk (bk_grown BK11.out OT.out hg (by decide)); clear BK6 BK8 HB IO BK11; have BK6 := n0; have BK8 := n1; have HB := n2; have IO := n3; have BK11 := n4; clear n0 n1 n2 n3 n4; clear OT; have OT := Aside0.mk ho; clear ho hg)
            | ((with_reducible refine gate_dst (N := 64) rfl ?_); refine wl_load rfl rfl rfl (load_row Tryd.underlying24 rfl size_tap BK11.out (rfl)) ?_)
            | ((with_reducible refine gate_store (p := 6) rfl ?_); refine row_store rfl size_tap (.tmp 6) (.tmp 64) rfl g6 (#[.slice A' n' c', .bool t'.lost]) (#[.slice A n c, .bool t.lost]) rfl rfl BK6.out (rfl) (rfl) (tap_one _ _ _ _) ?_; intro s28_ bk hoth hbel; have n0 := Aside0.mk bk; have n1 := Aside0.mk ((hoth g8 (fun e => N6_8.out e.symm)).trans BK8.out); have n2 := Aside0.mk (hbel _ _ HB.out G6.out); have n3 := Aside0.mk (io_store IO.out BK6.out (by decide) hoth); have n4 := Aside0.mk ((hoth g11 (fun e => N6_11.out e.symm)).trans BK11.out); have n5 := Aside0.mk (own_store OT.out BK6.out (by decide) hoth); clear BK6 BK8 HB IO BK11 OT; have BK6 := n0; have BK8 := n1; have HB := n2; have IO := n3; have BK11 := n4; have OT := n5; clear n0 n1 n2 n3 n4 n5; clear bk hoth hbel))
          exact ⟨⟨k + 1, q, t', told ++ [x], bits, A', n', c', hle, by omega, rfl, by simp, HBL, ⟨HI2.out⟩, ⟨wfs_snoc HWF.out HX.out⟩, ⟨by rw [List.length_append, ← flat_snoc]; exact OT.out⟩, BK6, BK8, ⟨.inr (IO.out.mono HBS.out)⟩, HB⟩, by simp [intOf]; omega⟩
        · have HP := Aside0.mk hp
          have HIT := Aside0.mk (tail_nil hl2).1
          clear hp hl2
          go_wp2_with (
            first
            | ((with_reducible refine gate_dst (N := 50) rfl ?_); refine wl_load rfl rfl rfl (load_one Tryd.underlying4 rfl (cell_below CS.out HB.out)) ?_)
            | ((with_reducible refine gate_dst (N := 53) rfl ?_); refine wl_load rfl rfl rfl (load_row Tryd.underlying24 rfl size_tap BK6.out (rfl)) ?_)
            | (go_at_call 9; have OL0 := Aside0.mk (own_lt OT.out); have HBS := Aside0.mk (below_size HB.out); (with_reducible refine (poll_tp A n c t t' x 6 _ HP.out (KE.out.its HB.out) (GG.out.below GG.out.lt HB.out)).mono ?_); rintro e w61_ ⟨A', n', c', rfl, hio, hwf, hb⟩; have HX := Aside0.mk hwf; have n0 := Aside0.mk (blk_below BK6.out hb); have n1 := Aside0.mk (blk_below BK8.out hb); have n2 := Aside0.mk (pw_own_below OT.out hb); have n3 := Aside0.mk (below_step HB.out hb); clear BK6 BK8 OT HB; have BK6 := n0; have BK8 := n1; have OT := n2; have HB := n3; clear n0 n1 n2 n3; have IO := Aside0.mk hio; clear hb)
            | ((with_reducible refine gate_dst (N := 11) rfl ?_); refine box_event ?hg (N := 11) ?hd (cs := #[.slice none 0 0, .bool false]) (t := 24) ?hr ?_; (case hd => rfl); (case hg => rfl); (case hr => first | (go_simp; done) | (go_simp; rfl)); intro g11 hg w62_ hbox hb; have BK11 := Aside0.mk hbox; have G11 := Aside0.mk (show W.heap.size ≤ g11 by rw [hg]; exact below_size HB.out); have N6_11 := Aside0.mk (show g6 ≠ g11 by rw [hg]; exact Nat.ne_of_lt (blk_lt BK6.out)); have N8_11 := Aside0.mk (show g8 ≠ g11 by rw [hg]; exact Nat.ne_of_lt (blk_lt BK8.out)); have n0 := Aside0.mk (blk_below BK6.out hb); have n1 := Aside0.mk (blk_below BK8.out hb); have n2 := Aside0.mk (pw_own_below OT.out hb); have n3 := Aside0.mk (below_step HB.out hb); have n4 := Aside0.mk (IO.out.below hb); clear BK6 BK8 OT HB IO; have BK6 := n0; have BK8 := n1; have OT := n2; have HB := n3; have IO := n4; clear n0 n1 n2 n3 n4; clear hb hbox hg)
            | ((with_reducible refine gate_dst (N := 12) rfl ?_); refine box_event ?hg (N := 12) ?hd (cs := ia it0) (t := 32) ?hr ?_; (case hd => rfl); (case hg => rfl); (case hr => first | (go_simp; done) | (go_simp; rfl)); intro g12 hg w63_ hbox hb; have BK12 := Aside0.mk hbox; have G12 := Aside0.mk (show W.heap.size ≤ g12 by rw [hg]; exact below_size HB.out); have N6_12 := Aside0.mk (show g6 ≠ g12 by rw [hg]; exact Nat.ne_of_lt (blk_lt BK6.out)); have N8_12 := Aside0.mk (show g8 ≠ g12 by rw [hg]; exact Nat.ne_of_lt (blk_lt BK8.out)); have N11_12 := Aside0.mk (show g11 ≠ g12 by rw [hg]; exact Nat.ne_of_lt (blk_lt BK11.out)); have NB12_IO := Aside0.mk (io_ne (g := g12) IO.out hg); have NB12_OT := Aside0.mk (own_ne OT.out hg); have n0 := Aside0.mk (blk_below BK6.out hb); have n1 := Aside0.mk (blk_below BK8.out hb); have n2 := Aside0.mk (pw_own_below OT.out hb); have n3 := Aside0.mk (below_step HB.out hb); have n4 := Aside0.mk (IO.out.below hb); have n5 := Aside0.mk (blk_below BK11.out hb); clear BK6 BK8 OT HB IO BK11; have BK6 := n0; have BK8 := n1; have OT := n2; have HB := n3; have IO := n4; have BK11 := n5; clear n0 n1 n2 n3 n4 n5; clear hb hbox hg)
            | ((with_reducible refine gate_store (p := 11) rfl ?_); refine row_store rfl size_tap (.tmp 11) (.tmp 55) rfl g11 (#[.slice A' n' c', .bool t'.lost]) (#[.slice none 0 0, .bool false]) rfl rfl BK11.out (rfl) (rfl) (tap_one _ _ _ _) ?_; intro s64_ bk hoth hbel; have n0 := Aside0.mk ((hoth g6 N6_11.out).trans BK6.out); have n1 := Aside0.mk ((hoth g8 N8_11.out).trans BK8.out); have n2 := Aside0.mk (own_store OT.out BK11.out (by decide) hoth); have n3 := Aside0.mk (hbel _ _ HB.out G11.out); have n4 := Aside0.mk (io_store IO.out BK11.out (by decide) hoth); have n5 := Aside0.mk bk; have n6 := Aside0.mk ((hoth g12 (fun e => N11_12.out e.symm)).trans BK12.out); clear BK6 BK8 OT HB IO BK11 BK12; have BK6 := n0; have BK8 := n1; have OT := n2; have HB := n3; have IO := n4; have BK11 := n5; have BK12 := n6; clear n0 n1 n2 n3 n4 n5 n6; clear bk hoth hbel)
            | ((with_reducible refine gate_store (p := 12) rfl ?_); refine row_store rfl size_itm (.tmp 12) (.tmp 56) rfl g12 (ia x) (ia it0) rfl rfl BK12.out (ia_size HX.out) (ia_size hd0_wf) (ia_one _) ?_; intro s65_ bk hoth hbel; have n0 := Aside0.mk ((hoth g6 N6_12.out).trans BK6.out); have n1 := Aside0.mk ((hoth g8 N8_12.out).trans BK8.out); have n2 := Aside0.mk (own_store3 OT.out NB12_OT.out hoth); have n3 := Aside0.mk (hbel _ _ HB.out G12.out); have n4 := Aside0.mk (io_store3 IO.out NB12_IO.out hoth); have n5 := Aside0.mk ((hoth g11 N11_12.out).trans BK11.out); have n6 := Aside0.mk bk; clear BK6 BK8 OT HB IO BK11 BK12; have BK6 := n0; have BK8 := n1; have OT := n2; have HB := n3; have IO := n4; have BK11 := n5; have BK12 := n6; clear n0 n1 n2 n3 n4 n5 n6; clear bk hoth hbel))
          exact ⟨⟨k + 1, q, t, told, bits, A, n, c, hle, by omega, rfl, by simp, HBL, HI, HWF, OT, BK6, BK8, ⟨by have h1 := KE.out; have h2 : t.its = [] := HIT.out; rw [h2] at h1 ⊢; exact kept_nil h1⟩, HB⟩, by simp [intOf]; omega⟩
      | true =>
        obtain ⟨⟨ui, ul⟩, hp, hul, hge, hi⟩ := inv_push HI.out hr3 hr4 (by have h1 := HBL.out; show bits.length ≤ 1000; omega)
        have HQ : Aside0 (pushP t room (evN (q : Int)) = (⟨ui, ul⟩, 0)) := ⟨by rw [← HBL.out]; exact hp⟩
        have HI2 : Aside0 (Inv room ⟨⟨ui, ul⟩, told, bits ++ [ul]⟩) := ⟨hi⟩
        have HUL : Aside0 ((ui.length : Int) ≤ room) := ⟨hul⟩
        have HGE : Aside0 (ul = true → room - 1 ≤ (t.its.length : Int)) := ⟨hge⟩
        have hq1 : q < m + 1 := by omega
        have hix : ∀ X, (Instr.indexAt 43 (.slice (some ⟨g8, 0, none⟩) (m + 1) (m + 1)) (.int .i64 (q : Int))).run Tryd.prog X = .ok (.pointer (some ⟨g8, q, none⟩)) X := fun X => idx_lost g8 (m + 1) (m + 1) q hq1 X
        have HNT : Aside0 (t.its.length = n) := ⟨(KE.out.its HB.out).len⟩
        clear hp hi hul hge HI
        go_wp2_with (
          first
          | ((with_reducible refine gate_dst (N := 50) rfl ?_); refine wl_load rfl rfl rfl (load_one Tryd.underlying4 rfl (cell_below CS.out HB.out)) ?_))
        have hb : Below wr.heap.size wr wr.drew := below_drew (Below.refl _ _)
        refine start_ (n := 11) (S := fun w' => w'.heap[g6]? = some (.cells #[.slice A n c, .bool t.lost] 24 (0, 0))) (ds := []) #[false, false, false, false, false, false, false, false, false, false, false] (by kernel_rfl) rfl rfl (blk_below BK6.out hb) (fun hHeld => ?_)
        refine with_tabW strm18_tab strm18_bits (fun HT_ HW_ => ?_)
        have n0 := Aside0.mk (blk_below BK6.out hb)
        have n1 := Aside0.mk (blk_below BK8.out hb)
        have n2 := Aside0.mk (pw_own_below OT.out hb)
        have n3 := Aside0.mk (KE.out.below hb)
        have n4 := Aside0.mk (below_step HB.out hb)
        clear BK6 BK8 OT KE HB
        have BK6 := n0
        have BK8 := n1
        have OT := n2
        have KE := n3
        have HB := n4
        clear n0 n1 n2 n3 n4
        clear hb
        generalize wr.drew = wd at BK6 BK8 OT KE HB hHeld ⊢
        refine pure_ (i := 1) (N := (some 69)) (v := ?_) (a' := ?_) #[false, true, false, false, false, false, false, false, false, false, false] rfl rfl (any_of HT_.out (by kernel_rfl)) (fun _ _ _ h => h) (Or.inl ⟨by rfl, ?_⟩) ?_ ?_
        rotate_left
        · intro w'
          go_simp
          first | with_reducible rfl | (simp; done) | rfl
        rotate_left
        · simp only [Act.put, List.setIfInBounds_toArray, List.set_cons_zero, List.set_cons_succ, i64_w, i32_w]
          rfl
        refine pure_ (i := 2) (N := (some 70)) (v := ?_) (a' := ?_) #[false, true, true, false, false, false, false, false, false, false, false] rfl rfl (any_of HT_.out (by kernel_rfl)) (fun _ _ _ h => h) (Or.inl ⟨by rfl, ?_⟩) ?_ ?_
        rotate_left
        · intro w'
          go_simp
          first | with_reducible rfl | (simp; done) | rfl
        rotate_left
        · simp only [Act.put, List.setIfInBounds_toArray, List.set_cons_zero, List.set_cons_succ, i64_w, i32_w]
          rfl
        refine take_ (i := 0) (N := (some 68)) (v := .agg #[.slice A n c, .bool t.lost]) (a' := ?_) #[true, true, true, false, false, false, false, false, false, false, false] rfl rfl (take_ofW HT_.out HW_.out (by kernel_rfl)) (fun _ _ _ h => h) (Or.inl ⟨by rfl, ?_⟩) hHeld ?_ ?_
        · rintro w' s0
          refine op_load (x := .tmp 6) (load_row Tryd.underlying24 rfl size_tap s0 rfl) ?_ ?_ <;> rfl
        rotate_left
        · simp only [Act.put, List.setIfInBounds_toArray, List.set_cons_zero, List.set_cons_succ, i64_w, i32_w]
          rfl
        refine join_ (σ := Nat × Option Addr × Nat × Nat) 2 #[true, true, true, true, true, true, true, true, true, false, false] (fun s => [(71, .agg (ea (evN (q : Int)))), (72, .tuple #[.agg #[.slice s.2.1 s.2.2.1 s.2.2.2, .bool ul], .int .i64 0]), (67, .tuple #[.agg #[.slice s.2.1 s.2.2.1 s.2.2.2, .bool ul], .int .i64 0]), (73, .agg #[.slice s.2.1 s.2.2.1 s.2.2.2, .bool ul]), (74, .int .i64 0), (14, .pointer (some ⟨s.1, 0, none⟩))]) (fun s w' => w'.heap[g6]? = some (.cells #[.slice A n c, .bool t.lost] 24 (0, 0)) ∧ w'.heap[g8]? = some (.cells (lostA (m + 1) bits) 4 (0, 0)) ∧ w'.ownsRow W.heap.size 32 101 (.slice At told.length ct) told.length (flatI told) ∧ Kept W w' A n c t.its ∧ Below W.heap.size W w' ∧ w'.heap[s.1]? = some (.cells #[.slice none 0 0, .bool false] 24 (0, 0)) ∧ W.heap.size ≤ s.1 ∧ g6 ≠ s.1 ∧ g8 ≠ s.1 ∧ ItsO w' W.heap.size s.2.1 s.2.2.1 s.2.2.2 ui) ?_ ?_
        rotate_left
        · intro hcont
          refine two_ (i := 3) (j := 8) #[true, true, true, true, false, false, false, false, false, false, false] #[true, true, true, false, false, false, false, false, true, false, false] rfl rfl rfl rfl (two_of HT_.out (by kernel_rfl)) (by decide) (by decide) (fun K hK => ?_) (fun K hK => ?_)
          · refine goes_ Tryd.func12 (by kernel_rfl) rfl #[.int .i64 (q : Int)] (by rfl) rfl rfl (by (try simp only [List.map_toArray, List.map_cons, List.map_nil]); first | done | rfl) ?_
            with_reducible refine (evn_walk _ _).mono ?_
            rintro e0 v1_ ⟨rfl, hb⟩
            refine ⟨_, rfl, ?_⟩
            have n0 := Aside0.mk (blk_below BK6.out hb)
            have n1 := Aside0.mk (blk_below BK8.out hb)
            have n2 := Aside0.mk (pw_own_below OT.out hb)
            have n3 := Aside0.mk (KE.out.below hb)
            have n4 := Aside0.mk (below_step HB.out hb)
            clear BK6 BK8 OT KE HB
            have BK6 := n0
            have BK8 := n1
            have OT := n2
            have KE := n3
            have HB := n4
            clear n0 n1 n2 n3 n4
            clear hb
            refine hK.out _ _ BK6.out (fun hHeld => ?_)
            clear hK K
            refine norm_ (a' := ?_) ?_ ?_
            rotate_left
            · show Act.put _ (some 71) _ = _
              simp only [Act.put, List.setIfInBounds_toArray, List.set_cons_zero, List.set_cons_succ, i64_w, i32_w]
              rfl
            refine two_ (i := 4) (j := 8) #[true, true, true, true, true, false, false, false, false, false, false] #[true, true, true, true, false, false, false, false, true, false, false] rfl rfl rfl rfl (two_of HT_.out (by kernel_rfl)) (by decide) (by decide) (fun K hK => ?_) (fun K hK => ?_)
            · refine goes_ Tryd.func11 (by kernel_rfl) rfl #[.agg #[.slice A n c, .bool t.lost], .int .i64 room, .agg (ea (evN (q : Int)))] (by rfl) rfl rfl (by (try simp only [List.map_toArray, List.map_cons, List.map_nil]); first | done | rfl) ?_
              with_reducible refine (push_to A n c t ⟨ui, ul⟩ room 0 (evN (q : Int)) _ HQ.out (KE.out.its HB.out) (GG.out.below GG.out.lt HB.out) (evn_wf _)).mono ?_
              rintro e0 v2_ ⟨A', n', c', rfl, hio, hb⟩
              refine ⟨_, rfl, ?_⟩
              have hin := Aside0.mk (hio.mono (below_size HB.out))
              have n0 := Aside0.mk (blk_below BK6.out hb)
              have n1 := Aside0.mk (blk_below BK8.out hb)
              have n2 := Aside0.mk (pw_own_below OT.out hb)
              have n3 := Aside0.mk (KE.out.below hb)
              have n4 := Aside0.mk (below_step HB.out hb)
              clear BK6 BK8 OT KE HB
              have BK6 := n0
              have BK8 := n1
              have OT := n2
              have KE := n3
              have HB := n4
              clear n0 n1 n2 n3 n4
              have IN := hin
              clear hin hio hb
              refine hK.out _ _ BK6.out (fun hHeld => ?_)
              clear hK K
              refine norm_ (a' := ?_) ?_ ?_
              rotate_left
              · show Act.put _ (some 72) _ = _
                simp only [Act.put, List.setIfInBounds_toArray, List.set_cons_zero, List.set_cons_succ, i64_w, i32_w]
                rfl
              refine pure_ (i := 5) (N := (some 67)) (v := ?_) (a' := ?_) #[true, true, true, true, true, true, false, false, false, false, false] rfl rfl (any_of HT_.out (by kernel_rfl)) (fun _ _ _ h => h) (Or.inl ⟨by rfl, ?_⟩) ?_ ?_
              rotate_left
              · intro w'
                go_simp
                first | with_reducible rfl | (simp; done) | rfl
              rotate_left
              · simp only [Act.put, List.setIfInBounds_toArray, List.set_cons_zero, List.set_cons_succ, i64_w, i32_w]
                rfl
              refine pure_ (i := 6) (N := (some 73)) (v := ?_) (a' := ?_) #[true, true, true, true, true, true, true, false, false, false, false] rfl rfl (any_of HT_.out (by kernel_rfl)) (fun _ _ _ h => h) (Or.inl ⟨by rfl, ?_⟩) ?_ ?_
              rotate_left
              · intro w'
                go_simp
                first | with_reducible rfl | (simp; done) | rfl
              rotate_left
              · simp only [Act.put, List.setIfInBounds_toArray, List.set_cons_zero, List.set_cons_succ, i64_w, i32_w]
                rfl
              refine pure_ (i := 7) (N := (some 74)) (v := ?_) (a' := ?_) #[true, true, true, true, true, true, true, true, false, false, false] rfl rfl (any_of HT_.out (by kernel_rfl)) (fun _ _ _ h => h) (Or.inl ⟨by rfl, ?_⟩) ?_ ?_
              rotate_left
              · intro w'
                go_simp
                first | with_reducible rfl | (simp; done) | rfl
              rotate_left
              · simp only [Act.put, List.setIfInBounds_toArray, List.set_cons_zero, List.set_cons_succ, i64_w, i32_w]
                rfl
              refine one_ (i := 8) (N := some 14) #[true, true, true, true, true, true, true, true, true, false, false] rfl rfl (one_of HT_.out (by kernel_rfl)) (by decide) (fun K hK => ?_)
              refine value_ (v := .pointer (some ⟨v2_.heap.size, 0, none⟩)) (w1 := v2_.alloc (.cells #[.slice none 0 0, .bool false] 24)) (by rfl) rfl ?_ ?_
              · go_simp
                first | done | rfl
              obtain ⟨g14, hg⟩ : ∃ g, v2_.heap.size = g := ⟨_, rfl⟩
              have hb := below_new v2_ (.cells #[.slice none 0 0, .bool false] 24)
              have hk := blk_new v2_ (.cells #[.slice none 0 0, .bool false] 24)
              have G14 := Aside0.mk (show W.heap.size ≤ g14 by rw [← hg]; exact below_size HB.out)
              have N6_14 := Aside0.mk (show g6 ≠ g14 by rw [← hg]; exact Nat.ne_of_lt (blk_lt BK6.out))
              have N8_14 := Aside0.mk (show g8 ≠ g14 by rw [← hg]; exact Nat.ne_of_lt (blk_lt BK8.out))
              generalize v2_.alloc (.cells #[.slice none 0 0, .bool false] 24) = v3_ at hb hk ⊢
              have n0 := Aside0.mk (blk_below BK6.out hb)
              have n1 := Aside0.mk (blk_below BK8.out hb)
              have n2 := Aside0.mk (pw_own_below OT.out hb)
              have n3 := Aside0.mk (KE.out.below hb)
              have n4 := Aside0.mk (below_step HB.out hb)
              have n5 := Aside0.mk (IN.out.below hb)
              clear BK6 BK8 OT KE HB IN
              have BK6 := n0
              have BK8 := n1
              have OT := n2
              have KE := n3
              have HB := n4
              have IN := n5
              clear n0 n1 n2 n3 n4 n5
              clear hb
              rw [hg] at hk ⊢
              have BK14 := Aside0.mk hk
              clear hk hg
              refine hK.out _ _ BK6.out (fun hHeld => ?_)
              clear hK K
              refine norm_ (a' := ?_) ?_ ?_
              rotate_left
              · show Act.put _ (some 14) _ = _
                simp only [Act.put, List.setIfInBounds_toArray, List.set_cons_zero, List.set_cons_succ, i64_w, i32_w]
                rfl
              have hz := hcont (g14, A', n', c') _ ⟨BK6.out, BK8.out, OT.out, KE.out, HB.out, BK14.out, G14.out, N6_14.out, N8_14.out, IN.out⟩
              simp only [putAll, Act.put, List.setIfInBounds_toArray, List.set_cons_zero, List.set_cons_succ, i64_w, i32_w] at hz
              exact hz
            · refine value_ (v := .pointer (some ⟨v1_.heap.size, 0, none⟩)) (w1 := v1_.alloc (.cells #[.slice none 0 0, .bool false] 24)) (by rfl) rfl ?_ ?_
              · go_simp
                first | done | rfl
              obtain ⟨g14, hg⟩ : ∃ g, v1_.heap.size = g := ⟨_, rfl⟩
              have hb := below_new v1_ (.cells #[.slice none 0 0, .bool false] 24)
              have hk := blk_new v1_ (.cells #[.slice none 0 0, .bool false] 24)
              have G14 := Aside0.mk (show W.heap.size ≤ g14 by rw [← hg]; exact below_size HB.out)
              have N6_14 := Aside0.mk (show g6 ≠ g14 by rw [← hg]; exact Nat.ne_of_lt (blk_lt BK6.out))
              have N8_14 := Aside0.mk (show g8 ≠ g14 by rw [← hg]; exact Nat.ne_of_lt (blk_lt BK8.out))
              generalize v1_.alloc (.cells #[.slice none 0 0, .bool false] 24) = v4_ at hb hk ⊢
              have n0 := Aside0.mk (blk_below BK6.out hb)
              have n1 := Aside0.mk (blk_below BK8.out hb)
              have n2 := Aside0.mk (pw_own_below OT.out hb)
              have n3 := Aside0.mk (KE.out.below hb)
              have n4 := Aside0.mk (below_step HB.out hb)
              clear BK6 BK8 OT KE HB
              have BK6 := n0
              have BK8 := n1
              have OT := n2
              have KE := n3
              have HB := n4
              clear n0 n1 n2 n3 n4
              clear hb
              rw [hg] at hk ⊢
              have BK14 := Aside0.mk hk
              clear hk hg
              refine hK.out _ _ BK6.out (fun hHeld => ?_)
              clear hK K
              refine norm_ (a' := ?_) ?_ ?_
              rotate_left
              · show Act.put _ (some 14) _ = _
                simp only [Act.put, List.setIfInBounds_toArray, List.set_cons_zero, List.set_cons_succ, i64_w, i32_w]
                rfl
              refine one_ (i := 4) (N := some 72) #[true, true, true, true, true, false, false, false, true, false, false] rfl rfl (one_of HT_.out (by kernel_rfl)) (by decide) (fun K hK => ?_)
              refine goes_ Tryd.func11 (by kernel_rfl) rfl #[.agg #[.slice A n c, .bool t.lost], .int .i64 room, .agg (ea (evN (q : Int)))] (by rfl) rfl rfl (by (try simp only [List.map_toArray, List.map_cons, List.map_nil]); first | done | rfl) ?_
              with_reducible refine (push_to A n c t ⟨ui, ul⟩ room 0 (evN (q : Int)) _ HQ.out (KE.out.its HB.out) (GG.out.below GG.out.lt HB.out) (evn_wf _)).mono ?_
              rintro e0 v5_ ⟨A', n', c', rfl, hio, hb⟩
              refine ⟨_, rfl, ?_⟩
              have hin := Aside0.mk (hio.mono (below_size HB.out))
              have n0 := Aside0.mk (blk_below BK6.out hb)
              have n1 := Aside0.mk (blk_below BK8.out hb)
              have n2 := Aside0.mk (pw_own_below OT.out hb)
              have n3 := Aside0.mk (KE.out.below hb)
              have n4 := Aside0.mk (below_step HB.out hb)
              have n5 := Aside0.mk (blk_below BK14.out hb)
              clear BK6 BK8 OT KE HB BK14
              have BK6 := n0
              have BK8 := n1
              have OT := n2
              have KE := n3
              have HB := n4
              have BK14 := n5
              clear n0 n1 n2 n3 n4 n5
              have IN := hin
              clear hin hio hb
              refine hK.out _ _ BK6.out (fun hHeld => ?_)
              clear hK K
              refine norm_ (a' := ?_) ?_ ?_
              rotate_left
              · show Act.put _ (some 72) _ = _
                simp only [Act.put, List.setIfInBounds_toArray, List.set_cons_zero, List.set_cons_succ, i64_w, i32_w]
                rfl
              refine pure_ (i := 5) (N := (some 67)) (v := ?_) (a' := ?_) #[true, true, true, true, true, true, false, false, true, false, false] rfl rfl (any_of HT_.out (by kernel_rfl)) (fun _ _ _ h => h) (Or.inl ⟨by rfl, ?_⟩) ?_ ?_
              rotate_left
              · intro w'
                go_simp
                first | with_reducible rfl | (simp; done) | rfl
              rotate_left
              · simp only [Act.put, List.setIfInBounds_toArray, List.set_cons_zero, List.set_cons_succ, i64_w, i32_w]
                rfl
              refine pure_ (i := 6) (N := (some 73)) (v := ?_) (a' := ?_) #[true, true, true, true, true, true, true, false, true, false, false] rfl rfl (any_of HT_.out (by kernel_rfl)) (fun _ _ _ h => h) (Or.inl ⟨by rfl, ?_⟩) ?_ ?_
              rotate_left
              · intro w'
                go_simp
                first | with_reducible rfl | (simp; done) | rfl
              rotate_left
              · simp only [Act.put, List.setIfInBounds_toArray, List.set_cons_zero, List.set_cons_succ, i64_w, i32_w]
                rfl
              refine pure_ (i := 7) (N := (some 74)) (v := ?_) (a' := ?_) #[true, true, true, true, true, true, true, true, true, false, false] rfl rfl (any_of HT_.out (by kernel_rfl)) (fun _ _ _ h => h) (Or.inl ⟨by rfl, ?_⟩) ?_ ?_
              rotate_left
              · intro w'
                go_simp
                first | with_reducible rfl | (simp; done) | rfl
              rotate_left
              · simp only [Act.put, List.setIfInBounds_toArray, List.set_cons_zero, List.set_cons_succ, i64_w, i32_w]
                rfl
              have hz := hcont (g14, A', n', c') _ ⟨BK6.out, BK8.out, OT.out, KE.out, HB.out, BK14.out, G14.out, N6_14.out, N8_14.out, IN.out⟩
              simp only [putAll, Act.put, List.setIfInBounds_toArray, List.set_cons_zero, List.set_cons_succ, i64_w, i32_w] at hz
              exact hz
          · refine value_ (v := .pointer (some ⟨wd.heap.size, 0, none⟩)) (w1 := wd.alloc (.cells #[.slice none 0 0, .bool false] 24)) (by rfl) rfl ?_ ?_
            · go_simp
              first | done | rfl
            obtain ⟨g14, hg⟩ : ∃ g, wd.heap.size = g := ⟨_, rfl⟩
            have hb := below_new wd (.cells #[.slice none 0 0, .bool false] 24)
            have hk := blk_new wd (.cells #[.slice none 0 0, .bool false] 24)
            have G14 := Aside0.mk (show W.heap.size ≤ g14 by rw [← hg]; exact below_size HB.out)
            have N6_14 := Aside0.mk (show g6 ≠ g14 by rw [← hg]; exact Nat.ne_of_lt (blk_lt BK6.out))
            have N8_14 := Aside0.mk (show g8 ≠ g14 by rw [← hg]; exact Nat.ne_of_lt (blk_lt BK8.out))
            generalize wd.alloc (.cells #[.slice none 0 0, .bool false] 24) = v6_ at hb hk ⊢
            have n0 := Aside0.mk (blk_below BK6.out hb)
            have n1 := Aside0.mk (blk_below BK8.out hb)
            have n2 := Aside0.mk (pw_own_below OT.out hb)
            have n3 := Aside0.mk (KE.out.below hb)
            have n4 := Aside0.mk (below_step HB.out hb)
            clear BK6 BK8 OT KE HB
            have BK6 := n0
            have BK8 := n1
            have OT := n2
            have KE := n3
            have HB := n4
            clear n0 n1 n2 n3 n4
            clear hb
            rw [hg] at hk ⊢
            have BK14 := Aside0.mk hk
            clear hk hg
            refine hK.out _ _ BK6.out (fun hHeld => ?_)
            clear hK K
            refine norm_ (a' := ?_) ?_ ?_
            rotate_left
            · show Act.put _ (some 14) _ = _
              simp only [Act.put, List.setIfInBounds_toArray, List.set_cons_zero, List.set_cons_succ, i64_w, i32_w]
              rfl
            refine one_ (i := 3) (N := some 71) #[true, true, true, true, false, false, false, false, true, false, false] rfl rfl (one_of HT_.out (by kernel_rfl)) (by decide) (fun K hK => ?_)
            refine goes_ Tryd.func12 (by kernel_rfl) rfl #[.int .i64 (q : Int)] (by rfl) rfl rfl (by (try simp only [List.map_toArray, List.map_cons, List.map_nil]); first | done | rfl) ?_
            with_reducible refine (evn_walk _ _).mono ?_
            rintro e0 v7_ ⟨rfl, hb⟩
            refine ⟨_, rfl, ?_⟩
            have n0 := Aside0.mk (blk_below BK6.out hb)
            have n1 := Aside0.mk (blk_below BK8.out hb)
            have n2 := Aside0.mk (pw_own_below OT.out hb)
            have n3 := Aside0.mk (KE.out.below hb)
            have n4 := Aside0.mk (below_step HB.out hb)
            have n5 := Aside0.mk (blk_below BK14.out hb)
            clear BK6 BK8 OT KE HB BK14
            have BK6 := n0
            have BK8 := n1
            have OT := n2
            have KE := n3
            have HB := n4
            have BK14 := n5
            clear n0 n1 n2 n3 n4 n5
            clear hb
            refine hK.out _ _ BK6.out (fun hHeld => ?_)
            clear hK K
            refine norm_ (a' := ?_) ?_ ?_
            rotate_left
            · show Act.put _ (some 71) _ = _
              simp only [Act.put, List.setIfInBounds_toArray, List.set_cons_zero, List.set_cons_succ, i64_w, i32_w]
              rfl
            refine one_ (i := 4) (N := some 72) #[true, true, true, true, true, false, false, false, true, false, false] rfl rfl (one_of HT_.out (by kernel_rfl)) (by decide) (fun K hK => ?_)
            refine goes_ Tryd.func11 (by kernel_rfl) rfl #[.agg #[.slice A n c, .bool t.lost], .int .i64 room, .agg (ea (evN (q : Int)))] (by rfl) rfl rfl (by (try simp only [List.map_toArray, List.map_cons, List.map_nil]); first | done | rfl) ?_
            with_reducible refine (push_to A n c t ⟨ui, ul⟩ room 0 (evN (q : Int)) _ HQ.out (KE.out.its HB.out) (GG.out.below GG.out.lt HB.out) (evn_wf _)).mono ?_
            rintro e0 v8_ ⟨A', n', c', rfl, hio, hb⟩
            refine ⟨_, rfl, ?_⟩
            have hin := Aside0.mk (hio.mono (below_size HB.out))
            have n0 := Aside0.mk (blk_below BK6.out hb)
            have n1 := Aside0.mk (blk_below BK8.out hb)
            have n2 := Aside0.mk (pw_own_below OT.out hb)
            have n3 := Aside0.mk (KE.out.below hb)
            have n4 := Aside0.mk (below_step HB.out hb)
            have n5 := Aside0.mk (blk_below BK14.out hb)
            clear BK6 BK8 OT KE HB BK14
            have BK6 := n0
            have BK8 := n1
            have OT := n2
            have KE := n3
            have HB := n4
            have BK14 := n5
            clear n0 n1 n2 n3 n4 n5
            have IN := hin
            clear hin hio hb
            refine hK.out _ _ BK6.out (fun hHeld => ?_)
            clear hK K
            refine norm_ (a' := ?_) ?_ ?_
            rotate_left
            · show Act.put _ (some 72) _ = _
              simp only [Act.put, List.setIfInBounds_toArray, List.set_cons_zero, List.set_cons_succ, i64_w, i32_w]
              rfl
            refine pure_ (i := 5) (N := (some 67)) (v := ?_) (a' := ?_) #[true, true, true, true, true, true, false, false, true, false, false] rfl rfl (any_of HT_.out (by kernel_rfl)) (fun _ _ _ h => h) (Or.inl ⟨by rfl, ?_⟩) ?_ ?_
            rotate_left
            · intro w'
              go_simp
              first | with_reducible rfl | (simp; done) | rfl
            rotate_left
            · simp only [Act.put, List.setIfInBounds_toArray, List.set_cons_zero, List.set_cons_succ, i64_w, i32_w]
              rfl
            refine pure_ (i := 6) (N := (some 73)) (v := ?_) (a' := ?_) #[true, true, true, true, true, true, true, false, true, false, false] rfl rfl (any_of HT_.out (by kernel_rfl)) (fun _ _ _ h => h) (Or.inl ⟨by rfl, ?_⟩) ?_ ?_
            rotate_left
            · intro w'
              go_simp
              first | with_reducible rfl | (simp; done) | rfl
            rotate_left
            · simp only [Act.put, List.setIfInBounds_toArray, List.set_cons_zero, List.set_cons_succ, i64_w, i32_w]
              rfl
            refine pure_ (i := 7) (N := (some 74)) (v := ?_) (a' := ?_) #[true, true, true, true, true, true, true, true, true, false, false] rfl rfl (any_of HT_.out (by kernel_rfl)) (fun _ _ _ h => h) (Or.inl ⟨by rfl, ?_⟩) ?_ ?_
            rotate_left
            · intro w'
              go_simp
              first | with_reducible rfl | (simp; done) | rfl
            rotate_left
            · simp only [Act.put, List.setIfInBounds_toArray, List.set_cons_zero, List.set_cons_succ, i64_w, i32_w]
              rfl
            have hz := hcont (g14, A', n', c') _ ⟨BK6.out, BK8.out, OT.out, KE.out, HB.out, BK14.out, G14.out, N6_14.out, N8_14.out, IN.out⟩
            simp only [putAll, Act.put, List.setIfInBounds_toArray, List.set_cons_zero, List.set_cons_succ, i64_w, i32_w] at hz
            exact hz
        · rintro ⟨g14, A', n', c'⟩ wj ⟨h0, h1, h2, h3, h4, h5, h6, h7, h8, h9⟩
          simp only [putAll, Act.put, List.setIfInBounds_toArray, List.set_cons_zero, List.set_cons_succ, i64_w, i32_w]
          clear BK6 BK8 OT KE HB
          have BK6 := Aside0.mk h0
          have BK8 := Aside0.mk h1
          have OT := Aside0.mk h2
          have KE := Aside0.mk h3
          have HB := Aside0.mk h4
          have BK14 := Aside0.mk h5
          have G14 := Aside0.mk h6
          have N6_14 := Aside0.mk h7
          have N8_14 := Aside0.mk h8
          have IN := Aside0.mk h9
          clear h0 h1 h2 h3 h4 h5 h6 h7 h8 h9
          refine one_ (i := 9) (N := none) #[true, true, true, true, true, true, true, true, true, true, false] rfl rfl (one_of HT_.out (by kernel_rfl)) (by decide) (fun K hK => ?_)
          rw [if_pos (by rfl)]
          refine wp_store_row 24 (.tmp 14) (.tmp 73) rfl g14 (#[.slice A' n' c', .bool ul]) rfl rfl 24 (#[.slice none 0 0, .bool false]) BK14.out size_tap rfl (tap_one _ _ _ _) ?_
          obtain ⟨wk, hwe⟩ : ∃ w', World.setRow wj g14 (#[.slice A' n' c', .bool ul]) = w' := ⟨_, rfl⟩
          have hoth : ∀ k, k ≠ g14 → wk.heap[k]? = wj.heap[k]? := fun k hk => by rw [← hwe]; exact setRow_other wj g14 k _ hk
          have n0 := Aside0.mk ((hoth g6 (N6_14.out)).trans BK6.out)
          have n1 := Aside0.mk ((hoth g8 (N8_14.out)).trans BK8.out)
          have n2 := Aside0.mk (own_store OT.out BK14.out (by decide) hoth)
          have n3 := Aside0.mk (KE.out.store BK14.out (by decide) hoth)
          have n4 := Aside0.mk (show Below W.heap.size W wk by rw [← hwe]; exact below_setRow HB.out G14.out (#[.slice A' n' c', .bool ul]))
          have n5 := Aside0.mk (show wk.heap[g14]? = some (.cells (#[.slice A' n' c', .bool ul]) 24 (0, 0)) by rw [← hwe]; exact setRow_heap _ g14 _ _ _ _ BK14.out)
          have n6 := Aside0.mk (io_store IN.out BK14.out (by decide) hoth)
          clear BK6 BK8 OT KE HB BK14 IN
          have BK6 := n0
          have BK8 := n1
          have OT := n2
          have KE := n3
          have HB := n4
          have BK14 := n5
          have IN := n6
          clear n0 n1 n2 n3 n4 n5 n6
          rw [hwe]
          clear hwe hoth
          refine hK.out _ _ BK6.out (fun hHeld => ?_)
          clear hK K
          refine pure_ (i := 10) (N := (some 15)) (v := ?_) (a' := ?_) #[true, true, true, true, true, true, true, true, true, true, true] rfl rfl (any_of HT_.out (by kernel_rfl)) (fun _ _ _ h => h) (Or.inl ⟨by rfl, ?_⟩) ?_ ?_
          rotate_left
          · intro w'
            go_simp
            first | with_reducible rfl | (simp; done) | rfl
          rotate_left
          · simp only [Act.put, List.setIfInBounds_toArray, List.set_cons_zero, List.set_cons_succ, i64_w, i32_w]
            rfl
          refine done_ (done_of HT_.out (by kernel_rfl)) ?_
          have hn' : ¬ room < (n' : Int) := by have h1 := HUL.out; have h2 : ui.length = n' := IN.out.1.len; omega
          have HBL2 : Aside0 ((bits ++ [ul]).length = q + 1) := ⟨by rw [List.length_append, HBL.out]; rfl⟩
          have hn1 : ul = true → ¬ (n : Int) < room - 1 := fun h => by have h1 := HGE.out h; have h2 := HNT.out; omega
          have HLS := Aside0.mk (lost_set ul HBL.out hq1)
          cases ul with
          | true =>
            have hn2 := hn1 rfl
            clear hn1
            go_wp2_with (
              first
              | ((with_reducible refine gate_dst (N := 79) rfl ?_); refine gate_guard (by rfl) ?_; refine wl_load rfl rfl rfl (load_cell (k := 0) Tryd.underlying22 rfl BK14.out rfl) ?_)
              | ((with_reducible refine gate_dst (N := 87) rfl ?_); refine wl_load rfl rfl rfl (load_cell (k := 1) Tryd.underlying4 rfl BK14.out rfl) ?_)
              | ((with_reducible refine gate_store (p := 88) rfl ?_); refine cell_store rfl (.tmp 88) (.tmp 87) rfl g8 q (.bool true) (lostA (m + 1) bits) (lostA (m + 1) (bits ++ [true])) rfl rfl BK8.out rfl rfl HLS.out ?_; intro s101_ bk hoth hbel; have n0 := Aside0.mk ((hoth g6 N6_8.out).trans BK6.out); have n1 := Aside0.mk bk; have n2 := Aside0.mk (own_store OT.out BK8.out (by decide) hoth); have n3 := Aside0.mk (hbel _ _ HB.out G8.out); have n4 := Aside0.mk ((hoth g14 (fun e => N8_14.out e.symm)).trans BK14.out); have n5 := Aside0.mk (io_store IN.out BK8.out (by decide) hoth); clear BK6 BK8 OT HB BK14 IN; have BK6 := n0; have BK8 := n1; have OT := n2; have HB := n3; have BK14 := n4; have IN := n5; clear n0 n1 n2 n3 n4 n5; clear bk hoth hbel)
              | ((with_reducible refine gate_dst (N := 90) rfl ?_); refine wl_load rfl rfl rfl (load_cell (k := 1) Tryd.underlying4 rfl BK14.out rfl) ?_)
              | ((with_reducible refine gate_dst (N := 93) rfl ?_); refine gate_guard (by rfl) ?_; refine wl_load rfl rfl rfl (load_cell (k := 0) Tryd.underlying22 rfl BK6.out rfl) ?_)
              | ((with_reducible refine gate_dst (N := 101) rfl ?_); refine wl_load rfl rfl rfl (load_row Tryd.underlying24 rfl size_tap BK14.out (rfl)) ?_)
              | ((with_reducible refine gate_store (p := 6) rfl ?_); refine row_store rfl size_tap (.tmp 6) (.tmp 101) rfl g6 (#[.slice A' n' c', .bool true]) (#[.slice A n c, .bool t.lost]) rfl rfl BK6.out (rfl) (rfl) (tap_one _ _ _ _) ?_; intro s102_ bk hoth hbel; have n0 := Aside0.mk bk; have n1 := Aside0.mk ((hoth g8 (fun e => N6_8.out e.symm)).trans BK8.out); have n2 := Aside0.mk (own_store OT.out BK6.out (by decide) hoth); have n3 := Aside0.mk (hbel _ _ HB.out G6.out); have n4 := Aside0.mk ((hoth g14 (fun e => N6_14.out e.symm)).trans BK14.out); have n5 := Aside0.mk (io_store IN.out BK6.out (by decide) hoth); clear BK6 BK8 OT HB BK14 IN; have BK6 := n0; have BK8 := n1; have OT := n2; have HB := n3; have BK14 := n4; have IN := n5; clear n0 n1 n2 n3 n4 n5; clear bk hoth hbel))
            exact ⟨⟨k + 1, q + 1, ⟨ui, true⟩, told, bits ++ [true], A', n', c', hle, by omega, by simp, by simp, HBL2, HI2, HWF, OT, BK6, BK8, ⟨.inr IN.out⟩, HB⟩, by simp [intOf]; omega⟩
          | false =>
            clear hn1
            go_wp2_with (
              first
              | ((with_reducible refine gate_dst (N := 79) rfl ?_); refine gate_guard (by rfl) ?_; refine wl_load rfl rfl rfl (load_cell (k := 0) Tryd.underlying22 rfl BK14.out rfl) ?_)
              | ((with_reducible refine gate_dst (N := 87) rfl ?_); refine wl_load rfl rfl rfl (load_cell (k := 1) Tryd.underlying4 rfl BK14.out rfl) ?_)
              | ((with_reducible refine gate_store (p := 88) rfl ?_); refine cell_store rfl (.tmp 88) (.tmp 87) rfl g8 q (.bool false) (lostA (m + 1) bits) (lostA (m + 1) (bits ++ [false])) rfl rfl BK8.out rfl rfl HLS.out ?_; intro s101_ bk hoth hbel; have n0 := Aside0.mk ((hoth g6 N6_8.out).trans BK6.out); have n1 := Aside0.mk bk; have n2 := Aside0.mk (own_store OT.out BK8.out (by decide) hoth); have n3 := Aside0.mk (hbel _ _ HB.out G8.out); have n4 := Aside0.mk ((hoth g14 (fun e => N8_14.out e.symm)).trans BK14.out); have n5 := Aside0.mk (io_store IN.out BK8.out (by decide) hoth); clear BK6 BK8 OT HB BK14 IN; have BK6 := n0; have BK8 := n1; have OT := n2; have HB := n3; have BK14 := n4; have IN := n5; clear n0 n1 n2 n3 n4 n5; clear bk hoth hbel)
              | ((with_reducible refine gate_dst (N := 90) rfl ?_); refine wl_load rfl rfl rfl (load_cell (k := 1) Tryd.underlying4 rfl BK14.out rfl) ?_)
              | ((with_reducible refine gate_dst (N := 93) rfl ?_); refine gate_guard (by rfl) ?_; refine wl_load rfl rfl rfl (load_cell (k := 0) Tryd.underlying22 rfl BK6.out rfl) ?_)
              | ((with_reducible refine gate_dst (N := 101) rfl ?_); refine wl_load rfl rfl rfl (load_row Tryd.underlying24 rfl size_tap BK14.out (rfl)) ?_)
              | ((with_reducible refine gate_store (p := 6) rfl ?_); refine row_store rfl size_tap (.tmp 6) (.tmp 101) rfl g6 (#[.slice A' n' c', .bool false]) (#[.slice A n c, .bool t.lost]) rfl rfl BK6.out (rfl) (rfl) (tap_one _ _ _ _) ?_; intro s102_ bk hoth hbel; have n0 := Aside0.mk bk; have n1 := Aside0.mk ((hoth g8 (fun e => N6_8.out e.symm)).trans BK8.out); have n2 := Aside0.mk (own_store OT.out BK6.out (by decide) hoth); have n3 := Aside0.mk (hbel _ _ HB.out G6.out); have n4 := Aside0.mk ((hoth g14 (fun e => N6_14.out e.symm)).trans BK14.out); have n5 := Aside0.mk (io_store IN.out BK6.out (by decide) hoth); clear BK6 BK8 OT HB BK14 IN; have BK6 := n0; have BK8 := n1; have OT := n2; have HB := n3; have BK14 := n4; have IN := n5; clear n0 n1 n2 n3 n4 n5; clear bk hoth hbel))
            exact ⟨⟨k + 1, q + 1, ⟨ui, false⟩, told, bits ++ [false], A', n', c', hle, by omega, by simp, by simp, HBL2, HI2, HWF, OT, BK6, BK8, ⟨.inr IN.out⟩, HB⟩, by simp [intOf]; omega⟩
    · obtain rfl : k = m := by omega
      have HT0 : Aside0 (told.length + (tailP t).length ≤ k) := ⟨by have h1 := told_le HI.out; have h2 := HBL.out; omega⟩
      have HOT0 := OT
      have HWF0 := HWF
      have HI0 := HI
      clear OT HWF HI
      go_wp2
      go_loopw [7, 16] (fun v z wr => ∃ (j : Nat) (t : Tp) (told : List Itm) (A : Option Addr) (n c : Nat), j ≤ k + 1 ∧ z = .int .i64 (j : Int) ∧ Aside0 (Inv room ⟨t, told, bits⟩) ∧ Aside0 ((tailP t).length = 0 ∨ (tailP t).length + j ≤ k) ∧ Aside0 (Wfs told) ∧ Aside0 (wr.ownsRow W.heap.size 32 101 v told.length (flatI told)) ∧ Aside0 (wr.heap[g6]? = some (.cells #[.slice A n c, .bool t.lost] 24 (0, 0))) ∧ Aside0 (wr.heap[g8]? = some (.cells (lostA (k + 1) bits) 4 (0, 0))) ∧ Aside0 (Kept W wr A n c t.its) ∧ Aside0 (Below W.heap.size W wr)) (fun _ z _ => k + 1 - (intOf z).toNat)
      case atStart => exact ⟨0, t, told, A, n, c, by omega, rfl, HI0, ⟨.inr (by have := HT0.out; omega)⟩, HWF0, HOT0, BK6, BK8, KE, HB⟩
      case round =>
        clear HOT0 HWF0 HI0 HT0 KE BK6 BK8 HB
        obtain ⟨j, t, told, A, n, c, hj, rfl, HI, HTL2, HWF, hot, BK6, BK8, KE, HB⟩ := hrel
        obtain ⟨At, ct, rfl⟩ := own_slice hot.out
        have OT := hot
        clear hot
        have HTL : Aside0 (told.length ≤ 100) := ⟨by have h1 := told_le HI.out; have h2 := HBL.out; omega⟩
        by_cases hjt : j < k + 1
        · have hjle : j ≤ k := by omega
          have hjle2 : (j : Int) ≤ (k : Int) := by omega
          rcases inv_poll HI.out hr4 hr3 with ⟨t', x, hp, hl2, hi⟩ | ⟨t', x, hp, hl2⟩
          · have HP := Aside0.mk hp
            have HI2 := Aside0.mk hi
            have HT3 : Aside0 ((tailP t').length = 0 ∨ (tailP t').length + (j + 1) ≤ k) := ⟨by have h1 := HTL2.out; have h2 : (tailP t').length + 1 = (tailP t).length := hl2; omega⟩
            clear hp hi hl2 HI
            go_wp2_with (
              first
              | ((with_reducible refine gate_dst (N := 109) rfl ?_); refine wl_load rfl rfl rfl (load_row Tryd.underlying24 rfl size_tap BK6.out (rfl)) ?_)
              | (go_at_call 9; have OL0 := Aside0.mk (own_lt OT.out); have HBS := Aside0.mk (below_size HB.out); (with_reducible refine (poll_tp A n c t t' x 0 _ HP.out (KE.out.its HB.out) (GG.out.below GG.out.lt HB.out)).mono ?_); rintro e w141_ ⟨A', n', c', rfl, hio, hwf, hb⟩; have HX := Aside0.mk hwf; have n0 := Aside0.mk (blk_below BK6.out hb); have n1 := Aside0.mk (blk_below BK8.out hb); have n2 := Aside0.mk (pw_own_below OT.out hb); have n3 := Aside0.mk (below_step HB.out hb); clear BK6 BK8 OT HB; have BK6 := n0; have BK8 := n1; have OT := n2; have HB := n3; clear n0 n1 n2 n3; have IO := Aside0.mk hio; clear hb)
              | ((with_reducible refine gate_dst (N := 17) rfl ?_); refine box_event ?hg (N := 17) ?hd (cs := #[.slice none 0 0, .bool false]) (t := 24) ?hr ?_; (case hd => rfl); (case hg => rfl); (case hr => first | (go_simp; done) | (go_simp; rfl)); intro g17 hg w142_ hbox hb; have BK17 := Aside0.mk hbox; have G17 := Aside0.mk (show W.heap.size ≤ g17 by rw [hg]; exact below_size HB.out); have N6_17 := Aside0.mk (show g6 ≠ g17 by rw [hg]; exact Nat.ne_of_lt (blk_lt BK6.out)); have N8_17 := Aside0.mk (show g8 ≠ g17 by rw [hg]; exact Nat.ne_of_lt (blk_lt BK8.out)); have n0 := Aside0.mk (blk_below BK6.out hb); have n1 := Aside0.mk (blk_below BK8.out hb); have n2 := Aside0.mk (pw_own_below OT.out hb); have n3 := Aside0.mk (below_step HB.out hb); have n4 := Aside0.mk (IO.out.below hb); clear BK6 BK8 OT HB IO; have BK6 := n0; have BK8 := n1; have OT := n2; have HB := n3; have IO := n4; clear n0 n1 n2 n3 n4; clear hb hbox hg)
              | ((with_reducible refine gate_dst (N := 18) rfl ?_); refine box_event ?hg (N := 18) ?hd (cs := ia it0) (t := 32) ?hr ?_; (case hd => rfl); (case hg => rfl); (case hr => first | (go_simp; done) | (go_simp; rfl)); intro g18 hg w143_ hbox hb; have BK18 := Aside0.mk hbox; have G18 := Aside0.mk (show W.heap.size ≤ g18 by rw [hg]; exact below_size HB.out); have N6_18 := Aside0.mk (show g6 ≠ g18 by rw [hg]; exact Nat.ne_of_lt (blk_lt BK6.out)); have N8_18 := Aside0.mk (show g8 ≠ g18 by rw [hg]; exact Nat.ne_of_lt (blk_lt BK8.out)); have N17_18 := Aside0.mk (show g17 ≠ g18 by rw [hg]; exact Nat.ne_of_lt (blk_lt BK17.out)); have NB18_IO := Aside0.mk (io_ne (g := g18) IO.out hg); have NB18_OT := Aside0.mk (own_ne OT.out hg); have n0 := Aside0.mk (blk_below BK6.out hb); have n1 := Aside0.mk (blk_below BK8.out hb); have n2 := Aside0.mk (pw_own_below OT.out hb); have n3 := Aside0.mk (below_step HB.out hb); have n4 := Aside0.mk (IO.out.below hb); have n5 := Aside0.mk (blk_below BK17.out hb); clear BK6 BK8 OT HB IO BK17; have BK6 := n0; have BK8 := n1; have OT := n2; have HB := n3; have IO := n4; have BK17 := n5; clear n0 n1 n2 n3 n4 n5; clear hb hbox hg)
              | ((with_reducible refine gate_store (p := 17) rfl ?_); refine row_store rfl size_tap (.tmp 17) (.tmp 111) rfl g17 (#[.slice A' n' c', .bool t'.lost]) (#[.slice none 0 0, .bool false]) rfl rfl BK17.out (rfl) (rfl) (tap_one _ _ _ _) ?_; intro s144_ bk hoth hbel; have n0 := Aside0.mk ((hoth g6 N6_17.out).trans BK6.out); have n1 := Aside0.mk ((hoth g8 N8_17.out).trans BK8.out); have n2 := Aside0.mk (own_store OT.out BK17.out (by decide) hoth); have n3 := Aside0.mk (hbel _ _ HB.out G17.out); have n4 := Aside0.mk (io_store IO.out BK17.out (by decide) hoth); have n5 := Aside0.mk bk; have n6 := Aside0.mk ((hoth g18 (fun e => N17_18.out e.symm)).trans BK18.out); clear BK6 BK8 OT HB IO BK17 BK18; have BK6 := n0; have BK8 := n1; have OT := n2; have HB := n3; have IO := n4; have BK17 := n5; have BK18 := n6; clear n0 n1 n2 n3 n4 n5 n6; clear bk hoth hbel)
              | ((with_reducible refine gate_store (p := 18) rfl ?_); refine row_store rfl size_itm (.tmp 18) (.tmp 112) rfl g18 (ia x) (ia it0) rfl rfl BK18.out (ia_size HX.out) (ia_size hd0_wf) (ia_one _) ?_; intro s145_ bk hoth hbel; have n0 := Aside0.mk ((hoth g6 N6_18.out).trans BK6.out); have n1 := Aside0.mk ((hoth g8 N8_18.out).trans BK8.out); have n2 := Aside0.mk (own_store3 OT.out NB18_OT.out hoth); have n3 := Aside0.mk (hbel _ _ HB.out G18.out); have n4 := Aside0.mk (io_store3 IO.out NB18_IO.out hoth); have n5 := Aside0.mk ((hoth g17 N17_18.out).trans BK17.out); have n6 := Aside0.mk bk; clear BK6 BK8 OT HB IO BK17 BK18; have BK6 := n0; have BK8 := n1; have OT := n2; have HB := n3; have IO := n4; have BK17 := n5; have BK18 := n6; clear n0 n1 n2 n3 n4 n5 n6; clear bk hoth hbel)
              | ((with_reducible refine gate_dst (N := 117) rfl ?_); refine wl_load rfl rfl rfl (load_row Tryd.underlying32 rfl size_itm BK18.out (ia_size HX.out)) ?_)
              | ((with_reducible refine gate_dst (N := 118) rfl ?_); refine wl_item rfl x HX.out (.tmp 117) rfl rfl ?_; intro h118 w146_ hli hb; have LB := Aside0.mk hli; have n0 := Aside0.mk (blk_below BK6.out hb); have n1 := Aside0.mk (blk_below BK8.out hb); have n2 := Aside0.mk (pw_own_below OT.out hb); have n3 := Aside0.mk (below_step HB.out hb); have n4 := Aside0.mk (IO.out.below hb); have n5 := Aside0.mk (blk_below BK17.out hb); clear BK6 BK8 OT HB IO BK17; have BK6 := n0; have BK8 := n1; have OT := n2; have HB := n3; have IO := n4; have BK17 := n5; clear n0 n1 n2 n3 n4 n5; clear hb hli)
              | ((with_reducible refine gate_dst (N := 119) rfl ?_); refine wpList_append_own _ rfl (.tmp 116) (.tmp 118) 22 rfl W.heap.size 32 i0 (.agg (ia it0)) 101 136 Tryd.underlying22 hi0 hz0 hz1 hz2 (ia_size hd0_wf) (by decide) _ (told.length) (flatI told) rfl OT.out ⟨h118, 0, none⟩ 1 1 (icl x) rfl (by rw [icl_len HX.out]) (LB.out) (icl_one x) (by have := HTL.out; simp only [maxLen]; omega) (by have := HTL.out; omega) (below_size HB.out) ?_; intro v119 w147_ ho hg _; obtain ⟨A119, c119, rfl⟩ := own_slice ho; have n0 := Aside0.mk (bk_grown BK6.out OT.out hg (by decide)); have n1 := Aside0.mk (bk_grown BK8.out OT.out hg (by decide)); have n2 := Aside0.mk (below_own HB.out (below_size HB.out) OT.out hg); have n3 := Aside0.mk (io_grown IO.out OL0.out hg); have n4 := Aside0.mk (bk_grown BK17.out OT.out hg (by decide)); clear BK6 BK8 HB IO BK17; have BK6 := n0; have BK8 := n1; have HB := n2; have IO := n3; have BK17 := n4; clear n0 n1 n2 n3 n4; clear OT; have OT := Aside0.mk ho; clear ho hg)
              | ((with_reducible refine gate_dst (N := 120) rfl ?_); refine wl_load rfl rfl rfl (load_row Tryd.underlying24 rfl size_tap BK17.out (rfl)) ?_)
              | ((with_reducible refine gate_store (p := 6) rfl ?_); refine row_store rfl size_tap (.tmp 6) (.tmp 120) rfl g6 (#[.slice A' n' c', .bool t'.lost]) (#[.slice A n c, .bool t.lost]) rfl rfl BK6.out (rfl) (rfl) (tap_one _ _ _ _) ?_; intro s148_ bk hoth hbel; have n0 := Aside0.mk bk; have n1 := Aside0.mk ((hoth g8 (fun e => N6_8.out e.symm)).trans BK8.out); have n2 := Aside0.mk (hbel _ _ HB.out G6.out); have n3 := Aside0.mk (io_store IO.out BK6.out (by decide) hoth); have n4 := Aside0.mk ((hoth g17 (fun e => N6_17.out e.symm)).trans BK17.out); have n5 := Aside0.mk (own_store OT.out BK6.out (by decide) hoth); clear BK6 BK8 HB IO BK17 OT; have BK6 := n0; have BK8 := n1; have HB := n2; have IO := n3; have BK17 := n4; have OT := n5; clear n0 n1 n2 n3 n4 n5; clear bk hoth hbel))
            exact ⟨⟨j + 1, t', told ++ [x], A', n', c', by omega, by simp, ⟨HI2.out⟩, HT3, ⟨wfs_snoc HWF.out HX.out⟩, ⟨by rw [List.length_append, ← flat_snoc]; exact OT.out⟩, BK6, BK8, ⟨.inr (IO.out.mono HBS.out)⟩, HB⟩, by simp [intOf]; omega⟩
          · have HP := Aside0.mk hp
            have HIT := Aside0.mk (tail_nil hl2).1
            have HT3 : Aside0 ((tailP t).length = 0 ∨ (tailP t).length + (j + 1) ≤ k) := ⟨.inl hl2⟩
            clear hp hl2
            go_wp2_with (
              first
              | ((with_reducible refine gate_dst (N := 109) rfl ?_); refine wl_load rfl rfl rfl (load_row Tryd.underlying24 rfl size_tap BK6.out (rfl)) ?_)
              | (go_at_call 9; have OL0 := Aside0.mk (own_lt OT.out); have HBS := Aside0.mk (below_size HB.out); (with_reducible refine (poll_tp A n c t t' x 6 _ HP.out (KE.out.its HB.out) (GG.out.below GG.out.lt HB.out)).mono ?_); rintro e w181_ ⟨A', n', c', rfl, hio, hwf, hb⟩; have HX := Aside0.mk hwf; have n0 := Aside0.mk (blk_below BK6.out hb); have n1 := Aside0.mk (blk_below BK8.out hb); have n2 := Aside0.mk (pw_own_below OT.out hb); have n3 := Aside0.mk (below_step HB.out hb); clear BK6 BK8 OT HB; have BK6 := n0; have BK8 := n1; have OT := n2; have HB := n3; clear n0 n1 n2 n3; have IO := Aside0.mk hio; clear hb)
              | ((with_reducible refine gate_dst (N := 17) rfl ?_); refine box_event ?hg (N := 17) ?hd (cs := #[.slice none 0 0, .bool false]) (t := 24) ?hr ?_; (case hd => rfl); (case hg => rfl); (case hr => first | (go_simp; done) | (go_simp; rfl)); intro g17 hg w182_ hbox hb; have BK17 := Aside0.mk hbox; have G17 := Aside0.mk (show W.heap.size ≤ g17 by rw [hg]; exact below_size HB.out); have N6_17 := Aside0.mk (show g6 ≠ g17 by rw [hg]; exact Nat.ne_of_lt (blk_lt BK6.out)); have N8_17 := Aside0.mk (show g8 ≠ g17 by rw [hg]; exact Nat.ne_of_lt (blk_lt BK8.out)); have n0 := Aside0.mk (blk_below BK6.out hb); have n1 := Aside0.mk (blk_below BK8.out hb); have n2 := Aside0.mk (pw_own_below OT.out hb); have n3 := Aside0.mk (below_step HB.out hb); have n4 := Aside0.mk (IO.out.below hb); clear BK6 BK8 OT HB IO; have BK6 := n0; have BK8 := n1; have OT := n2; have HB := n3; have IO := n4; clear n0 n1 n2 n3 n4; clear hb hbox hg)
              | ((with_reducible refine gate_dst (N := 18) rfl ?_); refine box_event ?hg (N := 18) ?hd (cs := ia it0) (t := 32) ?hr ?_; (case hd => rfl); (case hg => rfl); (case hr => first | (go_simp; done) | (go_simp; rfl)); intro g18 hg w183_ hbox hb; have BK18 := Aside0.mk hbox; have G18 := Aside0.mk (show W.heap.size ≤ g18 by rw [hg]; exact below_size HB.out); have N6_18 := Aside0.mk (show g6 ≠ g18 by rw [hg]; exact Nat.ne_of_lt (blk_lt BK6.out)); have N8_18 := Aside0.mk (show g8 ≠ g18 by rw [hg]; exact Nat.ne_of_lt (blk_lt BK8.out)); have N17_18 := Aside0.mk (show g17 ≠ g18 by rw [hg]; exact Nat.ne_of_lt (blk_lt BK17.out)); have NB18_IO := Aside0.mk (io_ne (g := g18) IO.out hg); have NB18_OT := Aside0.mk (own_ne OT.out hg); have n0 := Aside0.mk (blk_below BK6.out hb); have n1 := Aside0.mk (blk_below BK8.out hb); have n2 := Aside0.mk (pw_own_below OT.out hb); have n3 := Aside0.mk (below_step HB.out hb); have n4 := Aside0.mk (IO.out.below hb); have n5 := Aside0.mk (blk_below BK17.out hb); clear BK6 BK8 OT HB IO BK17; have BK6 := n0; have BK8 := n1; have OT := n2; have HB := n3; have IO := n4; have BK17 := n5; clear n0 n1 n2 n3 n4 n5; clear hb hbox hg)
              | ((with_reducible refine gate_store (p := 17) rfl ?_); refine row_store rfl size_tap (.tmp 17) (.tmp 111) rfl g17 (#[.slice A' n' c', .bool t'.lost]) (#[.slice none 0 0, .bool false]) rfl rfl BK17.out (rfl) (rfl) (tap_one _ _ _ _) ?_; intro s184_ bk hoth hbel; have n0 := Aside0.mk ((hoth g6 N6_17.out).trans BK6.out); have n1 := Aside0.mk ((hoth g8 N8_17.out).trans BK8.out); have n2 := Aside0.mk (own_store OT.out BK17.out (by decide) hoth); have n3 := Aside0.mk (hbel _ _ HB.out G17.out); have n4 := Aside0.mk (io_store IO.out BK17.out (by decide) hoth); have n5 := Aside0.mk bk; have n6 := Aside0.mk ((hoth g18 (fun e => N17_18.out e.symm)).trans BK18.out); clear BK6 BK8 OT HB IO BK17 BK18; have BK6 := n0; have BK8 := n1; have OT := n2; have HB := n3; have IO := n4; have BK17 := n5; have BK18 := n6; clear n0 n1 n2 n3 n4 n5 n6; clear bk hoth hbel)
              | ((with_reducible refine gate_store (p := 18) rfl ?_); refine row_store rfl size_itm (.tmp 18) (.tmp 112) rfl g18 (ia x) (ia it0) rfl rfl BK18.out (ia_size HX.out) (ia_size hd0_wf) (ia_one _) ?_; intro s185_ bk hoth hbel; have n0 := Aside0.mk ((hoth g6 N6_18.out).trans BK6.out); have n1 := Aside0.mk ((hoth g8 N8_18.out).trans BK8.out); have n2 := Aside0.mk (own_store3 OT.out NB18_OT.out hoth); have n3 := Aside0.mk (hbel _ _ HB.out G18.out); have n4 := Aside0.mk (io_store3 IO.out NB18_IO.out hoth); have n5 := Aside0.mk ((hoth g17 N17_18.out).trans BK17.out); have n6 := Aside0.mk bk; clear BK6 BK8 OT HB IO BK17 BK18; have BK6 := n0; have BK8 := n1; have OT := n2; have HB := n3; have IO := n4; have BK17 := n5; have BK18 := n6; clear n0 n1 n2 n3 n4 n5 n6; clear bk hoth hbel))
            exact ⟨⟨j + 1, t, told, A, n, c, by omega, by simp, HI, HT3, HWF, OT, BK6, BK8, ⟨by have h1 := KE.out; have h2 : t.its = [] := HIT.out; rw [h2] at h1 ⊢; exact kept_nil h1⟩, HB⟩, by simp [intOf]; omega⟩
        · obtain rfl : j = k + 1 := by omega
          have hjn : ¬ ((k + 1 : Nat) : Int) ≤ (k : Int) := by omega
          have hjn2 : ¬ k + 1 ≤ k := by omega
          have hw : told = wantL bits 0 false := by
            have h1 := HI.out.eq
            have h2 := HTL2.out
            have h3 : tailP t = [] := List.eq_nil_of_length_eq_zero (by omega)
            have h4 : told ++ tailP t = wantL bits 0 false := h1
            rw [h3, List.append_nil] at h4
            exact h4
          obtain ⟨A3, c3, he, hio⟩ := own_its OT.out HWF.out
          obtain ⟨rfl, rfl⟩ : At = A3 ∧ ct = c3 := by injection he with a1 a2 a3; exact ⟨a1, a3⟩
          have HST : Aside0 (∀ w, Below W.heap.size W w → Its w At told.length ct told → Bools w ⟨g8, 0, none⟩ bits → Calls Tryd.prog 16 #[.slice At told.length ct, .slice (some ⟨g8, 0, none⟩) (k + 1) (k + 1), .int .i64 (q : Int)] w fun e W' => e = .returned (.bool true) ∧ Below w.heap.size w W') := ⟨fun w _ h1 h2 => stream_walk At told.length ct told ⟨g8, 0, none⟩ (k + 1) (k + 1) bits q w h1 h2 HBL.out (by omega) (by omega) (by have := HTL.out; omega) hw⟩
          have HIO := Aside0.mk hio
          clear hw he hio
          go_wp2_with (
            first
            | (go_at_call 16; (with_reducible refine (HST.out _ HB.out HIO.out.its (bools_lost BK8.out)).mono ?_); rintro e w300_ ⟨rfl, hb⟩; have n0 := Aside0.mk (below_step HB.out hb); clear HB; have HB := n0; clear n0 hb))
          go_ret
          exact ⟨rfl, HB.out⟩
end Go.Proofs.YtkkkjidbakmjdaaDoor.Q
