/-
  ShaBack answers true: a digest's text tells it, and what is read has that text. This text: the law's walk.
-/
import Derived.Test.YtoaimcobcgomjaaDoorShaEq
namespace Go.Proofs.YtoaimcobcgomjaaDoor.Q
open Go.RowKit Go.Proofs.YtoaimcobcgomjaaDoorW.PrintWords Go.Proofs.YtoaimcobcgomjaaDoorW.PrintLast Go.Proofs.YtoaimcobcgomjaaDoorW.PrintMore
set_option linter.unusedVariables false
set_option linter.unusedSimpArgs false

theorem read_at (s : ByteArray) (rs : List Int) (n : Int) (h : readOf s = (rs, n)) (w : World) :
    Calls Tryd.prog 27 #[.string s] w fun e W' => e = .returned (.tuple #[.agg (arr rs), .int .i64 n]) ∧ Below w.heap.size w W' := by
  have := read_walk s w
  rw [h] at this
  exact this
set_option maxHeartbeats 4000000 in
set_option maxRecDepth 100000 in
theorem back_long (ds : List Int) (s : ByteArray) (d : 200 < (s.size : Int)) (w : World) (hk : KT w) :
    Calls Tryd.prog 8 #[.agg (arr ds), .string s] w fun e w' => e = .returned (.bool true) ∧ Below w.heap.size w w' := by
  have HK := Aside0.mk hk
  have HB := Aside0.mk (Below.refl w.heap.size w)
  clear hk
  go_enter Tryd.func8, Tryd.ntmps8
  go_wp2_with (
    first
    | ((with_reducible refine gate_dst (N := 2) rfl ?_); refine box_event ?hg (N := 2) ?hd (cs := arr ds) (t := 25) ?hr ?_; (case hd => rfl); (case hg => rfl); (case hr => first | (go_simp; done) | (go_simp; rfl));
       intro g2 hg w1 hbox hb; have BK2 := Aside0.mk hbox; have HB1 := Aside0.mk (below_step HB.out hb); clear HB; have HB := HB1; clear HB1 hb hbox hg)
    | (go_at_call 26; (with_reducible refine (alive_walk _ (HK.out.below HK.out.lt HB.out)).mono ?_); rintro e w2 ⟨rfl, hb⟩; have HB1 := Aside0.mk (below_step HB.out hb); clear HB; have HB := HB1; clear HB1 hb))
  go_ret
  exact ⟨rfl, HB.out⟩
set_option maxHeartbeats 4000000 in
set_option maxRecDepth 100000 in
theorem back_good (ds : List Int) (hd : Dig ds) (s : ByteArray) (d : (s.size : Int) ≤ 200) (hs : s.size = 64 ∧ allDig s = true) (w : World) (hk : KT w) :
    Calls Tryd.prog 8 #[.agg (arr ds), .string s] w fun e w' => e = .returned (.bool true) ∧ Below w.heap.size w w' := by
  have HK := Aside0.mk hk
  have HB := Aside0.mk (Below.refl w.heap.size w)
  obtain ⟨rs, hrs⟩ : ∃ rs, curD s 64 = rs := ⟨_, rfl⟩
  have HT : Aside0 ((⟨(hexOf rs).toArray⟩ : ByteArray) = s) := ⟨by rw [← hrs]; exact hex_read s hs⟩
  have HR : Aside0 (readOf s = (rs, 0)) := ⟨by unfold readOf; rw [if_pos hs, hrs]⟩
  have HDR : Aside0 (Dig rs) := ⟨by have := readOf_dig s; rw [HR.out] at this; exact this⟩
  clear hrs
  obtain ⟨tx, htx⟩ : ∃ t : ByteArray, (⟨(hexOf ds).toArray⟩ : ByteArray) = t := ⟨_, rfl⟩
  have HTX := Aside0.mk htx
  have HRX : Aside0 (readOf tx = (ds, 0)) := ⟨by rw [← htx]; exact read_hex ds hd⟩
  have HD := Aside0.mk hd
  have hse : ∀ W, (binOp .eql 25 (.agg (arr ds)) (.agg (arr ds))).run Tryd.prog W = .ok (.bool true) W := fun W => run_eql_same ds hd W
  have heg := eqg_dig
  clear hk htx hs hd
  go_enter Tryd.func8, Tryd.ntmps8
  go_wp2_with (
    first
    | ((with_reducible refine gate_dst (N := 2) rfl ?_); refine box_event ?hg (N := 2) ?hd (cs := arr ds) (t := 25) ?hr ?_; (case hd => rfl); (case hg => rfl); (case hr => first | (go_simp; done) | (go_simp; rfl));
       intro g2 hg w1 hbox hb; have BK2 := Aside0.mk hbox; have G2 := Aside0.mk (show w.heap.size ≤ g2 by rw [hg]; exact below_size HB.out); have HB1 := Aside0.mk (below_step HB.out hb); clear HB ; have HB := HB1; clear HB1 ; clear hb hbox hg)
    | (go_at_call 26; (with_reducible refine (alive_walk _ (HK.out.below HK.out.lt HB.out)).mono ?_); rintro e w2 ⟨rfl, hb⟩; have n0 := Aside0.mk (blk_below BK2.out hb); have HB1 := Aside0.mk (below_step HB.out hb); clear HB BK2; have HB := HB1; have BK2 := n0; clear HB1 n0; clear hb)
    | ((with_reducible refine gate_dst (N := 20) rfl ?_); refine wpList_load_row rfl 25 (.tmp 2) rfl g2 rfl 25 (arr ds) (0, 0) _ BK2.out Tryd.underlying25 rfl (by rw [arr_size, HD.out.1]; exact info_dig) ?_)
    | (go_at_call 28; (with_reducible refine (hex_any ds HD.out tx HTX.out _).mono ?_); rintro e w2 ⟨rfl, hb⟩; have n0 := Aside0.mk (blk_below BK2.out hb); have HB1 := Aside0.mk (below_step HB.out hb); clear HB BK2; have HB := HB1; have BK2 := n0; clear HB1 n0; clear hb)
    | (go_at_call 27; (with_reducible refine (read_at tx ds 0 HRX.out _).mono ?_); rintro e w2 ⟨rfl, hb⟩; have n0 := Aside0.mk (blk_below BK2.out hb); have HB1 := Aside0.mk (below_step HB.out hb); clear HB BK2; have HB := HB1; have BK2 := n0; clear HB1 n0; clear hb)
    | ((with_reducible refine gate_dst (N := 6) rfl ?_); refine box_event ?hg (N := 6) ?hd (cs := arr zeros32) (t := 25) ?hr ?_; (case hd => rfl); (case hg => rfl); (case hr => first | (go_simp; done) | (go_simp; rfl));
       intro g6 hg w1 hbox hb; have BK6 := Aside0.mk hbox; have G6 := Aside0.mk (show w.heap.size ≤ g6 by rw [hg]; exact below_size HB.out); have N2_6 := Aside0.mk (show g2 ≠ g6 by rw [hg]; exact Nat.ne_of_lt (blk_lt BK2.out)); have n0 := Aside0.mk (blk_below BK2.out hb); have HB1 := Aside0.mk (below_step HB.out hb); clear HB BK2; have HB := HB1; have BK2 := n0; clear HB1 n0; clear hb hbox hg)
    | ((with_reducible refine gate_store (p := 6) rfl ?_); refine dig_store rfl (.tmp 6) (.tmp 23) rfl g6 ds zeros32 rfl rfl BK6.out HD.out.1 rfl ?_; intro w3 bk hoth hbel; have nn := Aside0.mk bk; have n0 := Aside0.mk ((hoth g2 N2_6.out).trans BK2.out); have HB1 := Aside0.mk (hbel _ _ HB.out G6.out); clear HB BK2; have HB := HB1; have BK2 := n0; clear HB1 n0; clear BK6; have BK6 := nn; clear nn bk hoth hbel))
  go_wp2_with (
    first
    | (go_at_call 27; (with_reducible refine (read_at s rs 0 HR.out _).mono ?_); rintro e w2 ⟨rfl, hb⟩; have n0 := Aside0.mk (blk_below BK2.out hb); have n1 := Aside0.mk (blk_below BK6.out hb); have HB1 := Aside0.mk (below_step HB.out hb); clear HB BK2 BK6; have HB := HB1; have BK2 := n0; have BK6 := n1; clear HB1 n0 n1; clear hb)
    | ((with_reducible refine gate_dst (N := 8) rfl ?_); refine box_event ?hg (N := 8) ?hd (cs := arr zeros32) (t := 25) ?hr ?_; (case hd => rfl); (case hg => rfl); (case hr => first | (go_simp; done) | (go_simp; rfl));
       intro g8 hg w1 hbox hb; have BK8 := Aside0.mk hbox; have G8 := Aside0.mk (show w.heap.size ≤ g8 by rw [hg]; exact below_size HB.out); have N2_8 := Aside0.mk (show g2 ≠ g8 by rw [hg]; exact Nat.ne_of_lt (blk_lt BK2.out)); have N6_8 := Aside0.mk (show g6 ≠ g8 by rw [hg]; exact Nat.ne_of_lt (blk_lt BK6.out)); have n0 := Aside0.mk (blk_below BK2.out hb); have n1 := Aside0.mk (blk_below BK6.out hb); have HB1 := Aside0.mk (below_step HB.out hb); clear HB BK2 BK6; have HB := HB1; have BK2 := n0; have BK6 := n1; clear HB1 n0 n1; clear hb hbox hg)
    | ((with_reducible refine gate_store (p := 8) rfl ?_); refine dig_store rfl (.tmp 8) (.tmp 28) rfl g8 rs zeros32 rfl rfl BK8.out HDR.out.1 rfl ?_; intro w3 bk hoth hbel; have nn := Aside0.mk bk; have n0 := Aside0.mk ((hoth g2 N2_8.out).trans BK2.out); have n1 := Aside0.mk ((hoth g6 N6_8.out).trans BK6.out); have HB1 := Aside0.mk (hbel _ _ HB.out G8.out); clear HB BK2 BK6; have HB := HB1; have BK2 := n0; have BK6 := n1; clear HB1 n0 n1; clear BK8; have BK8 := nn; clear nn bk hoth hbel)
    | ((with_reducible refine gate_dst (N := 36) rfl ?_); refine gate_guard (by rfl) ?_; refine wpList_load_row rfl 25 (.tmp 6) rfl g6 rfl 25 (arr ds) (0, 0) _ BK6.out Tryd.underlying25 rfl (by rw [arr_size, HD.out.1]; exact info_dig) ?_)
    | ((with_reducible refine gate_dst (N := 37) rfl ?_); refine gate_guard (by rfl) ?_; refine wpList_load_row rfl 25 (.tmp 2) rfl g2 rfl 25 (arr ds) (0, 0) _ BK2.out Tryd.underlying25 rfl (by rw [arr_size, HD.out.1]; exact info_dig) ?_)
    | ((with_reducible refine gate_dst (N := 44) rfl ?_); refine gate_guard (by rfl) ?_; refine wpList_load_row rfl 25 (.tmp 8) rfl g8 rfl 25 (arr rs) (0, 0) _ BK8.out Tryd.underlying25 rfl (by rw [arr_size, HDR.out.1]; exact info_dig) ?_)
    | (go_at_call 28; (with_reducible refine (hex_any rs HDR.out s HT.out _).mono ?_); rintro e w2 ⟨rfl, hb⟩; have n0 := Aside0.mk (blk_below BK2.out hb); have n1 := Aside0.mk (blk_below BK6.out hb); have n2 := Aside0.mk (blk_below BK8.out hb); have HB1 := Aside0.mk (below_step HB.out hb); clear HB BK2 BK6 BK8; have HB := HB1; have BK2 := n0; have BK6 := n1; have BK8 := n2; clear HB1 n0 n1 n2; clear hb))
  go_ret
  exact ⟨rfl, HB.out⟩
set_option maxHeartbeats 4000000 in
set_option maxRecDepth 100000 in
theorem back_bad (ds : List Int) (hd : Dig ds) (s : ByteArray) (d : (s.size : Int) ≤ 200) (hs : ¬ (s.size = 64 ∧ allDig s = true)) (w : World) (hk : KT w) :
    Calls Tryd.prog 8 #[.agg (arr ds), .string s] w fun e w' => e = .returned (.bool true) ∧ Below w.heap.size w w' := by
  have HK := Aside0.mk hk
  have HB := Aside0.mk (Below.refl w.heap.size w)
  have HR : Aside0 (readOf s = (zeros32, 2)) := ⟨by unfold readOf; rw [if_neg hs]⟩
  have HDR : Aside0 (Dig zeros32) := ⟨zeros32_dig⟩
  have hze : ∀ W, (binOp .eql 25 (.agg (arr zeros32)) (.agg #[.int .u8 0, .int .u8 0, .int .u8 0, .int .u8 0, .int .u8 0, .int .u8 0, .int .u8 0, .int .u8 0, .int .u8 0, .int .u8 0, .int .u8 0, .int .u8 0, .int .u8 0, .int .u8 0, .int .u8 0, .int .u8 0, .int .u8 0, .int .u8 0, .int .u8 0, .int .u8 0, .int .u8 0, .int .u8 0, .int .u8 0, .int .u8 0, .int .u8 0, .int .u8 0, .int .u8 0, .int .u8 0, .int .u8 0, .int .u8 0, .int .u8 0, .int .u8 0])).run Tryd.prog W = .ok (.bool true) W := fun W => run_eql_same zeros32 zeros32_dig W
  obtain ⟨tx, htx⟩ : ∃ t : ByteArray, (⟨(hexOf ds).toArray⟩ : ByteArray) = t := ⟨_, rfl⟩
  have HTX := Aside0.mk htx
  have HRX : Aside0 (readOf tx = (ds, 0)) := ⟨by rw [← htx]; exact read_hex ds hd⟩
  have HD := Aside0.mk hd
  have hse : ∀ W, (binOp .eql 25 (.agg (arr ds)) (.agg (arr ds))).run Tryd.prog W = .ok (.bool true) W := fun W => run_eql_same ds hd W
  have heg := eqg_dig
  clear hk htx hs hd
  go_enter Tryd.func8, Tryd.ntmps8
  go_wp2_with (
    first
    | ((with_reducible refine gate_dst (N := 2) rfl ?_); refine box_event ?hg (N := 2) ?hd (cs := arr ds) (t := 25) ?hr ?_; (case hd => rfl); (case hg => rfl); (case hr => first | (go_simp; done) | (go_simp; rfl));
       intro g2 hg w1 hbox hb; have BK2 := Aside0.mk hbox; have G2 := Aside0.mk (show w.heap.size ≤ g2 by rw [hg]; exact below_size HB.out); have HB1 := Aside0.mk (below_step HB.out hb); clear HB ; have HB := HB1; clear HB1 ; clear hb hbox hg)
    | (go_at_call 26; (with_reducible refine (alive_walk _ (HK.out.below HK.out.lt HB.out)).mono ?_); rintro e w2 ⟨rfl, hb⟩; have n0 := Aside0.mk (blk_below BK2.out hb); have HB1 := Aside0.mk (below_step HB.out hb); clear HB BK2; have HB := HB1; have BK2 := n0; clear HB1 n0; clear hb)
    | ((with_reducible refine gate_dst (N := 20) rfl ?_); refine wpList_load_row rfl 25 (.tmp 2) rfl g2 rfl 25 (arr ds) (0, 0) _ BK2.out Tryd.underlying25 rfl (by rw [arr_size, HD.out.1]; exact info_dig) ?_)
    | (go_at_call 28; (with_reducible refine (hex_any ds HD.out tx HTX.out _).mono ?_); rintro e w2 ⟨rfl, hb⟩; have n0 := Aside0.mk (blk_below BK2.out hb); have HB1 := Aside0.mk (below_step HB.out hb); clear HB BK2; have HB := HB1; have BK2 := n0; clear HB1 n0; clear hb)
    | (go_at_call 27; (with_reducible refine (read_at tx ds 0 HRX.out _).mono ?_); rintro e w2 ⟨rfl, hb⟩; have n0 := Aside0.mk (blk_below BK2.out hb); have HB1 := Aside0.mk (below_step HB.out hb); clear HB BK2; have HB := HB1; have BK2 := n0; clear HB1 n0; clear hb)
    | ((with_reducible refine gate_dst (N := 6) rfl ?_); refine box_event ?hg (N := 6) ?hd (cs := arr zeros32) (t := 25) ?hr ?_; (case hd => rfl); (case hg => rfl); (case hr => first | (go_simp; done) | (go_simp; rfl));
       intro g6 hg w1 hbox hb; have BK6 := Aside0.mk hbox; have G6 := Aside0.mk (show w.heap.size ≤ g6 by rw [hg]; exact below_size HB.out); have N2_6 := Aside0.mk (show g2 ≠ g6 by rw [hg]; exact Nat.ne_of_lt (blk_lt BK2.out)); have n0 := Aside0.mk (blk_below BK2.out hb); have HB1 := Aside0.mk (below_step HB.out hb); clear HB BK2; have HB := HB1; have BK2 := n0; clear HB1 n0; clear hb hbox hg)
    | ((with_reducible refine gate_store (p := 6) rfl ?_); refine dig_store rfl (.tmp 6) (.tmp 23) rfl g6 ds zeros32 rfl rfl BK6.out HD.out.1 rfl ?_; intro w3 bk hoth hbel; have nn := Aside0.mk bk; have n0 := Aside0.mk ((hoth g2 N2_6.out).trans BK2.out); have HB1 := Aside0.mk (hbel _ _ HB.out G6.out); clear HB BK2; have HB := HB1; have BK2 := n0; clear HB1 n0; clear BK6; have BK6 := nn; clear nn bk hoth hbel))
  go_wp2_with (
    first
    | (go_at_call 27; (with_reducible refine (read_at s zeros32 2 HR.out _).mono ?_); rintro e w2 ⟨rfl, hb⟩; have n0 := Aside0.mk (blk_below BK2.out hb); have n1 := Aside0.mk (blk_below BK6.out hb); have HB1 := Aside0.mk (below_step HB.out hb); clear HB BK2 BK6; have HB := HB1; have BK2 := n0; have BK6 := n1; clear HB1 n0 n1; clear hb)
    | ((with_reducible refine gate_dst (N := 8) rfl ?_); refine box_event ?hg (N := 8) ?hd (cs := arr zeros32) (t := 25) ?hr ?_; (case hd => rfl); (case hg => rfl); (case hr => first | (go_simp; done) | (go_simp; rfl));
       intro g8 hg w1 hbox hb; have BK8 := Aside0.mk hbox; have G8 := Aside0.mk (show w.heap.size ≤ g8 by rw [hg]; exact below_size HB.out); have N2_8 := Aside0.mk (show g2 ≠ g8 by rw [hg]; exact Nat.ne_of_lt (blk_lt BK2.out)); have N6_8 := Aside0.mk (show g6 ≠ g8 by rw [hg]; exact Nat.ne_of_lt (blk_lt BK6.out)); have n0 := Aside0.mk (blk_below BK2.out hb); have n1 := Aside0.mk (blk_below BK6.out hb); have HB1 := Aside0.mk (below_step HB.out hb); clear HB BK2 BK6; have HB := HB1; have BK2 := n0; have BK6 := n1; clear HB1 n0 n1; clear hb hbox hg)
    | ((with_reducible refine gate_store (p := 8) rfl ?_); refine dig_store rfl (.tmp 8) (.tmp 28) rfl g8 zeros32 zeros32 rfl rfl BK8.out HDR.out.1 rfl ?_; intro w3 bk hoth hbel; have nn := Aside0.mk bk; have n0 := Aside0.mk ((hoth g2 N2_8.out).trans BK2.out); have n1 := Aside0.mk ((hoth g6 N6_8.out).trans BK6.out); have HB1 := Aside0.mk (hbel _ _ HB.out G8.out); clear HB BK2 BK6; have HB := HB1; have BK2 := n0; have BK6 := n1; clear HB1 n0 n1; clear BK8; have BK8 := nn; clear nn bk hoth hbel)
    | ((with_reducible refine gate_dst (N := 36) rfl ?_); refine gate_guard (by rfl) ?_; refine wpList_load_row rfl 25 (.tmp 6) rfl g6 rfl 25 (arr ds) (0, 0) _ BK6.out Tryd.underlying25 rfl (by rw [arr_size, HD.out.1]; exact info_dig) ?_)
    | ((with_reducible refine gate_dst (N := 37) rfl ?_); refine gate_guard (by rfl) ?_; refine wpList_load_row rfl 25 (.tmp 2) rfl g2 rfl 25 (arr ds) (0, 0) _ BK2.out Tryd.underlying25 rfl (by rw [arr_size, HD.out.1]; exact info_dig) ?_)
    | ((with_reducible refine gate_dst (N := 53) rfl ?_); refine gate_guard (by rfl) ?_; refine wpList_load_row rfl 25 (.tmp 8) rfl g8 rfl 25 (arr zeros32) (0, 0) _ BK8.out Tryd.underlying25 rfl (by rw [arr_size, HDR.out.1]; exact info_dig) ?_)
    | fail)
  go_ret
  exact ⟨rfl, HB.out⟩
theorem shaBack_walk (ds : List Int) (hd : Dig ds) (s : ByteArray) (w : World) (hk : KT w) :
    Calls Tryd.prog 8 #[.agg (arr ds), .string s] w fun e w' => e = .returned (.bool true) ∧ Below w.heap.size w w' := by
  by_cases h : 200 < (s.size : Int)
  · exact back_long ds s h w hk
  · by_cases h2 : s.size = 64 ∧ allDig s = true
    · exact back_good ds hd s (by omega) h2 w hk
    · exact back_bad ds hd s (by omega) h2 w hk
end Go.Proofs.YtoaimcobcgomjaaDoor.Q
