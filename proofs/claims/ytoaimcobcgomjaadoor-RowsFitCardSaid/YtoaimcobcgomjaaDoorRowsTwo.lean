/- Joined texts: RowsFits, RowsMade, RowsFitW, RowsArg (wip/tools/merge.py). -/
import Derived.Test.YtoaimcobcgomjaaDoorRowsOne
import Derived.WalkKit
import Derived.ProofKit
import Derived.OpenShut
import Derived.Deep.Slices
import Derived.Lib.SmallJoins
/-
  rows.Fits: whether sides fit a root: the contract, by hand (written by wip/tools/gen_fits.py).
-/
namespace Go.Proofs.YtoaimcobcgomjaaDoor.Q
open Go.RowKit Go.Proofs.YtoaimcobcgomjaaDoorW.PrintWords Go.Proofs.YtoaimcobcgomjaaDoorW.PrintLast Go.Proofs.YtoaimcobcgomjaaDoorW.PrintMore
set_option linter.unusedVariables false
set_option linter.unusedSimpArgs false

set_option maxHeartbeats 4000000 in
set_option maxRecDepth 100000 in
theorem fits_out (root : List Int) (hroot : Dig root) (many i : Int) (Ar As : Option Addr) (nr cr ns cs : Nat) (row : List Int) (sides : List (List Int)) (W : World) (br : Bts W Ar nr cr row) (bs : Digs W As ns cs sides) (hk : KT W) (d : outP many i row = true) :
    Calls Tryd.prog 20 #[.agg (arr root), .int .i64 many, .int .i64 i, .slice Ar nr cr, .slice As ns cs] W fun e W' => e = .returned (.bool (fitsP root many i row sides)) ∧ Below W.heap.size W W' := by
  have e : fitsP root many i row sides = false := by unfold fitsP; rw [if_pos d]
  rw [e]
  have hl := br.len
  simp only [outP, Bool.or_eq_true, decide_eq_true_eq] at d
  rw [hl] at d
  have HB := Aside0.mk (Below.refl W.heap.size W)
  have HR := Aside0.mk hroot
  clear e br bs hl hk hroot
  by_cases h1 : 256 < many
  rotate_left
  by_cases h2 : i < 0
  rotate_left
  by_cases h3 : many ≤ i
  rotate_left
  have h4 : 4096 < (nr : Int) := by omega
  all_goals
    clear d
    go_enter Tryd.func20, Tryd.ntmps20
    go_wp2_with (
      first
      | ((with_reducible refine gate_dst (N := 5) rfl ?_); refine box_event ?hg (N := 5) ?hd (cs := arr root) (t := 25) ?hr ?_; (case hd => rfl); (case hg => rfl); (case hr => first | (go_simp; done) | (go_simp; rfl));
                     intro g5 hg w1 hbox hb; have HB1 := Aside0.mk (below_step HB.out hb); clear HB hb hbox hg; have HB := HB1; clear HB1))
    go_ret
    exact ⟨rfl, HB.out⟩
def fit10_T : Bool × List (List Nat × List Nat) := (true, [([], []), ([], []), ([], []), ([1, 2], [1, 2]), ([3], [3]), ([0, 4], [0, 4]), ([5, 0, 1, 2, 3, 4, 5], [5])])
def fit10_B : List Nat := [0, 0, 0, 6, 14, 31, 63]
theorem fit10_tab : rtab .any (opsOf Tryd.f20 10) = fit10_T := by kernel_rfl
theorem fit10_bits : waitsOk fit10_T.2 fit10_B = true := by kernel_rfl

def fit12_T : Bool × List (List Nat × List Nat) := (true, [([], []), ([], []), ([0, 1], [0, 1]), ([2], [2]), ([], []), ([3, 4], [3, 4]), ([5, 0, 1, 2, 3, 4, 5], [5])])
def fit12_B : List Nat := [0, 0, 3, 7, 0, 31, 63]
theorem fit12_tab : rtab .any (opsOf Tryd.f20 12) = fit12_T := by kernel_rfl
theorem fit12_bits : waitsOk fit12_T.2 fit12_B = true := by kernel_rfl

set_option maxHeartbeats 8000000 in
set_option maxRecDepth 100000 in
theorem fits_in (root : List Int) (hroot : Dig root) (many i : Int) (Ar As : Option Addr) (nr cr ns cs : Nat) (row : List Int) (sides : List (List Int)) (W : World) (br : Bts W Ar nr cr row) (bs : Digs W As ns cs sides) (hk : KT W) (d : outP many i row = false) (hsl : ns < 1000000) :
    Calls Tryd.prog 20 #[.agg (arr root), .int .i64 many, .int .i64 i, .slice Ar nr cr, .slice As ns cs] W fun e W' => e = .returned (.bool (fitsP root many i row sides)) ∧ Below W.heap.size W W' := by
  have hl := br.len
  have ef : fitsP root many i row sides = (decide ((turnsL many i).length = sides.length) && decide (foldD (tagOf 7 [row]) (turnsL many i) sides = root)) := by unfold fitsP; rw [if_neg (by rw [d]; simp)]
  simp only [outP, Bool.or_eq_false_iff, decide_eq_false_iff_not] at d
  rw [hl] at d
  obtain ⟨⟨⟨d1, d2⟩, d3⟩, d4⟩ := d
  obtain ⟨ts, hts⟩ : ∃ ts, turnsL many i = ts := ⟨_, rfl⟩
  have HTS := Aside0.mk hts
  rw [hts] at ef
  obtain ⟨DF, hDF⟩ : ∃ D, foldD (tagOf 7 [row]) ts sides = D := ⟨_, rfl⟩
  have HDF := Aside0.mk hDF
  rw [hDF] at ef
  rw [ef]
  have HB := Aside0.mk (Below.refl W.heap.size W)
  have HR := Aside0.mk hroot
  have HK := Aside0.mk hk
  have BR := Aside0.mk br
  have BS := Aside0.mk bs
  have RL : Aside0 (row.length ≤ 4096) := ⟨by rw [hl]; omega⟩
  have hsn := bs.len
  have HSN := Aside0.mk hsn
  rw [hsn]
  have TL : Aside0 (ts.length ≤ 256) := ⟨by rw [← hts]; unfold turnsL; rw [List.length_reverse]; exact upL_len 256 many i⟩
  obtain ⟨tn, htn⟩ : ∃ tn, ts.length = tn := ⟨_, rfl⟩
  have HTN := Aside0.mk htn
  rw [htn]
  have htn2 : tn ≤ 256 := by rw [← htn]; exact TL.out
  clear hts hDF ef br bs hl hk hroot hsn htn
  go_enter Tryd.func20, Tryd.ntmps20
  by_cases hne : tn = ns
  rotate_left
  · have hned : decide (tn = ns) = false := decide_eq_false hne
    rw [hned]
    go_wp2_with (
      first
      | ((with_reducible refine gate_dst (N := 5) rfl ?_); refine box_event ?hg (N := 5) ?hd (cs := arr root) (t := 25) ?hr ?_; (case hd => rfl); (case hg => rfl); (case hr => first | (go_simp; done) | (go_simp; rfl));
                     intro g5 hg w1 hbox hb; have HB1 := Aside0.mk (below_step HB.out hb); clear HB hb hbox hg; have HB := HB1; clear HB1)
      | (go_at_call 43; (with_reducible refine (turns_walk many i (by omega) (by omega) (by omega) (by omega) _).mono ?_); rintro e w2 ⟨v, rfl, hr, hb⟩; rw [HTS.out] at hr; obtain ⟨At, ct, rfl, _⟩ := Kd.Q_slice (Kd.Q_of_R hr); rw [HTN.out]; have HB1 := Aside0.mk (below_step HB.out hb); clear HB hb hr; have HB := HB1; clear HB1))
    go_ret
    exact ⟨rfl, HB.out⟩
  · subst hne
    have hdd : decide (tn = tn) = true := decide_eq_true rfl
    rw [hdd, Bool.true_and]
    clear hdd
    go_wp2_with (
      first
      | ((with_reducible refine gate_dst (N := 5) rfl ?_); refine box_event ?hg (N := 5) ?hd (cs := arr root) (t := 25) ?hr ?_; (case hd => rfl); (case hg => rfl); (case hr => first | (go_simp; done) | (go_simp; rfl));
                     intro g5 hg w1 hbox hb; have BK5 := Aside0.mk hbox; have HB1 := Aside0.mk (below_step HB.out hb); clear HB hb hbox hg; have HB := HB1; clear HB1)
      | (go_at_call 43; (with_reducible refine (turns_walk many i (by omega) (by omega) (by omega) (by omega) _).mono ?_); rintro e wt ⟨v, rfl, hr, hb⟩; rw [HTS.out] at hr; obtain ⟨At, ct, rfl, _⟩ := Kd.Q_slice (Kd.Q_of_R hr); have hrd := (Kd.Q_reads' (Kd.Q_of_R hr)).2.2; rw [HTN.out] at hrd; rw [HTN.out]; have CT := Aside0.mk hrd; have n1 := Aside0.mk (blk_below BK5.out hb); have HB1 := Aside0.mk (below_step HB.out hb); clear HB hb hr hrd BK5; have HB := HB1; have BK5 := n1; clear HB1 n1; have HT := Aside0.mk (Below.refl wt.heap.size wt))
      | (go_at_call 44; (with_reducible refine (tag1 7 (by decide) _ 1 22 cr nr Ar row _ (blk_new _ _) ((BR.out.below HB.out).alloc _) (Nat.le_refl _) (by have := RL.out; omega) (HK.out.below HK.out.lt (below_alloc HB.out _))).mono ?_); rintro e w3 ⟨rfl, hb⟩; have n1 := Aside0.mk (blk_below (blk_alloc BK5.out _) hb); have n2 := Aside0.mk (below_step (below_alloc HB.out _) hb); have n3 := Aside0.mk (below_step (below_alloc HT.out _) hb); clear BK5 HB HT hb; have BK5 := n1; have HB := n2; have HT := n3; clear n1 n2 n3)
      | ((with_reducible refine gate_dst (N := 12) rfl ?_); refine box_event ?hg (N := 12) ?hd (cs := arr zeros32) (t := 25) ?hr ?_; (case hd => rfl); (case hg => rfl); (case hr => first | (go_simp; done) | (go_simp; rfl));
                     intro g12 hg w1 hbox hb; have BK12 := Aside0.mk hbox; have G12 := Aside0.mk (show W.heap.size ≤ g12 by rw [hg]; exact below_size HB.out); have GT := Aside0.mk (show wt.heap.size ≤ g12 by rw [hg]; exact below_size HT.out); have N5_12 := Aside0.mk (show g5 ≠ g12 by rw [hg]; exact Nat.ne_of_lt (blk_lt BK5.out)); have n1 := Aside0.mk (blk_below BK5.out hb); have n2 := Aside0.mk (below_step HB.out hb); have n3 := Aside0.mk (below_step HT.out hb); clear BK5 HB HT hb hbox hg; have BK5 := n1; have HB := n2; have HT := n3; clear n1 n2 n3)
      | ((with_reducible refine gate_store (p := 12) rfl ?_); refine dig_store rfl (.tmp 12) (.tmp 42) rfl g12 (tagOf 7 [row]) zeros32 rfl rfl BK12.out (tagOf_len _ _) rfl ?_; intro wf bk hoth hbel; have n1 := Aside0.mk bk; have n2 := Aside0.mk ((hoth g5 N5_12.out).trans BK5.out); have n3 := Aside0.mk (hbel _ _ HB.out G12.out); have n4 := Aside0.mk (hbel _ _ HT.out GT.out); clear BK12 BK5 HB HT bk hoth hbel; have BK12 := n1; have BK5 := n2; have HB := n3; have HT := n4; clear n1 n2 n3 n4))
    go_loopw [13, 14, 15, 45] (fun _ _ _ x wr => ∃ k : Nat, k ≤ tn ∧ x = .int .i64 (k : Int) ∧ Aside0 (wr.heap[g12]? = some (.cells (arr (foldD (tagOf 7 [row]) (ts.take k) (sides.take k))) 25 (0, 0))) ∧ Aside0 (wr.heap[g5]? = some (.cells (arr root) 25 (0, 0))) ∧ Aside0 (Below W.heap.size W wr) ∧ Aside0 (Below wt.heap.size wt wr)) (fun _ _ _ x _ => tn - (intOf x).toNat)
    case atStart => exact ⟨0, by omega, rfl, ⟨by simpa [foldD] using BK12.out⟩, BK5, HB, HT⟩
    case round =>
      obtain ⟨k, hk, rfl, b12, b5, hB, hT⟩ := hrel
      clear BK12 BK5 HB HT
      have BK12 := b12
      have BK5 := b5
      have HB := hB
      have HT := hT
      clear b12 b5 hB hT
      by_cases hlt : k < tn
      · have hkt : k < ts.length := by rw [HTN.out]; exact hlt
        have hks : k < sides.length := by rw [HSN.out]; exact hlt
        obtain ⟨b, hb⟩ : ∃ b, ts[k] = b := ⟨_, rfl⟩
        obtain ⟨sd, hsd⟩ : ∃ s, sides[k] = s := ⟨_, rfl⟩
        obtain ⟨d, hd⟩ : ∃ d, foldD (tagOf 7 [row]) (ts.take k) (sides.take k) = d := ⟨_, rfl⟩
        obtain ⟨ad, hA, hS⟩ := BS.out.side k hks
        subst hA
        rw [hsd] at hS
        have SD := Aside0.mk hS
        have SDL : Aside0 (sd.length = 32) := ⟨by rw [← hsd]; exact (BS.out.dg _ (List.getElem_mem hks)).1⟩
        have DD : Aside0 (Dig d) := ⟨by rw [← hd]; exact foldD_dig _ _ _ (tagOf_dig _ _)⟩
        have DDL : Aside0 (d.length = 32) := ⟨DD.out.1⟩
        have FD : Aside0 (foldD (tagOf 7 [row]) (ts.take (k + 1)) (sides.take (k + 1)) = tagOf 8 (if b = true then [sd, d] else [d, sd])) := ⟨by rw [foldD_take ts k _ sides (by rw [HTN.out, HSN.out]) hkt, hb, hsd, hd]⟩
        rw [hd] at BK12
        obtain ⟨ad2, hA2, hcb⟩ := Kd.at_bool (Kd.C_below CT.out HT.out) (k : Int) (by omega) (by omega)
        subst hA2
        rw [Int.toNat_natCast] at hcb
        have hrb : rdOf false ts (k : Int) = b := by rw [← hb]; unfold rdOf; simp [hkt]
        rw [hrb] at hcb
        have hib : ∀ W : World, (Instr.indexAt 68 (.slice (some ad2) tn ct) (.int .i64 (k : Int))).run Tryd.prog W = .ok (.pointer (some (ad2.add k))) W := fun W => idx_bool ad2 tn ct k hlt W
        have his := fun W => idx_dgs ad tn cs k hlt W
        have hs1 := fun W => sl_dig ⟨g12, 0, none⟩ W
        have hs2 := fun W => sl_dig (ad.add (k * 32)) W
        clear hb hsd hd hS hrb
        cases b with
        | false =>
          go_wp2
          have HC : Aside0 (Below wr.heap.size wr wr.drew) := ⟨below_drew (Below.refl _ _)⟩
          refine start_ (n := 7) (S := fun w' => True) (ds := []) #[false, false, false, false, false, false, false] (by kernel_rfl) rfl rfl trivial (fun hHeld => ?_)
          refine with_tabW fit10_tab fit10_bits (fun HT_ HW_ => ?_)
          have n0 := Aside0.mk (below_step HB.out HC.out)
          have n1 := Aside0.mk (below_step HT.out HC.out)
          have n2 := Aside0.mk (blk_below BK12.out HC.out)
          have n3 := Aside0.mk (blk_below BK5.out HC.out)
          clear HB HT BK12 BK5 HC
          have HB := n0
          have HT := n1
          have BK12 := n2
          have BK5 := n3
          clear n0 n1 n2 n3
          generalize wr.drew = wa at HB HT BK12 BK5 ⊢
          refine pure_ (i := 0) (N := (some 50)) (v := ?_) (a' := ?_) #[true, false, false, false, false, false, false] rfl rfl (any_of HT_.out (by kernel_rfl)) (fun _ _ _ h => h) (Or.inl ⟨by rfl, ?_⟩) ?_ ?_
          rotate_left
          · intro w'
            go_simp
            first | with_reducible rfl | (simp; done) | rfl
          rotate_left
          · simp only [Act.put, List.setIfInBounds_toArray, List.set_cons_zero, List.set_cons_succ, i64_w, i32_w]
            rfl
          refine pure_ (i := 1) (N := (some 51)) (v := ?_) (a' := ?_) #[true, true, false, false, false, false, false] rfl rfl (any_of HT_.out (by kernel_rfl)) (fun _ _ _ h => h) (Or.inl ⟨by rfl, ?_⟩) ?_ ?_
          rotate_left
          · intro w'
            go_simp
            first | with_reducible rfl | (simp; done) | rfl
          rotate_left
          · simp only [Act.put, List.setIfInBounds_toArray, List.set_cons_zero, List.set_cons_succ, i64_w, i32_w]
            rfl
          refine pure_ (i := 2) (N := (some 52)) (v := ?_) (a' := ?_) #[true, true, true, false, false, false, false] rfl rfl (any_of HT_.out (by kernel_rfl)) (fun _ _ _ h => h) (Or.inl ⟨by rfl, ?_⟩) ?_ ?_
          rotate_left
          · intro w'
            go_simp
            first | with_reducible rfl | (simp; done) | rfl
          rotate_left
          · simp only [Act.put, List.setIfInBounds_toArray, List.set_cons_zero, List.set_cons_succ, i64_w, i32_w]
            rfl
          refine pure_ (i := 3) (N := (some 53)) (v := ?_) (a' := ?_) #[true, true, true, true, false, false, false] rfl rfl (any_of HT_.out (by kernel_rfl)) (fun _ _ _ h => h) (Or.inl ⟨by rfl, ?_⟩) ?_ ?_
          rotate_left
          · intro w'
            go_simp
            first | with_reducible rfl | (simp; done) | rfl
          rotate_left
          · simp only [Act.put, List.setIfInBounds_toArray, List.set_cons_zero, List.set_cons_succ, i64_w, i32_w]
            rfl
          refine pure_ (i := 4) (N := (some 54)) (v := ?_) (a' := ?_) #[true, true, true, true, true, false, false] rfl rfl (any_of HT_.out (by kernel_rfl)) (fun _ _ _ h => h) (Or.inl ⟨by rfl, ?_⟩) ?_ ?_
          rotate_left
          · intro w'
            go_simp
            first | with_reducible rfl | (simp; done) | rfl
          rotate_left
          · simp only [Act.put, List.setIfInBounds_toArray, List.set_cons_zero, List.set_cons_succ, i64_w, i32_w]
            rfl
          refine one_ (i := 5) (N := (some 55)) #[true, true, true, true, true, true, false] rfl rfl (one_of HT_.out (by kernel_rfl)) (by decide) (fun K hK => ?_)
          refine value_ (v := .slice (some ⟨wa.heap.size, 0, none⟩) 2 2) (w1 := wa.alloc (.cells #[.slice (some ⟨g12, 0, none⟩) 32 32, .slice (some (ad.add (k * 32))) 32 32] 22)) (by rfl) rfl ?_ ?_
          · go_simp
            first | done | rfl
          refine hK.out _ _ trivial (fun hHeld => ?_)
          clear hK K
          refine norm_ (a' := ?_) ?_ ?_
          rotate_left
          · show Act.put _ (some 55) _ = _
            simp only [Act.put, List.setIfInBounds_toArray, List.set_cons_zero, List.set_cons_succ, i64_w, i32_w]
            rfl
          refine pure_ (i := 6) (N := (some 15)) (v := ?_) (a' := ?_) #[true, true, true, true, true, true, true] rfl rfl (any_of HT_.out (by kernel_rfl)) (fun _ _ _ h => h) (Or.inl ⟨by rfl, ?_⟩) ?_ ?_
          rotate_left
          · intro w'
            go_simp
            first | with_reducible rfl | (simp; done) | rfl
          rotate_left
          · simp only [Act.put, List.setIfInBounds_toArray, List.set_cons_zero, List.set_cons_succ, i64_w, i32_w]
            rfl
          refine done_ (done_of HT_.out (by kernel_rfl)) ?_
          obtain ⟨wb, hwb⟩ : ∃ w', wa.alloc (.cells #[.slice (some ⟨g12, 0, none⟩) 32 32, .slice (some (ad.add (k * 32))) 32 32] 22) = w' := ⟨_, rfl⟩
          have HC : Aside0 (Below wa.heap.size wa wb) := ⟨by rw [← hwb]; exact below_new wa _⟩
          have NB : Aside0 (wb.heap[wa.heap.size]? = some (.cells #[.slice (some ⟨g12, 0, none⟩) 32 32, .slice (some (ad.add (k * 32))) 32 32] 22 (0, 0))) := ⟨by rw [← hwb]; exact blk_new wa _⟩
          rw [hwb]
          clear hwb
          have n0 := Aside0.mk (below_step HB.out HC.out)
          have n1 := Aside0.mk (below_step HT.out HC.out)
          have n2 := Aside0.mk (blk_below BK12.out HC.out)
          have n3 := Aside0.mk (blk_below BK5.out HC.out)
          clear HB HT BK12 BK5 HC
          have HB := n0
          have HT := n1
          have BK12 := n2
          have BK5 := n3
          clear n0 n1 n2 n3
          go_wp2_with (
            first
            | (go_at_call 44; (with_reducible refine (tag2 8 (by decide) _ 2 22 32 32 32 32 _ _ d sd _ NB.out (dig_bts BK12.out DD.out) ((SD.out.below HB.out)) (Nat.le_refl _) (by rw [DDL.out]; omega) (by rw [SDL.out]; omega) (HK.out.below HK.out.lt HB.out)).mono ?_); rintro e we ⟨rfl, hb⟩; have HC := Aside0.mk hb; have n0 := Aside0.mk (below_step HB.out HC.out); have n1 := Aside0.mk (below_step HT.out HC.out); have n2 := Aside0.mk (blk_below BK12.out HC.out); have n3 := Aside0.mk (blk_below BK5.out HC.out); clear HB HT BK12 BK5 HC; have HB := n0; have HT := n1; have BK12 := n2; have BK5 := n3; clear n0 n1 n2 n3; clear hb)
            | ((with_reducible refine gate_store (p := 12) rfl ?_); refine dig_store rfl (.tmp 12) (.tmp 64) rfl g12 (tagOf 8 [d, sd]) d rfl rfl BK12.out (tagOf_len _ _) DD.out.1 ?_; intro wf bk hoth hbel; have n1 := Aside0.mk bk; have n2 := Aside0.mk ((hoth g5 N5_12.out).trans BK5.out); have n3 := Aside0.mk (hbel _ _ HB.out G12.out); have n4 := Aside0.mk (hbel _ _ HT.out GT.out); clear BK12 BK5 HB HT bk hoth hbel; have BK12 := n1; have BK5 := n2; have HB := n3; have HT := n4; clear n1 n2 n3 n4))
          exact ⟨⟨k + 1, by omega, by simp, ⟨by rw [FD.out]; exact BK12.out⟩, BK5, HB, HT⟩, by simp [intOf]; omega⟩
        | true =>
          go_wp2
          have HC : Aside0 (Below wr.heap.size wr wr.drew) := ⟨below_drew (Below.refl _ _)⟩
          refine start_ (n := 7) (S := fun w' => True) (ds := []) #[false, false, false, false, false, false, false] (by kernel_rfl) rfl rfl trivial (fun hHeld => ?_)
          refine with_tabW fit10_tab fit10_bits (fun HT_ HW_ => ?_)
          have n0 := Aside0.mk (below_step HB.out HC.out)
          have n1 := Aside0.mk (below_step HT.out HC.out)
          have n2 := Aside0.mk (blk_below BK12.out HC.out)
          have n3 := Aside0.mk (blk_below BK5.out HC.out)
          clear HB HT BK12 BK5 HC
          have HB := n0
          have HT := n1
          have BK12 := n2
          have BK5 := n3
          clear n0 n1 n2 n3
          generalize wr.drew = wa at HB HT BK12 BK5 ⊢
          refine pure_ (i := 0) (N := (some 50)) (v := ?_) (a' := ?_) #[true, false, false, false, false, false, false] rfl rfl (any_of HT_.out (by kernel_rfl)) (fun _ _ _ h => h) (Or.inl ⟨by rfl, ?_⟩) ?_ ?_
          rotate_left
          · intro w'
            go_simp
            first | with_reducible rfl | (simp; done) | rfl
          rotate_left
          · simp only [Act.put, List.setIfInBounds_toArray, List.set_cons_zero, List.set_cons_succ, i64_w, i32_w]
            rfl
          refine pure_ (i := 1) (N := (some 51)) (v := ?_) (a' := ?_) #[true, true, false, false, false, false, false] rfl rfl (any_of HT_.out (by kernel_rfl)) (fun _ _ _ h => h) (Or.inl ⟨by rfl, ?_⟩) ?_ ?_
          rotate_left
          · intro w'
            go_simp
            first | with_reducible rfl | (simp; done) | rfl
          rotate_left
          · simp only [Act.put, List.setIfInBounds_toArray, List.set_cons_zero, List.set_cons_succ, i64_w, i32_w]
            rfl
          refine pure_ (i := 2) (N := (some 52)) (v := ?_) (a' := ?_) #[true, true, true, false, false, false, false] rfl rfl (any_of HT_.out (by kernel_rfl)) (fun _ _ _ h => h) (Or.inl ⟨by rfl, ?_⟩) ?_ ?_
          rotate_left
          · intro w'
            go_simp
            first | with_reducible rfl | (simp; done) | rfl
          rotate_left
          · simp only [Act.put, List.setIfInBounds_toArray, List.set_cons_zero, List.set_cons_succ, i64_w, i32_w]
            rfl
          refine pure_ (i := 3) (N := (some 53)) (v := ?_) (a' := ?_) #[true, true, true, true, false, false, false] rfl rfl (any_of HT_.out (by kernel_rfl)) (fun _ _ _ h => h) (Or.inl ⟨by rfl, ?_⟩) ?_ ?_
          rotate_left
          · intro w'
            go_simp
            first | with_reducible rfl | (simp; done) | rfl
          rotate_left
          · simp only [Act.put, List.setIfInBounds_toArray, List.set_cons_zero, List.set_cons_succ, i64_w, i32_w]
            rfl
          refine pure_ (i := 4) (N := (some 54)) (v := ?_) (a' := ?_) #[true, true, true, true, true, false, false] rfl rfl (any_of HT_.out (by kernel_rfl)) (fun _ _ _ h => h) (Or.inl ⟨by rfl, ?_⟩) ?_ ?_
          rotate_left
          · intro w'
            go_simp
            first | with_reducible rfl | (simp; done) | rfl
          rotate_left
          · simp only [Act.put, List.setIfInBounds_toArray, List.set_cons_zero, List.set_cons_succ, i64_w, i32_w]
            rfl
          refine one_ (i := 5) (N := (some 55)) #[true, true, true, true, true, true, false] rfl rfl (one_of HT_.out (by kernel_rfl)) (by decide) (fun K hK => ?_)
          refine value_ (v := .slice (some ⟨wa.heap.size, 0, none⟩) 2 2) (w1 := wa.alloc (.cells #[.slice (some ⟨g12, 0, none⟩) 32 32, .slice (some (ad.add (k * 32))) 32 32] 22)) (by rfl) rfl ?_ ?_
          · go_simp
            first | done | rfl
          refine hK.out _ _ trivial (fun hHeld => ?_)
          clear hK K
          refine norm_ (a' := ?_) ?_ ?_
          rotate_left
          · show Act.put _ (some 55) _ = _
            simp only [Act.put, List.setIfInBounds_toArray, List.set_cons_zero, List.set_cons_succ, i64_w, i32_w]
            rfl
          refine pure_ (i := 6) (N := (some 15)) (v := ?_) (a' := ?_) #[true, true, true, true, true, true, true] rfl rfl (any_of HT_.out (by kernel_rfl)) (fun _ _ _ h => h) (Or.inl ⟨by rfl, ?_⟩) ?_ ?_
          rotate_left
          · intro w'
            go_simp
            first | with_reducible rfl | (simp; done) | rfl
          rotate_left
          · simp only [Act.put, List.setIfInBounds_toArray, List.set_cons_zero, List.set_cons_succ, i64_w, i32_w]
            rfl
          refine done_ (done_of HT_.out (by kernel_rfl)) ?_
          obtain ⟨wb, hwb⟩ : ∃ w', wa.alloc (.cells #[.slice (some ⟨g12, 0, none⟩) 32 32, .slice (some (ad.add (k * 32))) 32 32] 22) = w' := ⟨_, rfl⟩
          have HC : Aside0 (Below wa.heap.size wa wb) := ⟨by rw [← hwb]; exact below_new wa _⟩
          have NB : Aside0 (wb.heap[wa.heap.size]? = some (.cells #[.slice (some ⟨g12, 0, none⟩) 32 32, .slice (some (ad.add (k * 32))) 32 32] 22 (0, 0))) := ⟨by rw [← hwb]; exact blk_new wa _⟩
          rw [hwb]
          clear hwb
          have n0 := Aside0.mk (below_step HB.out HC.out)
          have n1 := Aside0.mk (below_step HT.out HC.out)
          have n2 := Aside0.mk (blk_below BK12.out HC.out)
          have n3 := Aside0.mk (blk_below BK5.out HC.out)
          clear HB HT BK12 BK5 HC
          have HB := n0
          have HT := n1
          have BK12 := n2
          have BK5 := n3
          clear n0 n1 n2 n3
          go_wp2
          have HC : Aside0 (Below wb.heap.size wb wb.drew) := ⟨below_drew (Below.refl _ _)⟩
          refine start_ (n := 7) (S := fun w' => True) (ds := []) #[false, false, false, false, false, false, false] (by kernel_rfl) rfl rfl trivial (fun hHeld => ?_)
          refine with_tabW fit12_tab fit12_bits (fun HT_ HW_ => ?_)
          have n0 := Aside0.mk (below_step HB.out HC.out)
          have n1 := Aside0.mk (below_step HT.out HC.out)
          have n2 := Aside0.mk (blk_below BK12.out HC.out)
          have n3 := Aside0.mk (blk_below BK5.out HC.out)
          clear HB HT BK12 BK5 HC
          have HB := n0
          have HT := n1
          have BK12 := n2
          have BK5 := n3
          clear n0 n1 n2 n3
          generalize wb.drew = wc at HB HT BK12 BK5 ⊢
          refine pure_ (i := 0) (N := (some 57)) (v := ?_) (a' := ?_) #[true, false, false, false, false, false, false] rfl rfl (any_of HT_.out (by kernel_rfl)) (fun _ _ _ h => h) (Or.inl ⟨by rfl, ?_⟩) ?_ ?_
          rotate_left
          · intro w'
            go_simp
            first | with_reducible rfl | (simp; done) | rfl
          rotate_left
          · simp only [Act.put, List.setIfInBounds_toArray, List.set_cons_zero, List.set_cons_succ, i64_w, i32_w]
            rfl
          refine pure_ (i := 1) (N := (some 58)) (v := ?_) (a' := ?_) #[true, true, false, false, false, false, false] rfl rfl (any_of HT_.out (by kernel_rfl)) (fun _ _ _ h => h) (Or.inl ⟨by rfl, ?_⟩) ?_ ?_
          rotate_left
          · intro w'
            go_simp
            first | with_reducible rfl | (simp; done) | rfl
          rotate_left
          · simp only [Act.put, List.setIfInBounds_toArray, List.set_cons_zero, List.set_cons_succ, i64_w, i32_w]
            rfl
          refine pure_ (i := 2) (N := (some 59)) (v := ?_) (a' := ?_) #[true, true, true, false, false, false, false] rfl rfl (any_of HT_.out (by kernel_rfl)) (fun _ _ _ h => h) (Or.inl ⟨by rfl, ?_⟩) ?_ ?_
          rotate_left
          · intro w'
            go_simp
            first | with_reducible rfl | (simp; done) | rfl
          rotate_left
          · simp only [Act.put, List.setIfInBounds_toArray, List.set_cons_zero, List.set_cons_succ, i64_w, i32_w]
            rfl
          refine pure_ (i := 3) (N := (some 60)) (v := ?_) (a' := ?_) #[true, true, true, true, false, false, false] rfl rfl (any_of HT_.out (by kernel_rfl)) (fun _ _ _ h => h) (Or.inl ⟨by rfl, ?_⟩) ?_ ?_
          rotate_left
          · intro w'
            go_simp
            first | with_reducible rfl | (simp; done) | rfl
          rotate_left
          · simp only [Act.put, List.setIfInBounds_toArray, List.set_cons_zero, List.set_cons_succ, i64_w, i32_w]
            rfl
          refine pure_ (i := 4) (N := (some 61)) (v := ?_) (a' := ?_) #[true, true, true, true, true, false, false] rfl rfl (any_of HT_.out (by kernel_rfl)) (fun _ _ _ h => h) (Or.inl ⟨by rfl, ?_⟩) ?_ ?_
          rotate_left
          · intro w'
            go_simp
            first | with_reducible rfl | (simp; done) | rfl
          rotate_left
          · simp only [Act.put, List.setIfInBounds_toArray, List.set_cons_zero, List.set_cons_succ, i64_w, i32_w]
            rfl
          refine one_ (i := 5) (N := (some 62)) #[true, true, true, true, true, true, false] rfl rfl (one_of HT_.out (by kernel_rfl)) (by decide) (fun K hK => ?_)
          refine value_ (v := .slice (some ⟨wc.heap.size, 0, none⟩) 2 2) (w1 := wc.alloc (.cells #[.slice (some (ad.add (k * 32))) 32 32, .slice (some ⟨g12, 0, none⟩) 32 32] 22)) (by rfl) rfl ?_ ?_
          · go_simp
            first | done | rfl
          refine hK.out _ _ trivial (fun hHeld => ?_)
          clear hK K
          refine norm_ (a' := ?_) ?_ ?_
          rotate_left
          · show Act.put _ (some 62) _ = _
            simp only [Act.put, List.setIfInBounds_toArray, List.set_cons_zero, List.set_cons_succ, i64_w, i32_w]
            rfl
          refine pure_ (i := 6) (N := (some 15)) (v := ?_) (a' := ?_) #[true, true, true, true, true, true, true] rfl rfl (any_of HT_.out (by kernel_rfl)) (fun _ _ _ h => h) (Or.inl ⟨by rfl, ?_⟩) ?_ ?_
          rotate_left
          · intro w'
            go_simp
            first | with_reducible rfl | (simp; done) | rfl
          rotate_left
          · simp only [Act.put, List.setIfInBounds_toArray, List.set_cons_zero, List.set_cons_succ, i64_w, i32_w]
            rfl
          refine done_ (done_of HT_.out (by kernel_rfl)) ?_
          obtain ⟨wd, hwd⟩ : ∃ w', wc.alloc (.cells #[.slice (some (ad.add (k * 32))) 32 32, .slice (some ⟨g12, 0, none⟩) 32 32] 22) = w' := ⟨_, rfl⟩
          have HC : Aside0 (Below wc.heap.size wc wd) := ⟨by rw [← hwd]; exact below_new wc _⟩
          have ND : Aside0 (wd.heap[wc.heap.size]? = some (.cells #[.slice (some (ad.add (k * 32))) 32 32, .slice (some ⟨g12, 0, none⟩) 32 32] 22 (0, 0))) := ⟨by rw [← hwd]; exact blk_new wc _⟩
          rw [hwd]
          clear hwd NB
          have n0 := Aside0.mk (below_step HB.out HC.out)
          have n1 := Aside0.mk (below_step HT.out HC.out)
          have n2 := Aside0.mk (blk_below BK12.out HC.out)
          have n3 := Aside0.mk (blk_below BK5.out HC.out)
          clear HB HT BK12 BK5 HC
          have HB := n0
          have HT := n1
          have BK12 := n2
          have BK5 := n3
          clear n0 n1 n2 n3
          go_wp2_with (
            first
            | (go_at_call 44; (with_reducible refine (tag2 8 (by decide) _ 2 22 32 32 32 32 _ _ sd d _ ND.out ((SD.out.below HB.out)) (dig_bts BK12.out DD.out) (Nat.le_refl _) (by rw [SDL.out]; omega) (by rw [DDL.out]; omega) (HK.out.below HK.out.lt HB.out)).mono ?_); rintro e we ⟨rfl, hb⟩; have HC := Aside0.mk hb; have n0 := Aside0.mk (below_step HB.out HC.out); have n1 := Aside0.mk (below_step HT.out HC.out); have n2 := Aside0.mk (blk_below BK12.out HC.out); have n3 := Aside0.mk (blk_below BK5.out HC.out); clear HB HT BK12 BK5 HC; have HB := n0; have HT := n1; have BK12 := n2; have BK5 := n3; clear n0 n1 n2 n3; clear hb)
            | ((with_reducible refine gate_store (p := 12) rfl ?_); refine dig_store rfl (.tmp 12) (.tmp 64) rfl g12 (tagOf 8 [sd, d]) d rfl rfl BK12.out (tagOf_len _ _) DD.out.1 ?_; intro wf bk hoth hbel; have n1 := Aside0.mk bk; have n2 := Aside0.mk ((hoth g5 N5_12.out).trans BK5.out); have n3 := Aside0.mk (hbel _ _ HB.out G12.out); have n4 := Aside0.mk (hbel _ _ HT.out GT.out); clear BK12 BK5 HB HT bk hoth hbel; have BK12 := n1; have BK5 := n2; have HB := n3; have HT := n4; clear n1 n2 n3 n4))
          exact ⟨⟨k + 1, by omega, by simp, ⟨by rw [FD.out]; exact BK12.out⟩, BK5, HB, HT⟩, by simp [intOf]; omega⟩
      · have hk2 : k = tn := by omega
        have HD : Aside0 (Dig DF) := ⟨by rw [← HDF.out]; exact foldD_dig _ _ _ (tagOf_dig _ _)⟩
        have BKD : Aside0 (wr.heap[g12]? = some (.cells (arr DF) 25 (0, 0))) := ⟨by
          have h := BK12.out
          rw [List.take_of_length_le (by rw [HTN.out]; omega), List.take_of_length_le (by rw [HSN.out]; omega), HDF.out] at h
          exact h⟩
        have hse : ∀ W, (binOp .eql 25 (.agg (arr DF)) (.agg (arr root))).run Tryd.prog W = .ok (.bool (decide (DF = root))) W := fun W => run_eql_dig DF root HD.out HR.out W
        have heg := eqg_dig
        clear BK12 hk2
        go_wp2_with (
          first
          | ((with_reducible refine gate_dst (N := 66) rfl ?_); refine wpList_load_row rfl 25 (.tmp 12) rfl g12 rfl 25 (arr DF) (0, 0) _ BKD.out Tryd.underlying25 rfl (by rw [arr_size, HD.out.1]; exact info_dig) ?_)
          | ((with_reducible refine gate_dst (N := 67) rfl ?_); refine wpList_load_row rfl 25 (.tmp 5) rfl g5 rfl 25 (arr root) (0, 0) _ BK5.out Tryd.underlying25 rfl (by rw [arr_size, HR.out.1]; exact info_dig) ?_))
        go_ret
        exact ⟨rfl, HB.out⟩
end Go.Proofs.YtoaimcobcgomjaaDoor.Q
/-
  beadrollref13.made, Fits: the contracts, by hand (written by wip/tools/gen_made.py).
-/
namespace Go.Proofs.YtoaimcobcgomjaaDoor.Q
open Go.RowKit Go.Proofs.YtoaimcobcgomjaaDoorW.PrintWords Go.Proofs.YtoaimcobcgomjaaDoorW.PrintLast Go.Proofs.YtoaimcobcgomjaaDoorW.PrintMore
set_option linter.unusedVariables false
set_option linter.unusedSimpArgs false

/-- A digest loaded out of the middle of a row. -/
theorem run_loadVar_dig (w : World) (e : Addr) (ds : List Int) (hl : ds.length = 32) (hc : ∀ i, i < 32 → w.cell? (e.add i) = some (.int .u8 (rd ds (i : Int)))) : (loadVar 25 e).run Tryd.prog w = .ok (.agg (arr ds)) w := by
  have hr : (loadCells e (arr ds).toList.length).run Tryd.prog w = .ok (arr ds).toList.toArray w :=
    run_loadCells_list (P := Tryd.prog) w e (arr ds).toList (fun j v hv => by
      have hj : j < 32 := by
        have := (List.getElem?_eq_some_iff.1 hv).1
        rw [Array.length_toList, arr_size, hl] at this
        exact this
      rw [hc j hj]
      rw [Array.getElem?_toList, arr_get ds j (by omega)] at hv
      exact hv)
  obtain ⟨i, hq, hs⟩ := Option.map_eq_some_iff.1 info_dig
  have hagg : (isAgg 25).run Tryd.prog w = .ok true w := by
    unfold isAgg
    rw [Sem.run_bind, run_underlying Tryd.underlying25 w]
    rfl
  rw [Array.length_toList, arr_size, hl, Array.toArray_toList] at hr
  simp [loadVar, Sem.run_bind, hagg, sizeOf, typeInfo, hq, hs, hr]
theorem wl_load_dig {ops : Array Oper} {rest : List Oper} {o : Oper} {a : Act} {w : World} {Q : Exit → Act → World → Prop} (hgd : o.guard = none) (x : Operand) (ho : o.op = .load 25 x) (e : Addr) (hx : a.eval x = .pointer (some e)) (ds : List Int) (hl : ds.length = 32) (hc : ∀ i, i < 32 → w.cell? (e.add i) = some (.int .u8 (rd ds (i : Int))))
    (h : wpList Tryd.prog ops Q rest (a.put o.dst (.agg (arr ds))) w) : wpList Tryd.prog ops Q (o :: rest) a w := by
  refine wpList_plain hgd fun K hK => ?_
  unfold Oper.wp execOp
  simp only [ho, hx, Instr.loadAt, Instr.sureAddr, Sem.run_bind, Sem.run_pure, Result.andThen_ok, run_loadVar_dig w e ds hl hc]
  exact hK _ _ h
theorem Digs.last {W : World} {A : Option Addr} {n c : Nat} {l : List (List Int)} (h : Digs W A n c l) (hn : 0 < n) : ∃ ad, A = some ad ∧ (∀ i, i < 32 → W.cell? ((ad.add ((n - 1) * 32)).add i) = some (.int .u8 (rd (l.getLast?.getD []) (i : Int)))) ∧ Dig (l.getLast?.getD []) ∧ Digs W A (n - 1) c l.dropLast := by
  have hl := h.len
  obtain ⟨ad, e, hc⟩ := h.at_ (n - 1) (by omega)
  have hg : l.getLast?.getD [] = l[n - 1]'(by omega) := by
    have e2 : l[l.length - 1]? = some (l[n - 1]'(by omega)) := by
      rw [show l.length - 1 = n - 1 by omega]
      exact List.getElem?_eq_getElem _
    rw [List.getLast?_eq_getElem?, e2]
    rfl
  refine ⟨ad, e, fun i hi => ?_, ?_, ⟨by rw [List.length_dropLast, hl], by have := h.le; omega, h.max, fun j hj => ?_, fun d hd => h.dg d (List.dropLast_subset _ hd)⟩⟩
  · rw [addr_add, hg]
    exact hc i hi
  · rw [hg]
    exact h.dg _ (List.getElem_mem _)
  · rw [List.length_dropLast] at hj
    obtain ⟨ad2, e2, hc2⟩ := h.at_ j (by omega)
    refine ⟨ad2, e2, fun i hi => ?_⟩
    rw [List.getElem_dropLast]
    exact hc2 i hi

def made10_T : Bool × List (List Nat × List Nat) := (true, [([], []), ([], []), ([0, 1], [0, 1]), ([], []), ([2, 2, 0, 1, 2], [2]), ([3, 4, 0, 1, 2, 3, 4], [3])])
def made10_B : List Nat := [0, 0, 3, 0, 7, 31]
theorem made10_tab : rtab .any (opsOf Tryd.f49 10) = made10_T := by kernel_rfl
theorem made10_bits : waitsOk made10_T.2 made10_B = true := by kernel_rfl

def made12_T : Bool × List (List Nat × List Nat) := (true, [([], []), ([], []), ([0, 1], [0, 1]), ([], []), ([2, 2, 0, 1, 2], [2]), ([3, 4, 0, 1, 2, 3, 4], [3])])
def made12_B : List Nat := [0, 0, 3, 0, 7, 31]
theorem made12_tab : rtab .any (opsOf Tryd.f49 12) = made12_T := by kernel_rfl
theorem made12_bits : waitsOk made12_T.2 made12_B = true := by kernel_rfl

set_option maxHeartbeats 8000000 in
set_option maxRecDepth 100000 in
theorem made_walk (Ar : Option Addr) (nr cr : Nat) (row : List Int) (k : Nat) : ∀ (n i : Int) (As : Option Addr) (ns cs : Nat) (sides : List (List Int)) (W : World), 1 ≤ n → n ≤ 256 → n ≤ (k : Int) → 0 ≤ i → i < n → Bts W Ar nr cr row → row.length < 1000000 → Digs W As ns cs sides →
    Calls Tryd.prog 49 #[.int .i64 n, .int .i64 i, .slice Ar nr cr, .slice As ns cs] W fun e W' => e = .returned (.tuple #[.agg (arr (madeP k n i row sides).1), .bool (madeP k n i row sides).2]) ∧ Below W.heap.size W W' := by
  induction k with
  | zero => intro n i As ns cs sides W h1 h2 h3; omega
  | succ k ih =>
    intro n i As ns cs sides W h1 h2 h3 h4 h5 br hrl bs
    have IH := Aside0.mk ih
    have BR := Aside0.mk br
    have BS := Aside0.mk bs
    have RL := Aside0.mk hrl
    have HB := Aside0.mk (Below.refl W.heap.size W)
    have hsl := bs.len
    clear ih br hrl
    by_cases hn : n = 1
    · have em : madeP (k + 1) n i row sides = (tagOf 7 [row], decide (ns = 0)) := by simp only [madeP]; rw [if_pos hn, hsl]
      rw [em]
      subst hn
      clear em bs hsl
      by_cases hs : ns = 0
      · subst hs
        go_enter Tryd.func49, Tryd.ntmps49
        go_wp2_with (
          first
          | ((with_reducible refine gate_dst (N := 8) rfl ?_); refine box_event ?hg (N := 8) ?hd (cs := arr zeros32) (t := 25) ?hr ?_; (case hd => rfl); (case hg => rfl); (case hr => first | (go_simp; done) | (go_simp; rfl));
                         intro g8 hg w1 hbox hb; have BK8 := Aside0.mk hbox; have G8 := Aside0.mk (show W.heap.size ≤ g8 by rw [hg]; exact below_size HB.out); have n0 := Aside0.mk (below_step HB.out hb); clear HB; have HB := n0; clear n0; clear hb hbox hg)
          | (go_at_call 63; (with_reducible refine (rOne_walk 7 (by decide) Ar nr cr row _ (BR.out.below HB.out) RL.out).mono ?_); rintro e wq ⟨rfl, hb⟩; have n0 := Aside0.mk (blk_below BK8.out hb); have n1 := Aside0.mk (below_step HB.out hb); clear BK8 HB; have BK8 := n0; have HB := n1; clear n0 n1; clear hb)
          | ((with_reducible refine gate_store (p := 8) rfl ?_); refine dig_store rfl (.tmp 8) (.tmp 20) rfl g8 (tagOf 7 [row]) (zeros32) rfl rfl BK8.out (tagOf_len _ _) (rfl) ?_; intro ws bk hoth hbel; have nn := Aside0.mk bk; have n0 := Aside0.mk (hbel _ _ HB.out G8.out); clear HB; have HB := n0; clear n0; clear BK8 bk hoth hbel; have BK8 := nn; clear nn))
        refine bodyPost_ret (results_ct rfl _ _ g8 25 (arr (tagOf 7 [row])) (0, 0) _ rfl BK8.out Tryd.underlying25 rfl (by rw [arr_size, tagOf_len]; exact info_dig)) rfl ?_
        exact ⟨rfl, HB.out⟩
      · have hsd : decide (ns = 0) = false := decide_eq_false hs
        rw [hsd]
        have hs2 : ((ns : Int) == 0) = false := by simp; exact hs
        go_enter Tryd.func49, Tryd.ntmps49
        go_wp2_with (
          first
          | ((with_reducible refine gate_dst (N := 8) rfl ?_); refine box_event ?hg (N := 8) ?hd (cs := arr zeros32) (t := 25) ?hr ?_; (case hd => rfl); (case hg => rfl); (case hr => first | (go_simp; done) | (go_simp; rfl));
                         intro g8 hg w1 hbox hb; have BK8 := Aside0.mk hbox; have G8 := Aside0.mk (show W.heap.size ≤ g8 by rw [hg]; exact below_size HB.out); have n0 := Aside0.mk (below_step HB.out hb); clear HB; have HB := n0; clear n0; clear hb hbox hg)
          | (go_at_call 63; (with_reducible refine (rOne_walk 7 (by decide) Ar nr cr row _ (BR.out.below HB.out) RL.out).mono ?_); rintro e wq ⟨rfl, hb⟩; have n0 := Aside0.mk (blk_below BK8.out hb); have n1 := Aside0.mk (below_step HB.out hb); clear BK8 HB; have BK8 := n0; have HB := n1; clear n0 n1; clear hb)
          | ((with_reducible refine gate_store (p := 8) rfl ?_); refine dig_store rfl (.tmp 8) (.tmp 20) rfl g8 (tagOf 7 [row]) (zeros32) rfl rfl BK8.out (tagOf_len _ _) (rfl) ?_; intro ws bk hoth hbel; have nn := Aside0.mk bk; have n0 := Aside0.mk (hbel _ _ HB.out G8.out); clear HB; have HB := n0; clear n0; clear BK8 bk hoth hbel; have BK8 := nn; clear nn))
        refine bodyPost_ret (results_ct rfl _ _ g8 25 (arr (tagOf 7 [row])) (0, 0) _ rfl BK8.out Tryd.underlying25 rfl (by rw [arr_size, tagOf_len]; exact info_dig)) rfl ?_
        exact ⟨by simp [hs], HB.out⟩
    · have hn2 : ¬ (n = 1) := hn
      by_cases hs : ns = 0
      · have em : madeP (k + 1) n i row sides = (zeros32, false) := by simp only [madeP]; rw [if_neg hn, if_pos (by rw [hsl]; exact hs)]
        rw [em]
        subst hs
        clear em bs hsl
        go_enter Tryd.func49, Tryd.ntmps49
        go_wp2_with (
          first
          | ((with_reducible refine gate_dst (N := 8) rfl ?_); refine box_event ?hg (N := 8) ?hd (cs := arr zeros32) (t := 25) ?hr ?_; (case hd => rfl); (case hg => rfl); (case hr => first | (go_simp; done) | (go_simp; rfl));
                         intro g8 hg w1 hbox hb; have BK8 := Aside0.mk hbox; have G8 := Aside0.mk (show W.heap.size ≤ g8 by rw [hg]; exact below_size HB.out); have n0 := Aside0.mk (below_step HB.out hb); clear HB; have HB := n0; clear n0; clear hb hbox hg)
          | ((with_reducible refine gate_store (p := 8) rfl ?_); refine dig_store rfl (.tmp 8) (.tmp 27) rfl g8 (zeros32) (zeros32) rfl rfl BK8.out (rfl) (rfl) ?_; intro ws bk hoth hbel; have nn := Aside0.mk bk; have n0 := Aside0.mk (hbel _ _ HB.out G8.out); clear HB; have HB := n0; clear n0; clear BK8 bk hoth hbel; have BK8 := nn; clear nn))
        refine bodyPost_ret (results_ct rfl _ _ g8 25 (arr zeros32) (0, 0) _ rfl BK8.out Tryd.underlying25 rfl (by rw [arr_size]; exact info_dig)) rfl ?_
        exact ⟨rfl, HB.out⟩
      · have hpos : 0 < ns := by omega
        obtain ⟨ad, hA, hlc, hld, hrest⟩ := bs.last hpos
        subst hA
        obtain ⟨last, hlast⟩ : ∃ l, sides.getLast?.getD [] = l := ⟨_, rfl⟩
        obtain ⟨rest, hre⟩ : ∃ l, sides.dropLast = l := ⟨_, rfl⟩
        rw [hlast] at hlc hld
        rw [hre] at hrest
        have hf := frontZ_range n (by omega) h2
        obtain ⟨f, ef⟩ : ∃ f, frontZ n = f := ⟨_, rfl⟩
        rw [ef] at hf
        obtain ⟨f1, f2, f3⟩ := hf
        have HF := Aside0.mk ef
        have HLC := Aside0.mk hlc
        have HL2 := Aside0.mk hld
        have HL2L : Aside0 (last.length = 32) := ⟨hld.1⟩
        have HRE := Aside0.mk hrest
        have hmx : (ns : Int) ≤ 9223372036854775807 := by have := bs.max; have := bs.le; omega
        have hw1 : IntKind.i64.wrap ((ns : Int) - 1) = (ns : Int) - 1 := by rw [IntKind.wrap_i64]; omega
        have hix : ∀ W : World, (Instr.indexAt 31 (.slice (some ad) ns cs) (.int .i64 ((ns : Int) - 1))).run Tryd.prog W = .ok (.pointer (some (ad.add ((ns - 1) * 32)))) W := fun W => by
          have := idx_dgs ad ns cs (ns - 1) (by omega) W
          rwa [show ((ns - 1 : Nat) : Int) = (ns : Int) - 1 by omega] at this
        have hct : ∀ W : World, (Instr.slice 31 (.slice (some ad) ns cs) none (some (.int .i64 ((ns : Int) - 1))) none).run Tryd.prog W = .ok (.slice (some ad) (ns - 1) cs) W := fun W => by
          obtain ⟨j, hj, _⟩ := Option.map_eq_some_iff.1 info_dig
          have := cut_to 31 25 .i64 Tryd.underlying31 hj (some ad) ns cs ((ns : Int) - 1) (by omega) (by omega) bs.le W
          rwa [show ((ns : Int) - 1).toNat = ns - 1 by omega] at this
        by_cases hi : i < f
        · obtain ⟨r, hr⟩ : ∃ r, madeP k f i row rest = r := ⟨_, rfl⟩
          have em : madeP (k + 1) n i row sides = (tagOf 8 [r.1, last], r.2) := by
            simp only [madeP]
            rw [if_neg hn, if_neg (by rw [hsl]; exact hs), ef, if_pos hi, hlast, hre, hr]
          rw [em]
          obtain ⟨d, hd⟩ : ∃ d, r.1 = d := ⟨_, rfl⟩
          obtain ⟨b, hb2⟩ : ∃ b, r.2 = b := ⟨_, rfl⟩
          have HD : Aside0 (Dig d) := ⟨by rw [← hd, ← hr]; exact madeP_dig _ _ _ _ _⟩
          have HDL : Aside0 (d.length = 32) := ⟨HD.out.1⟩
          have HC1 : Aside0 (∀ w, Below W.heap.size W w → Calls Tryd.prog 49 #[.int .i64 f, .int .i64 i, .slice Ar nr cr, .slice (some ad) (ns - 1) cs] w fun e W' => e = .returned (.tuple #[.agg (arr d), .bool b]) ∧ Below w.heap.size w W') := ⟨fun w hw => by
            have := IH.out f i (some ad) (ns - 1) cs rest w (by omega) (by omega) (by omega) h4 hi (BR.out.below hw) RL.out (HRE.out.below hw)
            rw [hr, hd, hb2] at this
            exact this⟩
          rw [hd, hb2]
          clear em hd hb2 hr hlc hld hrest hlast hre ef bs hsl IH
          go_enter Tryd.func49, Tryd.ntmps49
          go_wp2_with (
            first
            | ((with_reducible refine gate_dst (N := 8) rfl ?_); refine box_event ?hg (N := 8) ?hd (cs := arr zeros32) (t := 25) ?hr ?_; (case hd => rfl); (case hg => rfl); (case hr => first | (go_simp; done) | (go_simp; rfl));
                         intro g8 hg w1 hbox hb; have BK8 := Aside0.mk hbox; have G8 := Aside0.mk (show W.heap.size ≤ g8 by rw [hg]; exact below_size HB.out); have n0 := Aside0.mk (below_step HB.out hb); clear HB; have HB := n0; clear n0; clear hb hbox hg)
            | ((with_reducible refine gate_dst (N := 33) rfl ?_); refine wl_load_dig rfl (.tmp 32) rfl (ad.add ((ns - 1) * 32)) rfl last HL2L.out (fun i hi => cell_below (HLC.out i hi) HB.out) ?_)
            | ((with_reducible refine gate_dst (N := 10) rfl ?_); refine box_event ?hg (N := 10) ?hd (cs := arr zeros32) (t := 25) ?hr ?_; (case hd => rfl); (case hg => rfl); (case hr => first | (go_simp; done) | (go_simp; rfl));
                         intro g10 hg w1 hbox hb; have BK10 := Aside0.mk hbox; have G10 := Aside0.mk (show W.heap.size ≤ g10 by rw [hg]; exact below_size HB.out); have N8_10 := Aside0.mk (show g8 ≠ g10 by rw [hg]; exact Nat.ne_of_lt (blk_lt BK8.out)); have n0 := Aside0.mk (blk_below BK8.out hb); have n1 := Aside0.mk (below_step HB.out hb); clear BK8 HB; have BK8 := n0; have HB := n1; clear n0 n1; clear hb hbox hg)
            | ((with_reducible refine gate_store (p := 10) rfl ?_); refine dig_store rfl (.tmp 10) (.tmp 33) rfl g10 (last) (zeros32) rfl rfl BK10.out (HL2L.out) (rfl) ?_; intro ws bk hoth hbel; have nn := Aside0.mk bk; have n0 := Aside0.mk ((hoth g8 N8_10.out).trans BK8.out); have n1 := Aside0.mk (hbel _ _ HB.out G10.out); clear BK8 HB; have BK8 := n0; have HB := n1; clear n0 n1; clear BK10 bk hoth hbel; have BK10 := nn; clear nn)
            | (go_at_call 64; (with_reducible refine (beadrollref13_First.calls 12 n f _ (HF.out ▸ first_f n (by omega) h2)).mono ?_); rintro e wq ⟨rfl, ⟨nd, rfl⟩⟩; have n0 := Aside0.mk (blk_below BK8.out (pw_below_drewN (Below.refl _ _) nd)); have n1 := Aside0.mk (blk_below BK10.out (pw_below_drewN (Below.refl _ _) nd)); have n2 := Aside0.mk (pw_below_drewN HB.out nd); clear BK8 BK10 HB; have BK8 := n0; have BK10 := n1; have HB := n2; clear n0 n1 n2)
            | (go_at_call 49; (with_reducible refine (HC1.out _ HB.out).mono ?_); rintro e wq ⟨rfl, hb⟩; have n0 := Aside0.mk (blk_below BK8.out hb); have n1 := Aside0.mk (blk_below BK10.out hb); have n2 := Aside0.mk (below_step HB.out hb); clear BK8 BK10 HB; have BK8 := n0; have BK10 := n1; have HB := n2; clear n0 n1 n2; clear hb)
            | ((with_reducible refine gate_dst (N := 13) rfl ?_); refine box_event ?hg (N := 13) ?hd (cs := arr zeros32) (t := 25) ?hr ?_; (case hd => rfl); (case hg => rfl); (case hr => first | (go_simp; done) | (go_simp; rfl));
                         intro g13 hg w1 hbox hb; have BK13 := Aside0.mk hbox; have G13 := Aside0.mk (show W.heap.size ≤ g13 by rw [hg]; exact below_size HB.out); have N8_13 := Aside0.mk (show g8 ≠ g13 by rw [hg]; exact Nat.ne_of_lt (blk_lt BK8.out)); have N10_13 := Aside0.mk (show g10 ≠ g13 by rw [hg]; exact Nat.ne_of_lt (blk_lt BK10.out)); have n0 := Aside0.mk (blk_below BK8.out hb); have n1 := Aside0.mk (blk_below BK10.out hb); have n2 := Aside0.mk (below_step HB.out hb); clear BK8 BK10 HB; have BK8 := n0; have BK10 := n1; have HB := n2; clear n0 n1 n2; clear hb hbox hg)
            | ((with_reducible refine gate_store (p := 13) rfl ?_); refine dig_store rfl (.tmp 13) (.tmp 50) rfl g13 (d) (zeros32) rfl rfl BK13.out (HDL.out) (rfl) ?_; intro ws bk hoth hbel; have nn := Aside0.mk bk; have n0 := Aside0.mk ((hoth g8 N8_13.out).trans BK8.out); have n1 := Aside0.mk ((hoth g10 N10_13.out).trans BK10.out); have n2 := Aside0.mk (hbel _ _ HB.out G13.out); clear BK8 BK10 HB; have BK8 := n0; have BK10 := n1; have HB := n2; clear n0 n1 n2; clear BK13 bk hoth hbel; have BK13 := nn; clear nn))
          have hs10 := fun W => sl_dig ⟨g10, 0, none⟩ W
          have hs13 := fun W => sl_dig ⟨g13, 0, none⟩ W
          have hb : Below ws.heap.size ws ws.drew := below_drew (Below.refl _ _)
          refine start_ (n := 6) (S := fun w' => True) (ds := []) #[false, false, false, false, false, false] (by kernel_rfl) rfl rfl trivial (fun hHeld => ?_)
          refine with_tabW made10_tab made10_bits (fun HT_ HW_ => ?_)
          have n0 := Aside0.mk (blk_below BK8.out hb)
          have n1 := Aside0.mk (blk_below BK10.out hb)
          have n2 := Aside0.mk (blk_below BK13.out hb)
          have n3 := Aside0.mk (below_step HB.out hb)
          clear BK8 BK10 BK13 HB
          have BK8 := n0
          have BK10 := n1
          have BK13 := n2
          have HB := n3
          clear n0 n1 n2 n3
          clear hb
          generalize ws.drew = wa at BK8 BK10 BK13 HB ⊢
          refine pure_ (i := 0) (N := (some 52)) (v := ?_) (a' := ?_) #[true, false, false, false, false, false] rfl rfl (any_of HT_.out (by kernel_rfl)) (fun _ _ _ h => h) (Or.inl ⟨by rfl, ?_⟩) ?_ ?_
          rotate_left
          · intro w'
            go_simp
            first | with_reducible rfl | (simp; done) | rfl
          rotate_left
          · simp only [Act.put, List.setIfInBounds_toArray, List.set_cons_zero, List.set_cons_succ, i64_w, i32_w]
            rfl
          refine pure_ (i := 1) (N := (some 53)) (v := ?_) (a' := ?_) #[true, true, false, false, false, false] rfl rfl (any_of HT_.out (by kernel_rfl)) (fun _ _ _ h => h) (Or.inl ⟨by rfl, ?_⟩) ?_ ?_
          rotate_left
          · intro w'
            go_simp
            first | with_reducible rfl | (simp; done) | rfl
          rotate_left
          · simp only [Act.put, List.setIfInBounds_toArray, List.set_cons_zero, List.set_cons_succ, i64_w, i32_w]
            rfl
          refine pure_ (i := 3) (N := (some 55)) (v := ?_) (a' := ?_) #[true, true, false, true, false, false] rfl rfl (any_of HT_.out (by kernel_rfl)) (fun _ _ _ h => h) (Or.inl ⟨by rfl, ?_⟩) ?_ ?_
          rotate_left
          · intro w'
            go_simp
            first | with_reducible rfl | (simp; done) | rfl
          rotate_left
          · simp only [Act.put, List.setIfInBounds_toArray, List.set_cons_zero, List.set_cons_succ, i64_w, i32_w]
            rfl
          refine one_ (i := 2) (N := (some 54)) #[true, true, true, true, false, false] rfl rfl (one_of HT_.out (by kernel_rfl)) (by decide) (fun K hK => ?_)
          refine goes_ Tryd.func65 (by kernel_rfl) rfl #[.int .u8 8, .slice (some ⟨g13, 0, none⟩) 32 32, .slice (some ⟨g10, 0, none⟩) 32 32] (by rfl) rfl rfl (by (try simp only [List.map_toArray, List.map_cons, List.map_nil]); first | done | rfl) ?_
          with_reducible refine (rTwo_walk 8 (by decide) _ _ 32 32 32 32 d last _ (dig_bts BK13.out HD.out) (dig_bts BK10.out HL2.out) (by rw [HDL.out]; omega) (by rw [HL2L.out]; omega)).mono ?_
          rintro e0 wb ⟨rfl, hb⟩
          refine ⟨_, rfl, ?_⟩
          have n0 := Aside0.mk (blk_below BK8.out hb); have n1 := Aside0.mk (below_step HB.out hb); clear BK8 HB; have BK8 := n0; have HB := n1; clear n0 n1
          clear hb
          refine hK.out _ _ trivial (fun hHeld => ?_)
          clear hK K
          refine norm_ (a' := ?_) ?_ ?_
          rotate_left
          · show Act.put _ (some 54) _ = _
            simp only [Act.put, List.setIfInBounds_toArray, List.set_cons_zero, List.set_cons_succ, i64_w, i32_w]
            rfl
          refine one_ (i := 4) (N := none) #[true, true, true, true, true, false] rfl rfl (one_of HT_.out (by kernel_rfl)) (by decide) (fun K hK => ?_)
          rw [if_pos (by rfl)]
          refine wp_store_row 25 (.tmp 8) (.tmp 54) rfl g8 (arr (tagOf 8 [d, last])) rfl rfl 25 (arr zeros32) BK8.out (by rw [arr_size, tagOf_len]; exact info_dig) (by rw [arr_size, arr_size, tagOf_len]; rfl) (arr_one _) ?_
          have BF : Aside0 ((World.setRow wb g8 (arr (tagOf 8 [d, last]))).heap[g8]? = some (.cells (arr (tagOf 8 [d, last])) 25 (0, 0))) := ⟨setRow_heap _ g8 _ _ _ _ BK8.out⟩
          have HF := Aside0.mk (below_setRow HB.out G8.out (arr (tagOf 8 [d, last])))
          refine hK.out _ _ trivial (fun _ => ?_)
          clear hK K
          refine pure_ (i := 5) (N := (some 9)) (v := ?_) (a' := ?_) #[true, true, true, true, true, true] rfl rfl (any_of HT_.out (by kernel_rfl)) (fun _ _ _ h => h) (Or.inl ⟨by rfl, ?_⟩) ?_ ?_
          rotate_left
          · intro w'
            go_simp
            first | with_reducible rfl | (simp; done) | rfl
          rotate_left
          · simp only [Act.put, List.setIfInBounds_toArray, List.set_cons_zero, List.set_cons_succ, i64_w, i32_w]
            rfl
          refine done_ (done_of HT_.out (by kernel_rfl)) ?_
          go_wp2
          refine bodyPost_ret (results_ct rfl _ _ g8 25 (arr (tagOf 8 [d, last])) (0, 0) _ rfl BF.out Tryd.underlying25 rfl (by rw [arr_size, tagOf_len]; exact info_dig)) rfl ?_
          exact ⟨rfl, HF.out⟩
        · obtain ⟨r, hr⟩ : ∃ r, madeP k (n - f) (i - f) row rest = r := ⟨_, rfl⟩
          have em : madeP (k + 1) n i row sides = (tagOf 8 [last, r.1], r.2) := by
            simp only [madeP]
            rw [if_neg hn, if_neg (by rw [hsl]; exact hs), ef, if_neg hi, hlast, hre, hr]
          rw [em]
          obtain ⟨d, hd⟩ : ∃ d, r.1 = d := ⟨_, rfl⟩
          obtain ⟨b, hb2⟩ : ∃ b, r.2 = b := ⟨_, rfl⟩
          have HD : Aside0 (Dig d) := ⟨by rw [← hd, ← hr]; exact madeP_dig _ _ _ _ _⟩
          have HDL : Aside0 (d.length = 32) := ⟨HD.out.1⟩
          have HC1 : Aside0 (∀ w, Below W.heap.size W w → Calls Tryd.prog 49 #[.int .i64 (n - f), .int .i64 (i - f), .slice Ar nr cr, .slice (some ad) (ns - 1) cs] w fun e W' => e = .returned (.tuple #[.agg (arr d), .bool b]) ∧ Below w.heap.size w W') := ⟨fun w hw => by
            have := IH.out (n - f) (i - f) (some ad) (ns - 1) cs rest w (by omega) (by omega) (by omega) (by omega) (by omega) (BR.out.below hw) RL.out (HRE.out.below hw)
            rw [hr, hd, hb2] at this
            exact this⟩
          rw [hd, hb2]
          clear em hd hb2 hr hlc hld hrest hlast hre ef bs hsl IH
          go_enter Tryd.func49, Tryd.ntmps49
          go_wp2_with (
            first
            | ((with_reducible refine gate_dst (N := 8) rfl ?_); refine box_event ?hg (N := 8) ?hd (cs := arr zeros32) (t := 25) ?hr ?_; (case hd => rfl); (case hg => rfl); (case hr => first | (go_simp; done) | (go_simp; rfl));
                         intro g8 hg w1 hbox hb; have BK8 := Aside0.mk hbox; have G8 := Aside0.mk (show W.heap.size ≤ g8 by rw [hg]; exact below_size HB.out); have n0 := Aside0.mk (below_step HB.out hb); clear HB; have HB := n0; clear n0; clear hb hbox hg)
            | ((with_reducible refine gate_dst (N := 33) rfl ?_); refine wl_load_dig rfl (.tmp 32) rfl (ad.add ((ns - 1) * 32)) rfl last HL2L.out (fun i hi => cell_below (HLC.out i hi) HB.out) ?_)
            | ((with_reducible refine gate_dst (N := 10) rfl ?_); refine box_event ?hg (N := 10) ?hd (cs := arr zeros32) (t := 25) ?hr ?_; (case hd => rfl); (case hg => rfl); (case hr => first | (go_simp; done) | (go_simp; rfl));
                         intro g10 hg w1 hbox hb; have BK10 := Aside0.mk hbox; have G10 := Aside0.mk (show W.heap.size ≤ g10 by rw [hg]; exact below_size HB.out); have N8_10 := Aside0.mk (show g8 ≠ g10 by rw [hg]; exact Nat.ne_of_lt (blk_lt BK8.out)); have n0 := Aside0.mk (blk_below BK8.out hb); have n1 := Aside0.mk (below_step HB.out hb); clear BK8 HB; have BK8 := n0; have HB := n1; clear n0 n1; clear hb hbox hg)
            | ((with_reducible refine gate_store (p := 10) rfl ?_); refine dig_store rfl (.tmp 10) (.tmp 33) rfl g10 (last) (zeros32) rfl rfl BK10.out (HL2L.out) (rfl) ?_; intro ws bk hoth hbel; have nn := Aside0.mk bk; have n0 := Aside0.mk ((hoth g8 N8_10.out).trans BK8.out); have n1 := Aside0.mk (hbel _ _ HB.out G10.out); clear BK8 HB; have BK8 := n0; have HB := n1; clear n0 n1; clear BK10 bk hoth hbel; have BK10 := nn; clear nn)
            | (go_at_call 64; (with_reducible refine (beadrollref13_First.calls 12 n f _ (HF.out ▸ first_f n (by omega) h2)).mono ?_); rintro e wq ⟨rfl, ⟨nd, rfl⟩⟩; have n0 := Aside0.mk (blk_below BK8.out (pw_below_drewN (Below.refl _ _) nd)); have n1 := Aside0.mk (blk_below BK10.out (pw_below_drewN (Below.refl _ _) nd)); have n2 := Aside0.mk (pw_below_drewN HB.out nd); clear BK8 BK10 HB; have BK8 := n0; have BK10 := n1; have HB := n2; clear n0 n1 n2)
            | (go_at_call 49; (with_reducible refine (HC1.out _ HB.out).mono ?_); rintro e wq ⟨rfl, hb⟩; have n0 := Aside0.mk (blk_below BK8.out hb); have n1 := Aside0.mk (blk_below BK10.out hb); have n2 := Aside0.mk (below_step HB.out hb); clear BK8 BK10 HB; have BK8 := n0; have BK10 := n1; have HB := n2; clear n0 n1 n2; clear hb)
            | ((with_reducible refine gate_dst (N := 15) rfl ?_); refine box_event ?hg (N := 15) ?hd (cs := arr zeros32) (t := 25) ?hr ?_; (case hd => rfl); (case hg => rfl); (case hr => first | (go_simp; done) | (go_simp; rfl));
                         intro g15 hg w1 hbox hb; have BK15 := Aside0.mk hbox; have G15 := Aside0.mk (show W.heap.size ≤ g15 by rw [hg]; exact below_size HB.out); have N8_15 := Aside0.mk (show g8 ≠ g15 by rw [hg]; exact Nat.ne_of_lt (blk_lt BK8.out)); have N10_15 := Aside0.mk (show g10 ≠ g15 by rw [hg]; exact Nat.ne_of_lt (blk_lt BK10.out)); have n0 := Aside0.mk (blk_below BK8.out hb); have n1 := Aside0.mk (blk_below BK10.out hb); have n2 := Aside0.mk (below_step HB.out hb); clear BK8 BK10 HB; have BK8 := n0; have BK10 := n1; have HB := n2; clear n0 n1 n2; clear hb hbox hg)
            | ((with_reducible refine gate_store (p := 15) rfl ?_); refine dig_store rfl (.tmp 15) (.tmp 66) rfl g15 (d) (zeros32) rfl rfl BK15.out (HDL.out) (rfl) ?_; intro ws bk hoth hbel; have nn := Aside0.mk bk; have n0 := Aside0.mk ((hoth g8 N8_15.out).trans BK8.out); have n1 := Aside0.mk ((hoth g10 N10_15.out).trans BK10.out); have n2 := Aside0.mk (hbel _ _ HB.out G15.out); clear BK8 BK10 HB; have BK8 := n0; have BK10 := n1; have HB := n2; clear n0 n1 n2; clear BK15 bk hoth hbel; have BK15 := nn; clear nn))
          have hs10 := fun W => sl_dig ⟨g10, 0, none⟩ W
          have hs15 := fun W => sl_dig ⟨g15, 0, none⟩ W
          have hb : Below ws.heap.size ws ws.drew := below_drew (Below.refl _ _)
          refine start_ (n := 6) (S := fun w' => True) (ds := []) #[false, false, false, false, false, false] (by kernel_rfl) rfl rfl trivial (fun hHeld => ?_)
          refine with_tabW made12_tab made12_bits (fun HT_ HW_ => ?_)
          have n0 := Aside0.mk (blk_below BK8.out hb)
          have n1 := Aside0.mk (blk_below BK10.out hb)
          have n2 := Aside0.mk (blk_below BK15.out hb)
          have n3 := Aside0.mk (below_step HB.out hb)
          clear BK8 BK10 BK15 HB
          have BK8 := n0
          have BK10 := n1
          have BK15 := n2
          have HB := n3
          clear n0 n1 n2 n3
          clear hb
          generalize ws.drew = wa at BK8 BK10 BK15 HB ⊢
          refine pure_ (i := 0) (N := (some 68)) (v := ?_) (a' := ?_) #[true, false, false, false, false, false] rfl rfl (any_of HT_.out (by kernel_rfl)) (fun _ _ _ h => h) (Or.inl ⟨by rfl, ?_⟩) ?_ ?_
          rotate_left
          · intro w'
            go_simp
            first | with_reducible rfl | (simp; done) | rfl
          rotate_left
          · simp only [Act.put, List.setIfInBounds_toArray, List.set_cons_zero, List.set_cons_succ, i64_w, i32_w]
            rfl
          refine pure_ (i := 1) (N := (some 69)) (v := ?_) (a' := ?_) #[true, true, false, false, false, false] rfl rfl (any_of HT_.out (by kernel_rfl)) (fun _ _ _ h => h) (Or.inl ⟨by rfl, ?_⟩) ?_ ?_
          rotate_left
          · intro w'
            go_simp
            first | with_reducible rfl | (simp; done) | rfl
          rotate_left
          · simp only [Act.put, List.setIfInBounds_toArray, List.set_cons_zero, List.set_cons_succ, i64_w, i32_w]
            rfl
          refine pure_ (i := 3) (N := (some 71)) (v := ?_) (a' := ?_) #[true, true, false, true, false, false] rfl rfl (any_of HT_.out (by kernel_rfl)) (fun _ _ _ h => h) (Or.inl ⟨by rfl, ?_⟩) ?_ ?_
          rotate_left
          · intro w'
            go_simp
            first | with_reducible rfl | (simp; done) | rfl
          rotate_left
          · simp only [Act.put, List.setIfInBounds_toArray, List.set_cons_zero, List.set_cons_succ, i64_w, i32_w]
            rfl
          refine one_ (i := 2) (N := (some 70)) #[true, true, true, true, false, false] rfl rfl (one_of HT_.out (by kernel_rfl)) (by decide) (fun K hK => ?_)
          refine goes_ Tryd.func65 (by kernel_rfl) rfl #[.int .u8 8, .slice (some ⟨g10, 0, none⟩) 32 32, .slice (some ⟨g15, 0, none⟩) 32 32] (by rfl) rfl rfl (by (try simp only [List.map_toArray, List.map_cons, List.map_nil]); first | done | rfl) ?_
          with_reducible refine (rTwo_walk 8 (by decide) _ _ 32 32 32 32 last d _ (dig_bts BK10.out HL2.out) (dig_bts BK15.out HD.out) (by rw [HL2L.out]; omega) (by rw [HDL.out]; omega)).mono ?_
          rintro e0 wb ⟨rfl, hb⟩
          refine ⟨_, rfl, ?_⟩
          have n0 := Aside0.mk (blk_below BK8.out hb); have n1 := Aside0.mk (below_step HB.out hb); clear BK8 HB; have BK8 := n0; have HB := n1; clear n0 n1
          clear hb
          refine hK.out _ _ trivial (fun hHeld => ?_)
          clear hK K
          refine norm_ (a' := ?_) ?_ ?_
          rotate_left
          · show Act.put _ (some 70) _ = _
            simp only [Act.put, List.setIfInBounds_toArray, List.set_cons_zero, List.set_cons_succ, i64_w, i32_w]
            rfl
          refine one_ (i := 4) (N := none) #[true, true, true, true, true, false] rfl rfl (one_of HT_.out (by kernel_rfl)) (by decide) (fun K hK => ?_)
          rw [if_pos (by rfl)]
          refine wp_store_row 25 (.tmp 8) (.tmp 70) rfl g8 (arr (tagOf 8 [last, d])) rfl rfl 25 (arr zeros32) BK8.out (by rw [arr_size, tagOf_len]; exact info_dig) (by rw [arr_size, arr_size, tagOf_len]; rfl) (arr_one _) ?_
          have BF : Aside0 ((World.setRow wb g8 (arr (tagOf 8 [last, d]))).heap[g8]? = some (.cells (arr (tagOf 8 [last, d])) 25 (0, 0))) := ⟨setRow_heap _ g8 _ _ _ _ BK8.out⟩
          have HF := Aside0.mk (below_setRow HB.out G8.out (arr (tagOf 8 [last, d])))
          refine hK.out _ _ trivial (fun _ => ?_)
          clear hK K
          refine pure_ (i := 5) (N := (some 9)) (v := ?_) (a' := ?_) #[true, true, true, true, true, true] rfl rfl (any_of HT_.out (by kernel_rfl)) (fun _ _ _ h => h) (Or.inl ⟨by rfl, ?_⟩) ?_ ?_
          rotate_left
          · intro w'
            go_simp
            first | with_reducible rfl | (simp; done) | rfl
          rotate_left
          · simp only [Act.put, List.setIfInBounds_toArray, List.set_cons_zero, List.set_cons_succ, i64_w, i32_w]
            rfl
          refine done_ (done_of HT_.out (by kernel_rfl)) ?_
          go_wp2
          refine bodyPost_ret (results_ct rfl _ _ g8 25 (arr (tagOf 8 [last, d])) (0, 0) _ rfl BF.out Tryd.underlying25 rfl (by rw [arr_size, tagOf_len]; exact info_dig)) rfl ?_
          exact ⟨rfl, HF.out⟩

end Go.Proofs.YtoaimcobcgomjaaDoor.Q
/-
  RowsFit: the module's Fits and the document's say one thing: the walks (written by wip/tools/gen_rowsfit.py).
-/
namespace Go.Proofs.YtoaimcobcgomjaaDoor.Q
open Go.RowKit Go.Proofs.YtoaimcobcgomjaaDoorW.PrintWords Go.Proofs.YtoaimcobcgomjaaDoorW.PrintLast Go.Proofs.YtoaimcobcgomjaaDoorW.PrintMore
set_option linter.unusedVariables false
set_option linter.unusedSimpArgs false

set_option maxHeartbeats 4000000 in
set_option maxRecDepth 100000 in
theorem ffits_out (root : List Int) (hroot : Dig root) (many i : Int) (Ar As : Option Addr) (nr cr ns cs : Nat) (row : List Int) (sides : List (List Int)) (W : World) (br : Bts W Ar nr cr row) (bs : Digs W As ns cs sides) (d : outP many i row = true) :
    Calls Tryd.prog 29 #[.agg (arr root), .int .i64 many, .int .i64 i, .slice Ar nr cr, .slice As ns cs] W fun e W' => e = .returned (.bool (fitsP root many i row sides)) ∧ Below W.heap.size W W' := by
  have e : fitsP root many i row sides = false := by unfold fitsP; rw [if_pos d]
  rw [e]
  have hl := br.len
  simp only [outP, Bool.or_eq_true, decide_eq_true_eq] at d
  rw [hl] at d
  have HB := Aside0.mk (Below.refl W.heap.size W)
  clear e br bs hl hroot
  by_cases h1 : 256 < many
  rotate_left
  by_cases h2 : i < 0
  rotate_left
  by_cases h3 : many ≤ i
  rotate_left
  have h4 : 4096 < (nr : Int) := by omega
  all_goals
    clear d
    go_enter Tryd.func29, Tryd.ntmps29
    go_wp2_with (
      first
      | ((with_reducible refine gate_dst (N := 5) rfl ?_); refine box_event ?hg (N := 5) ?hd (cs := arr root) (t := 25) ?hr ?_; (case hd => rfl); (case hg => rfl); (case hr => first | (go_simp; done) | (go_simp; rfl));
                         intro g5 hg w1 hbox hb; have BK5 := Aside0.mk hbox; have G5 := Aside0.mk (show W.heap.size ≤ g5 by rw [hg]; exact below_size HB.out); have n0 := Aside0.mk (below_step HB.out hb); clear HB; have HB := n0; clear n0; clear hb hbox hg))
    go_ret
    exact ⟨rfl, HB.out⟩
set_option maxHeartbeats 8000000 in
set_option maxRecDepth 100000 in
theorem ffits_in (root : List Int) (hroot : Dig root) (many i : Int) (Ar As : Option Addr) (nr cr ns cs : Nat) (row : List Int) (sides : List (List Int)) (W : World) (br : Bts W Ar nr cr row) (bs : Digs W As ns cs sides) (d : outP many i row = false) :
    Calls Tryd.prog 29 #[.agg (arr root), .int .i64 many, .int .i64 i, .slice Ar nr cr, .slice As ns cs] W fun e W' => e = .returned (.bool (fitsP root many i row sides)) ∧ Below W.heap.size W W' := by
  have hl := br.len
  have ef := fits_made root many i row sides d
  simp only [outP, Bool.or_eq_false_iff, decide_eq_false_iff_not] at d
  rw [hl] at d
  obtain ⟨⟨⟨d1, d2⟩, d3⟩, d4⟩ := d
  obtain ⟨r, hr⟩ : ∃ r, madeP 256 many i row sides = r := ⟨_, rfl⟩
  rw [hr] at ef
  obtain ⟨m, hm⟩ : ∃ m, r.1 = m := ⟨_, rfl⟩
  obtain ⟨b, hb⟩ : ∃ b, r.2 = b := ⟨_, rfl⟩
  rw [hm, hb] at ef
  rw [ef]
  have MD : Aside0 (Dig m) := ⟨by rw [← hm, ← hr]; exact madeP_dig _ _ _ _ _⟩
  have ML : Aside0 (m.length = 32) := ⟨MD.out.1⟩
  have HR := Aside0.mk hroot
  have ROOTL : Aside0 (root.length = 32) := ⟨hroot.1⟩
  have HC1 : Aside0 (∀ w, Below W.heap.size W w → Calls Tryd.prog 49 #[.int .i64 many, .int .i64 i, .slice Ar nr cr, .slice As ns cs] w fun e W' => e = .returned (.tuple #[.agg (arr m), .bool b]) ∧ Below w.heap.size w W') := ⟨fun w hw => by
    have := made_walk Ar nr cr row 256 many i As ns cs sides w (by omega) (by omega) (by omega) (by omega) (by omega) (br.below hw) (by rw [hl]; omega) (bs.below hw)
    rw [hr, hm, hb] at this
    exact this⟩
  have HB := Aside0.mk (Below.refl W.heap.size W)
  have hse : ∀ W, (binOp .eql 25 (.agg (arr m)) (.agg (arr root))).run Tryd.prog W = .ok (.bool (decide (m = root))) W := fun W => run_eql_dig m root MD.out HR.out W
  have heg := eqg_dig
  clear ef br bs hl hroot hr hm hb
  cases b with
  | false =>
    rw [Bool.false_and]
    go_enter Tryd.func29, Tryd.ntmps29
    go_wp2_with (
      first
      | ((with_reducible refine gate_dst (N := 5) rfl ?_); refine box_event ?hg (N := 5) ?hd (cs := arr root) (t := 25) ?hr ?_; (case hd => rfl); (case hg => rfl); (case hr => first | (go_simp; done) | (go_simp; rfl));
                         intro g5 hg w1 hbox hb; have BK5 := Aside0.mk hbox; have G5 := Aside0.mk (show W.heap.size ≤ g5 by rw [hg]; exact below_size HB.out); have n0 := Aside0.mk (below_step HB.out hb); clear HB; have HB := n0; clear n0; clear hb hbox hg)
      | (go_at_call 49; (with_reducible refine (HC1.out _ HB.out).mono ?_); rintro e wq ⟨rfl, hb⟩; have n0 := Aside0.mk (blk_below BK5.out hb); have n1 := Aside0.mk (below_step HB.out hb); clear BK5 HB; have BK5 := n0; have HB := n1; clear n0 n1; clear hb)
      | ((with_reducible refine gate_dst (N := 11) rfl ?_); refine box_event ?hg (N := 11) ?hd (cs := arr zeros32) (t := 25) ?hr ?_; (case hd => rfl); (case hg => rfl); (case hr => first | (go_simp; done) | (go_simp; rfl));
                         intro g11 hg w1 hbox hb; have BK11 := Aside0.mk hbox; have G11 := Aside0.mk (show W.heap.size ≤ g11 by rw [hg]; exact below_size HB.out); have N5_11 := Aside0.mk (show g5 ≠ g11 by rw [hg]; exact Nat.ne_of_lt (blk_lt BK5.out)); have n0 := Aside0.mk (blk_below BK5.out hb); have n1 := Aside0.mk (below_step HB.out hb); clear BK5 HB; have BK5 := n0; have HB := n1; clear n0 n1; clear hb hbox hg)
      | ((with_reducible refine gate_store (p := 11) rfl ?_); refine dig_store rfl (.tmp 11) (.tmp 35) rfl g11 (m) (zeros32) rfl rfl BK11.out (ML.out) (rfl) ?_; intro ws bk hoth hbel; have nn := Aside0.mk bk; have n0 := Aside0.mk ((hoth g5 N5_11.out).trans BK5.out); have n1 := Aside0.mk (hbel _ _ HB.out G11.out); clear BK5 HB; have BK5 := n0; have HB := n1; clear n0 n1; clear BK11 bk hoth hbel; have BK11 := nn; clear nn))
    go_ret
    exact ⟨rfl, HB.out⟩
  | true =>
    rw [Bool.true_and]
    go_enter Tryd.func29, Tryd.ntmps29
    go_wp2_with (
      first
      | ((with_reducible refine gate_dst (N := 5) rfl ?_); refine box_event ?hg (N := 5) ?hd (cs := arr root) (t := 25) ?hr ?_; (case hd => rfl); (case hg => rfl); (case hr => first | (go_simp; done) | (go_simp; rfl));
                         intro g5 hg w1 hbox hb; have BK5 := Aside0.mk hbox; have G5 := Aside0.mk (show W.heap.size ≤ g5 by rw [hg]; exact below_size HB.out); have n0 := Aside0.mk (below_step HB.out hb); clear HB; have HB := n0; clear n0; clear hb hbox hg)
      | (go_at_call 49; (with_reducible refine (HC1.out _ HB.out).mono ?_); rintro e wq ⟨rfl, hb⟩; have n0 := Aside0.mk (blk_below BK5.out hb); have n1 := Aside0.mk (below_step HB.out hb); clear BK5 HB; have BK5 := n0; have HB := n1; clear n0 n1; clear hb)
      | ((with_reducible refine gate_dst (N := 11) rfl ?_); refine box_event ?hg (N := 11) ?hd (cs := arr zeros32) (t := 25) ?hr ?_; (case hd => rfl); (case hg => rfl); (case hr => first | (go_simp; done) | (go_simp; rfl));
                         intro g11 hg w1 hbox hb; have BK11 := Aside0.mk hbox; have G11 := Aside0.mk (show W.heap.size ≤ g11 by rw [hg]; exact below_size HB.out); have N5_11 := Aside0.mk (show g5 ≠ g11 by rw [hg]; exact Nat.ne_of_lt (blk_lt BK5.out)); have n0 := Aside0.mk (blk_below BK5.out hb); have n1 := Aside0.mk (below_step HB.out hb); clear BK5 HB; have BK5 := n0; have HB := n1; clear n0 n1; clear hb hbox hg)
      | ((with_reducible refine gate_store (p := 11) rfl ?_); refine dig_store rfl (.tmp 11) (.tmp 35) rfl g11 (m) (zeros32) rfl rfl BK11.out (ML.out) (rfl) ?_; intro ws bk hoth hbel; have nn := Aside0.mk bk; have n0 := Aside0.mk ((hoth g5 N5_11.out).trans BK5.out); have n1 := Aside0.mk (hbel _ _ HB.out G11.out); clear BK5 HB; have BK5 := n0; have HB := n1; clear n0 n1; clear BK11 bk hoth hbel; have BK11 := nn; clear nn)
      | ((with_reducible refine gate_dst (N := 39) rfl ?_); refine gate_guard (by rfl) ?_; refine wpList_load_row rfl 25 (.tmp 11) rfl g11 rfl 25 (arr m) (0, 0) _ BK11.out Tryd.underlying25 rfl (by rw [arr_size, ML.out]; exact info_dig) ?_)
      | ((with_reducible refine gate_dst (N := 40) rfl ?_); refine gate_guard (by rfl) ?_; refine wpList_load_row rfl 25 (.tmp 5) rfl g5 rfl 25 (arr root) (0, 0) _ BK5.out Tryd.underlying25 rfl (by rw [arr_size, ROOTL.out]; exact info_dig) ?_))
    go_ret
    exact ⟨rfl, HB.out⟩
def rfit_T : Bool × List (List Nat × List Nat) := (true, [([], []), ([], []), ([], []), ([], []), ([], []), ([0, 1, 2, 3, 4], [0, 1, 2, 3, 4]), ([], []), ([], []), ([], []), ([], []), ([], []), ([6, 7, 8, 9, 10, 5], [6, 7, 8, 9, 10]), ([5, 11], [5, 11]), ([12, 11, 0, 1, 2, 3, 4, 5, 6, 7, 8, 9, 10, 11, 12], [12])])
def rfit_B : List Nat := [0, 0, 0, 0, 0, 31, 0, 0, 0, 0, 0, 2047, 4095, 8191]
theorem rfit_tab : rtab .any (opsOf Tryd.f9 3) = rfit_T := by kernel_rfl
theorem rfit_bits : waitsOk rfit_T.2 rfit_B = true := by kernel_rfl

theorem rf_any (root : List Int) (hroot : Dig root) (many i : Int) (Ar As : Option Addr) (nr cr ns cs : Nat) (row : List Int) (sides : List (List Int)) (W : World) (br : Bts W Ar nr cr row) (bs : Digs W As ns cs sides) (hsl : ns < 1000000) (hk : KT W) : Calls Tryd.prog 20 #[.agg (arr root), .int .i64 many, .int .i64 i, .slice Ar nr cr, .slice As ns cs] W fun e W' => e = .returned (.bool (fitsP root many i row sides)) ∧ Below W.heap.size W W' := by
  cases d : outP many i row with
  | true => exact fits_out root hroot many i Ar As nr cr ns cs row sides W br bs hk d
  | false => exact fits_in root hroot many i Ar As nr cr ns cs row sides W br bs hk d hsl
theorem rff_any (root : List Int) (hroot : Dig root) (many i : Int) (Ar As : Option Addr) (nr cr ns cs : Nat) (row : List Int) (sides : List (List Int)) (W : World) (br : Bts W Ar nr cr row) (bs : Digs W As ns cs sides) : Calls Tryd.prog 29 #[.agg (arr root), .int .i64 many, .int .i64 i, .slice Ar nr cr, .slice As ns cs] W fun e W' => e = .returned (.bool (fitsP root many i row sides)) ∧ Below W.heap.size W W' := by
  cases d : outP many i row with
  | true => exact ffits_out root hroot many i Ar As nr cr ns cs row sides W br bs d
  | false => exact ffits_in root hroot many i Ar As nr cr ns cs row sides W br bs d
set_option maxHeartbeats 8000000 in
set_option maxRecDepth 100000 in
theorem rowsFit_walk (root : List Int) (hroot : Dig root) (many i : Int) (Ar As : Option Addr) (nr cr ns cs : Nat) (row : List Int) (sides : List (List Int)) (W : World) (br : Bts W Ar nr cr row) (bs : Digs W As ns cs sides) (hk : KT W) :
    Calls Tryd.prog 9 #[.agg (arr root), .int .i64 many, .int .i64 i, .slice Ar nr cr, .slice As ns cs] W fun e W' => e = .returned (.bool true) ∧ Below W.heap.size W W' := by
  have HB := Aside0.mk (Below.refl W.heap.size W)
  by_cases h1 : 20 < (ns : Int)
  · clear br bs hk
    go_enter Tryd.func9, Tryd.ntmps9
    go_wp2_with (
      first
      | ((with_reducible refine gate_dst (N := 5) rfl ?_); refine box_event ?hg (N := 5) ?hd (cs := arr root) (t := 25) ?hr ?_; (case hd => rfl); (case hg => rfl); (case hr => first | (go_simp; done) | (go_simp; rfl));
                         intro g5 hg w1 hbox hb; have BK5 := Aside0.mk hbox; have G5 := Aside0.mk (show W.heap.size ≤ g5 by rw [hg]; exact below_size HB.out); have n0 := Aside0.mk (below_step HB.out hb); clear HB; have HB := n0; clear n0; clear hb hbox hg))
    go_ret
    exact ⟨rfl, HB.out⟩
  by_cases h2 : 5000 < (nr : Int)
  · clear br bs hk
    go_enter Tryd.func9, Tryd.ntmps9
    go_wp2_with (
      first
      | ((with_reducible refine gate_dst (N := 5) rfl ?_); refine box_event ?hg (N := 5) ?hd (cs := arr root) (t := 25) ?hr ?_; (case hd => rfl); (case hg => rfl); (case hr => first | (go_simp; done) | (go_simp; rfl));
                         intro g5 hg w1 hbox hb; have BK5 := Aside0.mk hbox; have G5 := Aside0.mk (show W.heap.size ≤ g5 by rw [hg]; exact below_size HB.out); have n0 := Aside0.mk (below_step HB.out hb); clear HB; have HB := n0; clear n0; clear hb hbox hg))
    go_ret
    exact ⟨rfl, HB.out⟩
  · have ROOTL : Aside0 (root.length = 32) := ⟨hroot.1⟩
    obtain ⟨b, hb⟩ : ∃ b, fitsP root many i row sides = b := ⟨_, rfl⟩
    have H1 : Aside0 (∀ w, Below W.heap.size W w → Calls Tryd.prog 20 #[.agg (arr root), .int .i64 many, .int .i64 i, .slice Ar nr cr, .slice As ns cs] w fun e W' => e = .returned (.bool b) ∧ Below w.heap.size w W') := ⟨fun w hw => hb ▸ rf_any root hroot many i Ar As nr cr ns cs row sides w (br.below hw) (bs.below hw) (by omega) (hk.below hk.lt hw)⟩
    have H2 : Aside0 (∀ w, Below W.heap.size W w → Calls Tryd.prog 29 #[.agg (arr root), .int .i64 many, .int .i64 i, .slice Ar nr cr, .slice As ns cs] w fun e W' => e = .returned (.bool b) ∧ Below w.heap.size w W') := ⟨fun w hw => hb ▸ rff_any root hroot many i Ar As nr cr ns cs row sides w (br.below hw) (bs.below hw)⟩
    clear br bs hk hb hroot
    go_enter Tryd.func9, Tryd.ntmps9
    go_wp2_with (
      first
      | ((with_reducible refine gate_dst (N := 5) rfl ?_); refine box_event ?hg (N := 5) ?hd (cs := arr root) (t := 25) ?hr ?_; (case hd => rfl); (case hg => rfl); (case hr => first | (go_simp; done) | (go_simp; rfl));
                         intro g5 hg w1 hbox hb; have BK5 := Aside0.mk hbox; have G5 := Aside0.mk (show W.heap.size ≤ g5 by rw [hg]; exact below_size HB.out); have n0 := Aside0.mk (below_step HB.out hb); clear HB; have HB := n0; clear n0; clear hb hbox hg))
    have HC : Aside0 (Below w1.heap.size w1 w1.drew) := ⟨below_drew (Below.refl _ _)⟩
    refine start_ (n := 14) (S := fun w' => w'.heap[g5]? = some (.cells (arr root) 25 (0, 0))) (ds := []) #[false, false, false, false, false, false, false, false, false, false, false, false, false, false] (by kernel_rfl) rfl rfl (blk_drew BK5.out) (fun hHeld => ?_)
    refine with_tabW rfit_tab rfit_bits (fun HT_ HW_ => ?_)
    have n0 := Aside0.mk (blk_below BK5.out HC.out)
    have n1 := Aside0.mk (below_step HB.out HC.out)
    clear BK5 HB
    have BK5 := n0
    have HB := n1
    clear n0 n1
    clear HC
    generalize w1.drew = wa at HB BK5 hHeld ⊢
    refine take_ (i := 0) (N := (some 19)) (v := ?_) (a' := ?_) #[true, false, false, false, false, false, false, false, false, false, false, false, false, false] rfl rfl (take_ofW HT_.out HW_.out (by kernel_rfl)) (fun _ _ _ h => h) (Or.inl ⟨by rfl, ?_⟩) hHeld ?_ ?_
    rotate_left
    · rintro w' s0
      refine dig_load (x := .tmp 5) ?_ ?_ s0 ROOTL.out <;> rfl
    rotate_left
    · simp only [Act.put, List.setIfInBounds_toArray, List.set_cons_zero, List.set_cons_succ, i64_w, i32_w]
      rfl
    refine pure_ (i := 1) (N := (some 20)) (v := ?_) (a' := ?_) #[true, true, false, false, false, false, false, false, false, false, false, false, false, false] rfl rfl (any_of HT_.out (by kernel_rfl)) (fun _ _ _ h => h) (Or.inl ⟨by rfl, ?_⟩) ?_ ?_
    rotate_left
    · intro w'
      go_simp
      first | with_reducible rfl | (simp; done) | rfl
    rotate_left
    · simp only [Act.put, List.setIfInBounds_toArray, List.set_cons_zero, List.set_cons_succ, i64_w, i32_w]
      rfl
    refine pure_ (i := 2) (N := (some 21)) (v := ?_) (a' := ?_) #[true, true, true, false, false, false, false, false, false, false, false, false, false, false] rfl rfl (any_of HT_.out (by kernel_rfl)) (fun _ _ _ h => h) (Or.inl ⟨by rfl, ?_⟩) ?_ ?_
    rotate_left
    · intro w'
      go_simp
      first | with_reducible rfl | (simp; done) | rfl
    rotate_left
    · simp only [Act.put, List.setIfInBounds_toArray, List.set_cons_zero, List.set_cons_succ, i64_w, i32_w]
      rfl
    refine pure_ (i := 3) (N := (some 22)) (v := ?_) (a' := ?_) #[true, true, true, true, false, false, false, false, false, false, false, false, false, false] rfl rfl (any_of HT_.out (by kernel_rfl)) (fun _ _ _ h => h) (Or.inl ⟨by rfl, ?_⟩) ?_ ?_
    rotate_left
    · intro w'
      go_simp
      first | with_reducible rfl | (simp; done) | rfl
    rotate_left
    · simp only [Act.put, List.setIfInBounds_toArray, List.set_cons_zero, List.set_cons_succ, i64_w, i32_w]
      rfl
    refine pure_ (i := 4) (N := (some 23)) (v := ?_) (a' := ?_) #[true, true, true, true, true, false, false, false, false, false, false, false, false, false] rfl rfl (any_of HT_.out (by kernel_rfl)) (fun _ _ _ h => h) (Or.inl ⟨by rfl, ?_⟩) ?_ ?_
    rotate_left
    · intro w'
      go_simp
      first | with_reducible rfl | (simp; done) | rfl
    rotate_left
    · simp only [Act.put, List.setIfInBounds_toArray, List.set_cons_zero, List.set_cons_succ, i64_w, i32_w]
      rfl
    refine take_ (i := 6) (N := (some 25)) (v := ?_) (a' := ?_) #[true, true, true, true, true, false, true, false, false, false, false, false, false, false] rfl rfl (take_ofW HT_.out HW_.out (by kernel_rfl)) (fun _ _ _ h => h) (Or.inl ⟨by rfl, ?_⟩) hHeld ?_ ?_
    rotate_left
    · rintro w' s0
      refine dig_load (x := .tmp 5) ?_ ?_ s0 ROOTL.out <;> rfl
    rotate_left
    · simp only [Act.put, List.setIfInBounds_toArray, List.set_cons_zero, List.set_cons_succ, i64_w, i32_w]
      rfl
    refine pure_ (i := 7) (N := (some 26)) (v := ?_) (a' := ?_) #[true, true, true, true, true, false, true, true, false, false, false, false, false, false] rfl rfl (any_of HT_.out (by kernel_rfl)) (fun _ _ _ h => h) (Or.inl ⟨by rfl, ?_⟩) ?_ ?_
    rotate_left
    · intro w'
      go_simp
      first | with_reducible rfl | (simp; done) | rfl
    rotate_left
    · simp only [Act.put, List.setIfInBounds_toArray, List.set_cons_zero, List.set_cons_succ, i64_w, i32_w]
      rfl
    refine pure_ (i := 8) (N := (some 27)) (v := ?_) (a' := ?_) #[true, true, true, true, true, false, true, true, true, false, false, false, false, false] rfl rfl (any_of HT_.out (by kernel_rfl)) (fun _ _ _ h => h) (Or.inl ⟨by rfl, ?_⟩) ?_ ?_
    rotate_left
    · intro w'
      go_simp
      first | with_reducible rfl | (simp; done) | rfl
    rotate_left
    · simp only [Act.put, List.setIfInBounds_toArray, List.set_cons_zero, List.set_cons_succ, i64_w, i32_w]
      rfl
    refine pure_ (i := 9) (N := (some 28)) (v := ?_) (a' := ?_) #[true, true, true, true, true, false, true, true, true, true, false, false, false, false] rfl rfl (any_of HT_.out (by kernel_rfl)) (fun _ _ _ h => h) (Or.inl ⟨by rfl, ?_⟩) ?_ ?_
    rotate_left
    · intro w'
      go_simp
      first | with_reducible rfl | (simp; done) | rfl
    rotate_left
    · simp only [Act.put, List.setIfInBounds_toArray, List.set_cons_zero, List.set_cons_succ, i64_w, i32_w]
      rfl
    refine pure_ (i := 10) (N := (some 29)) (v := ?_) (a' := ?_) #[true, true, true, true, true, false, true, true, true, true, true, false, false, false] rfl rfl (any_of HT_.out (by kernel_rfl)) (fun _ _ _ h => h) (Or.inl ⟨by rfl, ?_⟩) ?_ ?_
    rotate_left
    · intro w'
      go_simp
      first | with_reducible rfl | (simp; done) | rfl
    rotate_left
    · simp only [Act.put, List.setIfInBounds_toArray, List.set_cons_zero, List.set_cons_succ, i64_w, i32_w]
      rfl
    refine one_ (i := 5) (N := (some 24)) #[true, true, true, true, true, true, true, true, true, true, true, false, false, false] rfl rfl (one_of HT_.out (by kernel_rfl)) (by decide) (fun K hK => ?_)
    refine goes_ Tryd.func20 (by kernel_rfl) rfl #[.agg (arr root), .int .i64 many, .int .i64 i, .slice Ar nr cr, .slice As ns cs] (by rfl) rfl rfl (by (try simp only [List.map_toArray, List.map_cons, List.map_nil]); first | done | rfl) ?_
    with_reducible refine (H1.out _ HB.out).mono ?_
    rintro e0 wb ⟨rfl, hb⟩
    refine ⟨_, rfl, ?_⟩
    have HC := Aside0.mk hb
    clear hb
    refine hK.out _ _ (blk_below BK5.out HC.out) (fun hHeld => ?_)
    clear hK K
    refine norm_ (a' := ?_) ?_ ?_
    rotate_left
    · show Act.put _ (some 24) _ = _
      simp only [Act.put, List.setIfInBounds_toArray, List.set_cons_zero, List.set_cons_succ, i64_w, i32_w]
      rfl
    have n0 := Aside0.mk (blk_below BK5.out HC.out)
    have n1 := Aside0.mk (below_step HB.out HC.out)
    clear BK5 HB
    have BK5 := n0
    have HB := n1
    clear n0 n1
    clear HC
    refine one_ (i := 11) (N := (some 30)) #[true, true, true, true, true, true, true, true, true, true, true, true, false, false] rfl rfl (one_of HT_.out (by kernel_rfl)) (by decide) (fun K hK => ?_)
    refine goes_ Tryd.func29 (by kernel_rfl) rfl #[.agg (arr root), .int .i64 many, .int .i64 i, .slice Ar nr cr, .slice As ns cs] (by rfl) rfl rfl (by (try simp only [List.map_toArray, List.map_cons, List.map_nil]); first | done | rfl) ?_
    with_reducible refine (H2.out _ HB.out).mono ?_
    rintro e0 wc ⟨rfl, hb⟩
    refine ⟨_, rfl, ?_⟩
    have HC := Aside0.mk hb
    clear hb
    refine hK.out _ _ (blk_below BK5.out HC.out) (fun hHeld => ?_)
    clear hK K
    refine norm_ (a' := ?_) ?_ ?_
    rotate_left
    · show Act.put _ (some 30) _ = _
      simp only [Act.put, List.setIfInBounds_toArray, List.set_cons_zero, List.set_cons_succ, i64_w, i32_w]
      rfl
    have n0 := Aside0.mk (blk_below BK5.out HC.out)
    have n1 := Aside0.mk (below_step HB.out HC.out)
    clear BK5 HB
    have BK5 := n0
    have HB := n1
    clear n0 n1
    clear HC
    refine pure_ (i := 12) (N := (some 31)) (v := ?_) (a' := ?_) #[true, true, true, true, true, true, true, true, true, true, true, true, true, false] rfl rfl (any_of HT_.out (by kernel_rfl)) (fun _ _ _ h => h) (Or.inl ⟨by rfl, ?_⟩) ?_ ?_
    rotate_left
    · intro w'
      go_simp
      first | with_reducible rfl | (simp; done) | rfl
    rotate_left
    · simp only [Act.put, List.setIfInBounds_toArray, List.set_cons_zero, List.set_cons_succ, i64_w, i32_w]
      rfl
    refine pure_ (i := 13) (N := (some 10)) (v := ?_) (a' := ?_) #[true, true, true, true, true, true, true, true, true, true, true, true, true, true] rfl rfl (any_of HT_.out (by kernel_rfl)) (fun _ _ _ h => h) (Or.inl ⟨by rfl, ?_⟩) ?_ ?_
    rotate_left
    · intro w'
      go_simp
      first | with_reducible rfl | (simp; done) | rfl
    rotate_left
    · simp only [Act.put, List.setIfInBounds_toArray, List.set_cons_zero, List.set_cons_succ, i64_w, i32_w]
      rfl
    refine done_ (done_of HT_.out (by kernel_rfl)) ?_
    go_wp2
    go_ret
    exact ⟨rfl, HB.out⟩
end Go.Proofs.YtoaimcobcgomjaaDoor.Q
/-
  A slice of digests that comes in.
-/
namespace Go.Proofs.YtoaimcobcgomjaaDoor.Q
open Go.RowKit Go.ChangeShapes Go.WideShapes Go.ChangeAt Go.Deep Go.Joins Go.Proofs.YtoaimcobcgomjaaDoorW.PrintWords
def litOf (v : Value) : Int := match v with | .int _ n => n | _ => 0
set_option maxRecDepth 100000 in
theorem open_dig_cells {H : Type} {enc : TypeId × Value → H} {W : World} {base : Nat} {sp : Nat → Bool} {held : Bool} {fuel : Nat} {cs : List Value} {x : DataW H × List MemPlace} (hf : DataW.trod enc Tryd.prog W base sp held fuel 25 cs = some x) :
    ∃ ds : List Int, Dig ds ∧ ∀ i, i < 32 → cs[i]? = some (.int .u8 (rd ds (i : Int))) := by
  have hc : Tryd.prog.cellsOf 25 = 32 := by kernel_rfl
  have hc5 : Tryd.prog.cellsOf 5 = 1 := by kernel_rfl
  obtain ⟨xs, m, _, _, hsz, hxl, hx⟩ := DataW.trod_array Tryd.underlying25 hf
  rw [hc] at hsz
  have hat : ∀ i (hi : i < 32), ∃ a : Int, cs[i]'(by omega) = .int .u8 a ∧ 0 ≤ a ∧ a < 256 := fun i hi => by
    have h1 := hx i hi
    rw [hc5, Nat.mul_one] at h1
    have e1 : (cs.drop i).take 1 = [cs[i]'(by omega)] := by
      rw [List.drop_eq_getElem_cons (by omega)]
      rfl
    rw [e1, List.getElem?_eq_getElem (by omega)] at h1
    obtain ⟨a, ha, _, hw⟩ := DataW.trod_int Tryd.underlying5 h1
    have hb := bounds_u8 hw
    exact ⟨a, by simpa using ha, by omega, by omega⟩
  refine ⟨cs.map litOf, ⟨by simp [hsz], fun x hx => ?_⟩, fun i hi => ?_⟩
  · obtain ⟨v, hv, rfl⟩ := List.mem_map.1 hx
    obtain ⟨i, hi, rfl⟩ := List.mem_iff_getElem.1 hv
    obtain ⟨a, ha, h0, h1⟩ := hat i (by omega)
    rw [ha]
    exact ⟨h0, h1⟩
  · obtain ⟨a, ha, _, _⟩ := hat i hi
    rw [List.getElem?_eq_getElem (by omega), ha]
    have : rd (cs.map litOf) (i : Int) = a := by
      unfold rd
      simp [show i < cs.length by omega, ha, litOf]
    rw [this]
set_option maxRecDepth 100000 in
theorem open_digs {H : Type} {enc : TypeId × Value → H} {W : World} {r : Reach} {b0 base : Nat} {sp : Nat → Bool} {held : Bool} {v : Value} {d : DataW H} {p : List MemPlace} (ho : Value.okWide Tryd.prog W r b0 31 v) (h : DataW.Trod enc Tryd.prog W base sp held 31 v d p) :
    ∃ A l c n, v = .slice A n c ∧ Digs W A n c l := by
  obtain ⟨fuel, hf⟩ := h
  simp only [Value.okWide, Tryd.underlying31] at ho
  obtain ⟨A, n, c, hv⟩ := slice_form Tryd.underlying31 hf
  have hc : Tryd.prog.cellsOf 25 = 32 := by kernel_rfl
  rcases open_slice Tryd.underlying31 hf with ⟨hcs, _⟩ | ⟨x, len, cap, m, k, D, Pl, hcs, _, hl, hm, hme, _, hel⟩
  · obtain rfl : v = .slice none 0 0 := by
      cases v <;> simp [Value.cells] at hcs hv ⊢
      all_goals first | exact hcs | (simp [Cell.okWide, Cell.ok, Tryd.underlying31] at ho)
    exact ⟨none, [], 0, 0, rfl, ⟨rfl, Nat.le_refl _, by omega, fun j hj => by simp at hj, fun d hd => by cases hd⟩⟩
  · obtain rfl : v = .slice (some x) len cap := by
      cases v <;> simp [Value.cells] at hcs hv ⊢
      all_goals first | exact hcs | (simp [Cell.okWide, Cell.ok, Tryd.underlying31] at ho)
    have hlm : len ≤ m := by rw [hme]; split <;> omega
    have each : ∀ i, ∃ ds : List Int, i < len → Dig ds ∧ ∀ q, q < 32 → W.cell? ((x.add (i * 32)).add q) = some (.int .u8 (rd ds (q : Int))) := fun i => by
      by_cases hi : i < len
      · obtain ⟨cs', hcc, ht⟩ := hel i (by omega)
        rw [hc] at hcc
        obtain ⟨ds, hd, hat⟩ := open_dig_cells ht
        obtain ⟨_, hcl, hce⟩ := World.cells?_some hcc
        refine ⟨ds, fun _ => ⟨hd, fun q hq => ?_⟩⟩
        rw [← hat q hq]
        exact hce q hq
      · exact ⟨[], fun h => absurd h hi⟩
    obtain ⟨f, hf2⟩ := Classical.axiomOfChoice each
    refine ⟨some x, (List.range len).map f, cap, len, rfl, ⟨by simp, hl, by unfold maxLen at hm; omega, fun j hj => ⟨x, rfl, fun q hq => ?_⟩, fun d hd => ?_⟩⟩
    · have hj' : j < len := by simpa using hj
      rw [← addr_add, (hf2 j hj').2 q hq]
      simp
    · obtain ⟨j, hj, rfl⟩ := List.mem_map.1 hd
      exact (hf2 j (by simpa using hj)).1
end Go.Proofs.YtoaimcobcgomjaaDoor.Q
