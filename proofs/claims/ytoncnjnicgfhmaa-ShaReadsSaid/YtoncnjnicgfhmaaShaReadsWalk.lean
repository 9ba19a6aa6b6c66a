/-
  ShaReads answers true for every digest and text: a digest's text, and a text's digest, or the error, are the document's. This text: the law's walk (written by wip/tools/gen_shareads.py).
-/
import Derived.Test.YtoncnjnicgfhmaaShaRefRead
import Derived.Test.YtoncnjnicgfhmaaShaRefHex
import Derived.Stop.BytesEq
namespace Go.Proofs.Ytoncnjnicgfhmaa.Q
open Go.RowKit Go.Proofs.YtoncnjnicgfhmaaW.PrintWords Go.Proofs.YtoncnjnicgfhmaaW.PrintLast Go.Proofs.YtoncnjnicgfhmaaW.PrintMore
set_option linter.unusedVariables false
set_option linter.unusedSimpArgs false

theorem dig_load {o : Oper} {a : Act} {W : World} {x : Operand} {g : Nat} {ds : List Int} (ho : o.op = .load 47 x) (hx : a.eval x = .pointer (some ⟨g, 0, none⟩)) (hg : W.heap[g]? = some (.cells (arr ds) 47 (0, 0))) (hl : ds.length = 32) :
    (execOp a.eval o).run Try.prog W = .ok (.value (.agg (arr ds))) W := by
  unfold execOp
  simp only [ho, hx, Instr.loadAt, Instr.sureAddr, Sem.run_bind, Sem.run_pure, Result.andThen_ok, run_loadVar_row W g 47 47 (arr ds) (0, 0) _ hg Try.underlying47 rfl (by rw [arr_size, hl]; exact info_dig)]
theorem arr_cells (ds : List Int) (h : Dig ds) : arr ds = ((ds.map fun x => x.toNat.toUInt8).map Extern.Stop.cell).toArray := by
  unfold arr
  congr 1
  rw [List.map_map]
  apply List.map_congr_left
  intro x hx
  obtain ⟨h0, h1⟩ := h.2 x hx
  obtain ⟨n, rfl⟩ := Int.eq_ofNat_of_zero_le h0
  have hn : n < 256 := by omega
  simp [Function.comp, Extern.Stop.cell, Nat.mod_eq_of_lt hn]
theorem run_eql_dig (x y : List Int) (hx : Dig x) (hy : Dig y) (W : World) : (binOp .eql 47 (.agg (arr x)) (.agg (arr y))).run Try.prog W = .ok (.bool (decide (x = y))) W := by
  obtain ⟨i, hi, h1, h2, h3⟩ := info_parts info5
  rw [arr_cells x hx, arr_cells y hy, run_eql_bytes W 47 5 32 Try.underlying47 Try.underlying5 (fun w => by simp [sizeOf, typeInfo, hi, h2]) _ _ (by rw [List.length_map]; exact hx.1) (by rw [List.length_map]; exact hy.1)]
  congr 2
  rw [Bool.eq_iff_iff]
  simp only [beq_iff_eq, decide_eq_true_eq]
  constructor
  · intro h
    apply List.ext_getElem (by rw [hx.1, hy.1])
    intro j h1 h2
    have hj := congrArg (fun l => l[j]?) h
    simp only [List.getElem?_map, List.getElem?_eq_getElem h1, List.getElem?_eq_getElem h2, Option.map_some, Option.some.injEq] at hj
    have hxr := hx.2 _ (List.getElem_mem h1)
    have hyr := hy.2 _ (List.getElem_mem h2)
    have := congrArg UInt8.toNat hj
    simp at this
    omega
  · rintro rfl; rfl
theorem dig_eql {o : Oper} {a : Act} {W : World} {x y : Operand} {ds : List Int} (ho : o.op = .binOp .eql 47 x y 47) (hx : a.eval x = .agg (arr ds)) (hy : a.eval y = .agg (arr ds)) (hd : Dig ds) :
    (execOp a.eval o).run Try.prog W = .ok (.value (.bool true)) W := by
  have := run_eql_dig ds ds hd hd W
  unfold execOp
  simp only [ho, hx, hy]
  have hm : Try.prog.eqGuardType Try.prog.depth 47 = false := by kernel_rfl
  have hg := run_eqGuard_agg W .eql 47 x y (arr ds) (arr ds) hm
  simp [this, hg, Sem.run_bind, Result.andThen]
theorem zeros32_dig : Dig zeros32 := ⟨rfl, fun x hx => by have := List.eq_of_mem_replicate hx; omega⟩
theorem readOf_dig (s : ByteArray) : Dig (readOf s).1 := by
  unfold readOf
  split
  · rename_i h
    have ha := h.2
    unfold allDig at ha
    rw [List.all_eq_true] at ha
    have hd : ∀ j, j < 64 → 0 ≤ h16 (chr s j) ∧ h16 (chr s j) < 16 := fun j hj => ⟨of_decide_eq_true (ha j (List.mem_range.2 hj)), (h16_range _).2⟩
    refine ⟨curD_length s 64, fun x hx => ?_⟩
    simp only [curD, List.mem_map, List.mem_range] at hx
    obtain ⟨j, hj, rfl⟩ := hx
    rw [if_pos (by omega)]
    have h1 := hd (2 * j) (by omega)
    have h2 := hd (2 * j + 1) (by omega)
    omega
  · exact zeros32_dig

def shareads_T : Bool × List (List Nat × List Nat) := (true, [([], []), ([0], [0]), ([], []), ([2, 1], [2]), ([1, 3], [1, 3]), ([4, 3], [4]), ([5], [5]), ([5], [5]), ([6, 7, 5], [5, 6, 7]), ([5, 8], [5, 8]), ([9, 5], [9]), ([10], [10]), ([10], [10]), ([11, 12, 10], [10, 11, 12]), ([10, 13], [10, 13]), ([14, 10, 0, 1, 2, 3, 4, 5, 6, 7, 8, 9, 10, 11, 12, 13, 14], [14])])
def shareads_B : List Nat := [0, 1, 0, 7, 15, 31, 63, 63, 255, 511, 1023, 2047, 2047, 8191, 16383, 32767]
theorem shareads_tab : rtab .any (opsOf Try.f5 5) = shareads_T := by kernel_rfl
theorem shareads_bits : waitsOk shareads_T.2 shareads_B = true := by kernel_rfl

set_option maxHeartbeats 4000000 in
set_option maxRecDepth 100000 in
theorem reads_long (ds : List Int) (s : ByteArray) (d : decide (200 < (s.size : Int)) = true) (w : World) :
    Calls Try.prog 5 #[.agg (arr ds), .string s] w fun e w' => e = .returned (.bool true) ∧ Below w.heap.size w w' := by
  have HB := Aside0.mk (Below.refl w.heap.size w)
  go_enter Try.func5, Try.ntmps5
  go_wp2_with (
    first
    | ((with_reducible refine gate_dst (N := 2) rfl ?_); refine box_event ?hg (N := 2) ?hd (cs := arr ds) (t := 47) ?hr ?_; (case hd => rfl); (case hg => rfl); (case hr => first | (go_simp; done) | (go_simp; rfl));
       intro g2 hg w2b hbox hb; have BK2 := Aside0.mk hbox; have GE2 := Aside0.mk (show w.heap.size ≤ g2 by rw [hg]; exact below_size HB.out); have HB1 := Aside0.mk (below_step HB.out hb); clear HB; have HB := HB1; clear HB1 hb hbox hg))
  go_ret
  exact ⟨rfl, HB.out⟩
set_option maxHeartbeats 8000000 in
set_option maxRecDepth 100000 in
theorem reads_walk (ds : List Int) (hd : Dig ds) (s : ByteArray) (d : decide (200 < (s.size : Int)) = false) (w : World) :
    Calls Try.prog 5 #[.agg (arr ds), .string s] w fun e w' => e = .returned (.bool true) ∧ Below w.heap.size w w' := by
  have HB := Aside0.mk (Below.refl w.heap.size w)
  have HD := Aside0.mk hd
  obtain ⟨rs, hrs⟩ : ∃ rs, (readOf s).1 = rs := ⟨_, rfl⟩
  obtain ⟨re, hre⟩ : ∃ re, (readOf s).2 = re := ⟨_, rfl⟩
  have HR : Aside0 (Dig rs) := ⟨hrs ▸ readOf_dig s⟩
  have hw1 := fun w => read_walk s w
  have hw2 := fun w => rread_walk s w
  rw [hrs, hre] at hw1 hw2
  have HW1 := Aside0.mk hw1
  have HW2 := Aside0.mk hw2
  clear hw1 hw2 hd hrs hre
  go_enter Try.func5, Try.ntmps5
  go_wp2_with (
    first
    | ((with_reducible refine gate_dst (N := 2) rfl ?_); refine box_event ?hg (N := 2) ?hd (cs := arr ds) (t := 47) ?hr ?_; (case hd => rfl); (case hg => rfl); (case hr => first | (go_simp; done) | (go_simp; rfl));
       intro g2 hg w2b hbox hb; have BK2 := Aside0.mk hbox; have GE2 := Aside0.mk (show w.heap.size ≤ g2 by rw [hg]; exact below_size HB.out); have HB1 := Aside0.mk (below_step HB.out hb); clear HB; have HB := HB1; clear HB1 hb hbox hg)
    | (go_at_call 22; (with_reducible refine (HW1.out _).mono ?_); rintro e w3 ⟨rfl, hb⟩; have n2 := Aside0.mk (blk_below BK2.out hb); have nB := Aside0.mk (below_step HB.out hb); clear BK2 HB hb; have BK2 := n2; have HB := nB; clear n2 nB)
    | ((with_reducible refine gate_dst (N := 5) rfl ?_); refine box_event ?hg (N := 5) ?hd (cs := arr zeros32) (t := 47) ?hr ?_; (case hd => rfl); (case hg => rfl); (case hr => first | (go_simp; done) | (go_simp; rfl));
       intro g5 hg w5b hbox hb; have BK5 := Aside0.mk hbox; have GE5 := Aside0.mk (show w.heap.size ≤ g5 by rw [hg]; exact below_size HB.out); have n0 := Aside0.mk (blk_below BK2.out hb); have NE5 := Aside0.mk (show g2 ≠ g5 by rw [hg]; exact Nat.ne_of_lt (blk_lt BK2.out)); clear BK2; have BK2 := n0; clear n0; have HB1 := Aside0.mk (below_step HB.out hb); clear HB; have HB := HB1; clear HB1 hb hbox hg)
    | ((with_reducible refine gate_store (p := 5) rfl ?_); refine dig_store rfl (.tmp 5) (.tmp 15) rfl g5 rs zeros32 rfl rfl BK5.out HR.out.1 rfl ?_; intro w4 bk hoth hbel; have n5 := Aside0.mk bk; have n2 := Aside0.mk ((hoth g2 NE5.out).trans BK2.out); have nB := Aside0.mk (hbel _ _ HB.out GE5.out); clear bk hoth hbel BK5 BK2 HB; have BK5 := n5; have BK2 := n2; have HB := nB; clear n5 n2 nB)
    | (go_at_call 23; (with_reducible refine (HW2.out _).mono ?_); rintro e w6 ⟨rfl, hb⟩; have n2 := Aside0.mk (blk_below BK2.out hb); have n5 := Aside0.mk (blk_below BK5.out hb); have nB := Aside0.mk (below_step HB.out hb); clear BK2 BK5 HB hb; have BK2 := n2; have BK5 := n5; have HB := nB; clear n2 n5 nB)
    | ((with_reducible refine gate_dst (N := 7) rfl ?_); refine box_event ?hg (N := 7) ?hd (cs := arr zeros32) (t := 47) ?hr ?_; (case hd => rfl); (case hg => rfl); (case hr => first | (go_simp; done) | (go_simp; rfl));
       intro g7 hg w7b hbox hb; have BK7 := Aside0.mk hbox; have GE7 := Aside0.mk (show w.heap.size ≤ g7 by rw [hg]; exact below_size HB.out); have n0 := Aside0.mk (blk_below BK2.out hb); have NE72 := Aside0.mk (show g2 ≠ g7 by rw [hg]; exact Nat.ne_of_lt (blk_lt BK2.out)); clear BK2; have BK2 := n0; clear n0; have n0 := Aside0.mk (blk_below BK5.out hb); have NE75 := Aside0.mk (show g5 ≠ g7 by rw [hg]; exact Nat.ne_of_lt (blk_lt BK5.out)); clear BK5; have BK5 := n0; clear n0; have HB1 := Aside0.mk (below_step HB.out hb); clear HB; have HB := HB1; clear HB1 hb hbox hg)
    | ((with_reducible refine gate_store (p := 7) rfl ?_); refine dig_store rfl (.tmp 7) (.tmp 20) rfl g7 rs zeros32 rfl rfl BK7.out HR.out.1 rfl ?_; intro w9 bk hoth hbel; have n7 := Aside0.mk bk; have n2 := Aside0.mk ((hoth g2 NE72.out).trans BK2.out); have n5 := Aside0.mk ((hoth g5 NE75.out).trans BK5.out); have nB := Aside0.mk (hbel _ _ HB.out GE7.out); clear bk hoth hbel BK5 BK7 BK2 HB; have BK5 := n5; have BK7 := n7; have BK2 := n2; have HB := nB; clear n5 n2 n7 nB))
  have n2 : Aside0 (w9.drew.heap[g2]? = some (.cells (arr ds) 47 (0, 0))) := ⟨blk_drew BK2.out⟩
  have n5 : Aside0 (w9.drew.heap[g5]? = some (.cells (arr rs) 47 (0, 0))) := ⟨blk_drew BK5.out⟩
  have n7 : Aside0 (w9.drew.heap[g7]? = some (.cells (arr rs) 47 (0, 0))) := ⟨blk_drew BK7.out⟩
  have nB : Aside0 (Below w.heap.size w w9.drew) := ⟨below_drew1 HB.out⟩
  clear BK2 BK5 BK7 HB
  have BK2 := n2
  have BK5 := n5
  have BK7 := n7
  have HB := nB
  clear n2 n5 n7 nB
  refine start_ (n := 16) (S := fun w' => w'.heap[g2]? = some (.cells (arr ds) 47 (0, 0)) ∧ w'.heap[g5]? = some (.cells (arr rs) 47 (0, 0)) ∧ w'.heap[g7]? = some (.cells (arr rs) 47 (0, 0))) (ds := []) #[false, false, false, false, false, false, false, false, false, false, false, false, false, false, false, false] (by kernel_rfl) rfl rfl ⟨BK2.out, BK5.out, BK7.out⟩ (fun hHeld => ?_)
  refine with_tabW shareads_tab shareads_bits (fun HT_ HW_ => ?_)
  generalize w9.drew = w10 at BK2 BK5 BK7 HB hHeld ⊢
  refine take_ (i := 0) (N := (some 22)) (v := ?_) (a' := ?_) #[true, false, false, false, false, false, false, false, false, false, false, false, false, false, false, false] rfl rfl (take_ofW HT_.out HW_.out (by kernel_rfl)) (fun _ _ _ h => h) (Or.inl ⟨by rfl, ?_⟩) hHeld ?_ ?_
  rotate_left
  · rintro w' ⟨s0, s1, s2⟩
    refine dig_load (x := .tmp 2) ?_ ?_ s0 HD.out.1 <;> rfl
  rotate_left
  · simp only [Act.put, List.setIfInBounds_toArray, List.set_cons_zero, List.set_cons_succ, i64_w, i32_w]
    rfl
  refine take_ (i := 2) (N := (some 24)) (v := ?_) (a' := ?_) #[true, false, true, false, false, false, false, false, false, false, false, false, false, false, false, false] rfl rfl (take_ofW HT_.out HW_.out (by kernel_rfl)) (fun _ _ _ h => h) (Or.inl ⟨by rfl, ?_⟩) hHeld ?_ ?_
  rotate_left
  · rintro w' ⟨s0, s1, s2⟩
    refine dig_load (x := .tmp 2) ?_ ?_ s0 HD.out.1 <;> rfl
  rotate_left
  · simp only [Act.put, List.setIfInBounds_toArray, List.set_cons_zero, List.set_cons_succ, i64_w, i32_w]
    rfl
  refine one_ (i := 1) (N := (some 23)) #[true, true, true, false, false, false, false, false, false, false, false, false, false, false, false, false] rfl rfl (one_of HT_.out (by kernel_rfl)) (by decide) (fun K hK => ?_)
  refine goes_ Try.func24 (by kernel_rfl) rfl #[.agg (arr ds)] (by rfl) rfl rfl (by (try simp only [List.map_toArray, List.map_cons, List.map_nil]); first | done | rfl) ?_
  with_reducible refine (hex_walk ds HD.out _).mono ?_
  rintro e0 w11 ⟨rfl, hb⟩
  refine ⟨_, rfl, ?_⟩
  have n2 := Aside0.mk (blk_below BK2.out hb)
  have n5 := Aside0.mk (blk_below BK5.out hb)
  have n7 := Aside0.mk (blk_below BK7.out hb)
  have nB := Aside0.mk (below_step HB.out hb)
  clear BK2 BK5 BK7 HB hb
  have BK2 := n2
  have BK5 := n5
  have BK7 := n7
  have HB := nB
  clear n2 n5 n7 nB
  refine hK.out _ _ ⟨BK2.out, BK5.out, BK7.out⟩ (fun hHeld => ?_)
  clear hK K
  refine norm_ (a' := ?_) ?_ ?_
  rotate_left
  · show Act.put _ (some 23) _ = _
    simp only [Act.put, List.setIfInBounds_toArray, List.set_cons_zero, List.set_cons_succ, i64_w, i32_w]
    rfl
  refine one_ (i := 3) (N := (some 25)) #[true, true, true, true, false, false, false, false, false, false, false, false, false, false, false, false] rfl rfl (one_of HT_.out (by kernel_rfl)) (by decide) (fun K hK => ?_)
  refine goes_ Try.func25 (by kernel_rfl) rfl #[.agg (arr ds)] (by rfl) rfl rfl (by (try simp only [List.map_toArray, List.map_cons, List.map_nil]); first | done | rfl) ?_
  with_reducible refine (rhex_walk ds HD.out _).mono ?_
  rintro e0 w12 ⟨rfl, hb⟩
  refine ⟨_, rfl, ?_⟩
  have n2 := Aside0.mk (blk_below BK2.out hb)
  have n5 := Aside0.mk (blk_below BK5.out hb)
  have n7 := Aside0.mk (blk_below BK7.out hb)
  have nB := Aside0.mk (below_step HB.out hb)
  clear BK2 BK5 BK7 HB hb
  have BK2 := n2
  have BK5 := n5
  have BK7 := n7
  have HB := nB
  clear n2 n5 n7 nB
  refine hK.out _ _ ⟨BK2.out, BK5.out, BK7.out⟩ (fun hHeld => ?_)
  clear hK K
  refine norm_ (a' := ?_) ?_ ?_
  rotate_left
  · show Act.put _ (some 25) _ = _
    simp only [Act.put, List.setIfInBounds_toArray, List.set_cons_zero, List.set_cons_succ, i64_w, i32_w]
    rfl
  refine pure_ (i := 4) (N := (some 26)) (v := ?_) (a' := ?_) #[true, true, true, true, true, false, false, false, false, false, false, false, false, false, false, false] rfl rfl (any_of HT_.out (by kernel_rfl)) (fun _ _ _ h => h) (Or.inl ⟨by rfl, ?_⟩) ?_ ?_
  rotate_left
  · intro w'
    go_simp
    first | with_reducible rfl | (simp; done) | rfl
  rotate_left
  · simp only [Act.put, List.setIfInBounds_toArray, List.set_cons_zero, List.set_cons_succ, i64_w, i32_w]
    rfl
  refine pure_ (i := 5) (N := (some 27)) (v := ?_) (a' := ?_) #[true, true, true, true, true, true, false, false, false, false, false, false, false, false, false, false] rfl rfl (any_of HT_.out (by kernel_rfl)) (fun _ _ _ h => h) (Or.inl ⟨by rfl, ?_⟩) ?_ ?_
  rotate_left
  · intro w'
    go_simp
    first | with_reducible rfl | (simp; done) | rfl
  rotate_left
  · simp only [Act.put, List.setIfInBounds_toArray, List.set_cons_zero, List.set_cons_succ, i64_w, i32_w]
    rfl
  refine take_ (i := 6) (N := (some 28)) (v := ?_) (a' := ?_) #[true, true, true, true, true, true, true, false, false, false, false, false, false, false, false, false] rfl rfl (take_ofW HT_.out HW_.out (by kernel_rfl)) (fun _ _ _ h => h) (Or.inl ⟨by rfl, ?_⟩) hHeld ?_ ?_
  rotate_left
  · rintro w' ⟨s0, s1, s2⟩
    refine dig_load (x := .tmp 5) ?_ ?_ s1 HR.out.1 <;> rfl
  rotate_left
  · simp only [Act.put, List.setIfInBounds_toArray, List.set_cons_zero, List.set_cons_succ, i64_w, i32_w]
    rfl
  refine take_ (i := 7) (N := (some 29)) (v := ?_) (a' := ?_) #[true, true, true, true, true, true, true, true, false, false, false, false, false, false, false, false] rfl rfl (take_ofW HT_.out HW_.out (by kernel_rfl)) (fun _ _ _ h => h) (Or.inl ⟨by rfl, ?_⟩) hHeld ?_ ?_
  rotate_left
  · rintro w' ⟨s0, s1, s2⟩
    refine dig_load (x := .tmp 7) ?_ ?_ s2 HR.out.1 <;> rfl
  rotate_left
  · simp only [Act.put, List.setIfInBounds_toArray, List.set_cons_zero, List.set_cons_succ, i64_w, i32_w]
    rfl
  refine pure_ (i := 8) (N := (some 30)) (v := ?_) (a' := ?_) #[true, true, true, true, true, true, true, true, true, false, false, false, false, false, false, false] rfl rfl (any_of HT_.out (by kernel_rfl)) (fun _ _ _ h => h) (Or.inl ⟨by rfl, ?_⟩) ?_ ?_
  rotate_left
  · intro w'
    refine dig_eql (x := .tmp 28) (y := .tmp 29) ?_ ?_ ?_ HR.out <;> rfl
  rotate_left
  · simp only [Act.put, List.setIfInBounds_toArray, List.set_cons_zero, List.set_cons_succ, i64_w, i32_w]
    rfl
  refine pure_ (i := 9) (N := (some 31)) (v := ?_) (a' := ?_) #[true, true, true, true, true, true, true, true, true, true, false, false, false, false, false, false] rfl rfl (any_of HT_.out (by kernel_rfl)) (fun _ _ _ h => h) (Or.inl ⟨by rfl, ?_⟩) ?_ ?_
  rotate_left
  · intro w'
    go_simp
    first | with_reducible rfl | (simp; done) | rfl
  rotate_left
  · simp only [Act.put, List.setIfInBounds_toArray, List.set_cons_zero, List.set_cons_succ, i64_w, i32_w]
    rfl
  refine pure_ (i := 10) (N := (some 32)) (v := ?_) (a' := ?_) #[true, true, true, true, true, true, true, true, true, true, true, false, false, false, false, false] rfl rfl (any_of HT_.out (by kernel_rfl)) (fun _ _ _ h => h) (Or.inl ⟨by rfl, ?_⟩) ?_ ?_
  rotate_left
  · intro w'
    go_simp
    first | with_reducible rfl | (simp; done) | rfl
  rotate_left
  · simp only [Act.put, List.setIfInBounds_toArray, List.set_cons_zero, List.set_cons_succ, i64_w, i32_w]
    rfl
  refine pure_ (i := 11) (N := (some 33)) (v := ?_) (a' := ?_) #[true, true, true, true, true, true, true, true, true, true, true, true, false, false, false, false] rfl rfl (any_of HT_.out (by kernel_rfl)) (fun _ _ _ h => h) (Or.inl ⟨by rfl, ?_⟩) ?_ ?_
  rotate_left
  · intro w'
    go_simp
    first | with_reducible rfl | (simp; done) | rfl
  rotate_left
  · simp only [Act.put, List.setIfInBounds_toArray, List.set_cons_zero, List.set_cons_succ, i64_w, i32_w]
    rfl
  refine pure_ (i := 12) (N := (some 34)) (v := ?_) (a' := ?_) #[true, true, true, true, true, true, true, true, true, true, true, true, true, false, false, false] rfl rfl (any_of HT_.out (by kernel_rfl)) (fun _ _ _ h => h) (Or.inl ⟨by rfl, ?_⟩) ?_ ?_
  rotate_left
  · intro w'
    go_simp
    first | with_reducible rfl | (simp; done) | rfl
  rotate_left
  · simp only [Act.put, List.setIfInBounds_toArray, List.set_cons_zero, List.set_cons_succ, i64_w, i32_w]
    rfl
  refine pure_ (i := 13) (N := (some 35)) (v := ?_) (a' := ?_) #[true, true, true, true, true, true, true, true, true, true, true, true, true, true, false, false] rfl rfl (any_of HT_.out (by kernel_rfl)) (fun _ _ _ h => h) (Or.inl ⟨by rfl, ?_⟩) ?_ ?_
  rotate_left
  · intro w'
    go_simp
    first | with_reducible rfl | (simp; done) | rfl
  rotate_left
  · simp only [Act.put, List.setIfInBounds_toArray, List.set_cons_zero, List.set_cons_succ, i64_w, i32_w]
    rfl
  refine pure_ (i := 14) (N := (some 36)) (v := ?_) (a' := ?_) #[true, true, true, true, true, true, true, true, true, true, true, true, true, true, true, false] rfl rfl (any_of HT_.out (by kernel_rfl)) (fun _ _ _ h => h) (Or.inl ⟨by rfl, ?_⟩) ?_ ?_
  rotate_left
  · intro w'
    go_simp
    first | with_reducible rfl | (simp; done) | rfl
  rotate_left
  · simp only [Act.put, List.setIfInBounds_toArray, List.set_cons_zero, List.set_cons_succ, i64_w, i32_w]
    rfl
  refine pure_ (i := 15) (N := (some 4)) (v := ?_) (a' := ?_) #[true, true, true, true, true, true, true, true, true, true, true, true, true, true, true, true] rfl rfl (any_of HT_.out (by kernel_rfl)) (fun _ _ _ h => h) (Or.inl ⟨by rfl, ?_⟩) ?_ ?_
  rotate_left
  · intro w'
    go_simp
    first | with_reducible rfl | (simp; done) | rfl
  rotate_left
  · simp only [Act.put, List.setIfInBounds_toArray, List.set_cons_zero, List.set_cons_succ, i64_w, i32_w]
    rfl
  refine done_ (done_of HT_.out (by kernel_rfl)) ?_
  go_wp2
  go_ret
  exact ⟨rfl, HB.out⟩
end Go.Proofs.Ytoncnjnicgfhmaa.Q
