/-
  beadrollref02.words, round: the contracts, by hand (written by wip/tools/gen_sum.py).
-/
import Derived.Test.YtoaimcobcgomjaaDoorShaApp
namespace Go.Proofs.YtoaimcobcgomjaaDoor.Q
open Go.RowKit Go.Proofs.YtoaimcobcgomjaaDoorW.PrintWords Go.Proofs.YtoaimcobcgomjaaDoorW.PrintLast Go.Proofs.YtoaimcobcgomjaaDoorW.PrintMore
set_option linter.unusedVariables false
set_option linter.unusedSimpArgs false

theorem info_r8 : (Tryd.prog.info? 55).map (·.size) = some 8 := by kernel_rfl
/-- An array of eight words, or of 64, stored. -/
theorem r8_store {ops : Array Oper} {rest : List Oper} {o : Oper} {a : Act} {W : World} {Q : Exit → Act → World → Prop} (hgd : o.guard = none) (x y : Operand) (ho : o.op = .store 55 x y) (g : Nat) (ds old : List Int) (hx : a.eval x = .pointer (some ⟨g, 0, none⟩)) (hy : a.eval y = .agg (arr32 ds))
    (hg : W.heap[g]? = some (.cells (arr32 old) 55 (0, 0))) (hl : ds.length = 8) (hold : old.length = 8)
    (h : ∀ w1, w1.heap[g]? = some (.cells (arr32 ds) 55 (0, 0)) → (∀ k, k ≠ g → w1.heap[k]? = W.heap[k]?) → (∀ (B : Nat) (w0 : World), Below B w0 W → B ≤ g → Below B w0 w1) → wpList Tryd.prog ops Q rest (a.put o.dst undef) w1) : wpList Tryd.prog ops Q (o :: rest) a W :=
  wpList_store_row hgd 55 x y ho g (arr32 ds) hx hy 55 (arr32 old) hg (by rw [arr32_size, hl]; exact info_r8) (by rw [arr32_size, arr32_size, hl, hold]) (by simp [arr32, Value.oneCell'])
    (h _ (setRow_heap W g _ _ _ _ hg) (fun k hk => setRow_other W g k _ hk) (fun B w0 hb hB => below_setRow hb hB _))
theorem w64_store {ops : Array Oper} {rest : List Oper} {o : Oper} {a : Act} {W : World} {Q : Exit → Act → World → Prop} (hgd : o.guard = none) (x y : Operand) (ho : o.op = .store 59 x y) (g : Nat) (ds old : List Int) (hx : a.eval x = .pointer (some ⟨g, 0, none⟩)) (hy : a.eval y = .agg (arr32 ds))
    (hg : W.heap[g]? = some (.cells (arr32 old) 59 (0, 0))) (hl : ds.length = 64) (hold : old.length = 64)
    (h : ∀ w1, w1.heap[g]? = some (.cells (arr32 ds) 59 (0, 0)) → (∀ k, k ≠ g → w1.heap[k]? = W.heap[k]?) → (∀ (B : Nat) (w0 : World), Below B w0 W → B ≤ g → Below B w0 w1) → wpList Tryd.prog ops Q rest (a.put o.dst undef) w1) : wpList Tryd.prog ops Q (o :: rest) a W :=
  wpList_store_row hgd 59 x y ho g (arr32 ds) hx hy 59 (arr32 old) hg (by rw [arr32_size, hl]; exact info_64) (by rw [arr32_size, arr32_size, hl, hold]) (by simp [arr32, Value.oneCell'])
    (h _ (setRow_heap W g _ _ _ _ hg) (fun k hk => setRow_other W g k _ hk) (fun B w0 hb hB => below_setRow hb hB _))
theorem K64_len : K64.length = 64 := rfl
set_option maxHeartbeats 16000000 in
set_option maxRecDepth 100000 in
theorem words_walk (W : World) : Calls Tryd.prog 36 #[] W fun e W' => e = .returned (.agg (arr32 K64)) ∧ Below W.heap.size W W' := by
  have HB := Aside0.mk (Below.refl W.heap.size W)
  go_enter Tryd.func36, Tryd.ntmps36
  go_wp2_with (
    first
    | ((with_reducible refine gate_dst (N := 0) rfl ?_); refine box_event ?hg (N := 0) ?hd (cs := arr32 (List.replicate 64 0)) (t := 59) ?hr ?_; (case hd => rfl); (case hg => rfl); (case hr => first | (go_simp; done) | (go_simp; rfl));
       intro g0 hg w1 hbox hb; have BK0 := Aside0.mk hbox; have G0 := Aside0.mk (show W.heap.size ≤ g0 by rw [hg]; exact Nat.le_refl _); have HB1 := Aside0.mk (below_step HB.out hb); clear HB; have HB := HB1; clear HB1 hb hbox hg)
    | ((with_reducible refine gate_store (p := 0) rfl ?_); refine w64_store rfl (.tmp 0) (.tmp 1) rfl g0 K64 (List.replicate 64 0) rfl rfl BK0.out K64_len (by simp) ?_; intro w3 bk hoth hbel; have n1 := Aside0.mk bk; have n3 := Aside0.mk (hbel _ _ HB.out G0.out); clear BK0 HB bk hoth hbel; have BK0 := n1; have HB := n3; clear n1 n3))
  refine bodyPost_ret (results_c rfl _ _ g0 59 (arr32 K64) (0, 0) _ rfl BK0.out Tryd.underlying59 rfl (by rw [arr32_size, K64_len]; exact info_64)) rfl ?_
  exact ⟨rfl, HB.out⟩
def rnd1_T : Bool × List (List Nat × List Nat) := (true, [([], []), ([0], [0]), ([], []), ([2], [2]), ([], []), ([4], [4]), ([], []), ([6], [6]), ([], []), ([8], [8]), ([], []), ([10], [10]), ([], []), ([12], [12]), ([], []), ([14], [14]), ([1, 0, 1], [1]), ([3, 16, 0, 1, 2, 3, 16], [3]), ([5, 17, 0, 1, 2, 3, 4, 5, 16, 17], [5]), ([7, 18, 0, 1, 2, 3, 4, 5, 6, 7, 16, 17, 18], [7]), ([9, 19, 0, 1, 2, 3, 4, 5, 6, 7, 8, 9, 16, 17, 18, 19], [9]), ([11, 20, 0, 1, 2, 3, 4, 5, 6, 7, 8, 9, 10, 11, 16, 17, 18, 19, 20], [11]), ([13, 21, 0, 1, 2, 3, 4, 5, 6, 7, 8, 9, 10, 11, 12, 13, 16, 17, 18, 19, 20, 21], [13]), ([15, 22, 0, 1, 2, 3, 4, 5, 6, 7, 8, 9, 10, 11, 12, 13, 14, 15, 16, 17, 18, 19, 20, 21, 22], [15])])
def rnd1_B : List Nat := [0, 1, 0, 4, 0, 16, 0, 64, 0, 256, 0, 1024, 0, 4096, 0, 16384, 3, 65551, 196671, 459007, 984063, 2035711, 4145151, 8388607]
theorem rnd1_tab : rtab .any (opsOf Tryd.f38 1) = rnd1_T := by kernel_rfl
theorem rnd1_bits : waitsOk rnd1_T.2 rnd1_B = true := by kernel_rfl

set_option maxHeartbeats 16000000 in
set_option maxRecDepth 100000 in
theorem round_walk (v : List Int) (k x : Int) (hl : v.length = 8) (hu : ∀ y ∈ v, U32 y) (W : World) :
    Calls Tryd.prog 38 #[.agg (arr32 v), .int .u32 k, .int .u32 x] W fun e W' => e = .returned (.agg (arr32 (rnd v k x))) ∧ Below W.heap.size W W' := by
  have HB := Aside0.mk (Below.refl W.heap.size W)
  have HL := Aside0.mk hl
  have HU := Aside0.mk hu
  clear hl hu
  go_enter Tryd.func38, Tryd.ntmps38
  go_wp2_with (
    first
    | ((with_reducible refine gate_dst (N := 3) rfl ?_); refine box_event ?hg (N := 3) ?hd (cs := arr32 v) (t := 55) ?hr ?_; (case hd => rfl); (case hg => rfl); (case hr => first | (go_simp; done) | (go_simp; rfl));
       intro g3 hg w1 hbox hb; have BK3 := Aside0.mk hbox; have HB1 := Aside0.mk (below_step HB.out hb); clear HB; have HB := HB1; clear HB1 hb hbox hg)
    | ((with_reducible refine gate_dst (N := 6) rfl ?_); refine box_event ?hg (N := 6) ?hd (cs := arr32 (List.replicate 8 0)) (t := 55) ?hr ?_; (case hd => rfl); (case hg => rfl); (case hr => first | (go_simp; done) | (go_simp; rfl));
       intro g6 hg w2 hbox hb; have BK6 := Aside0.mk hbox; have G6 := Aside0.mk (show W.heap.size ≤ g6 by rw [hg]; exact below_size HB.out); have n1 := Aside0.mk (blk_below BK3.out hb); have HB1 := Aside0.mk (below_step HB.out hb); clear HB BK3; have HB := HB1; have BK3 := n1; clear HB1 hb hbox hg n1))
  have hc := fun i hi => cell_of_32 (blk_drew BK3.out) i (by rw [HL.out]; exact hi)
  have hu := fun i hi => at_mem v HU.out i (by rw [HL.out]; exact hi)
  have iv := fun i hi W => idx_arr Tryd.underlying55 (by kernel_rfl) (by kernel_rfl) g3 i hi W
  obtain ⟨v0, e0⟩ : ∃ x, at_ v 0 = x := ⟨_, rfl⟩
  have d0 : w2.drew.cell? ⟨g3, 0, none⟩ = some (.int .u32 v0) := e0 ▸ hc 0 (by omega)
  have U0 : Aside0 (0 ≤ v0 ∧ v0 < 4294967296) := ⟨e0 ▸ hu 0 (by omega)⟩
  have E0 := Aside0.mk e0
  have i0 := fun W => iv 0 (by omega) W
  rw [show ((0 : Nat) : Int) = 0 from rfl] at i0
  clear e0
  obtain ⟨v1, e1⟩ : ∃ x, at_ v 1 = x := ⟨_, rfl⟩
  have d1 : w2.drew.cell? ⟨g3, 1, none⟩ = some (.int .u32 v1) := e1 ▸ hc 1 (by omega)
  have U1 : Aside0 (0 ≤ v1 ∧ v1 < 4294967296) := ⟨e1 ▸ hu 1 (by omega)⟩
  have E1 := Aside0.mk e1
  have i1 := fun W => iv 1 (by omega) W
  rw [show ((1 : Nat) : Int) = 1 from rfl] at i1
  clear e1
  obtain ⟨v2, e2⟩ : ∃ x, at_ v 2 = x := ⟨_, rfl⟩
  have d2 : w2.drew.cell? ⟨g3, 2, none⟩ = some (.int .u32 v2) := e2 ▸ hc 2 (by omega)
  have U2 : Aside0 (0 ≤ v2 ∧ v2 < 4294967296) := ⟨e2 ▸ hu 2 (by omega)⟩
  have E2 := Aside0.mk e2
  have i2 := fun W => iv 2 (by omega) W
  rw [show ((2 : Nat) : Int) = 2 from rfl] at i2
  clear e2
  obtain ⟨v3, e3⟩ : ∃ x, at_ v 3 = x := ⟨_, rfl⟩
  have d3 : w2.drew.cell? ⟨g3, 3, none⟩ = some (.int .u32 v3) := e3 ▸ hc 3 (by omega)
  have U3 : Aside0 (0 ≤ v3 ∧ v3 < 4294967296) := ⟨e3 ▸ hu 3 (by omega)⟩
  have E3 := Aside0.mk e3
  have i3 := fun W => iv 3 (by omega) W
  rw [show ((3 : Nat) : Int) = 3 from rfl] at i3
  clear e3
  obtain ⟨v4, e4⟩ : ∃ x, at_ v 4 = x := ⟨_, rfl⟩
  have d4 : w2.drew.cell? ⟨g3, 4, none⟩ = some (.int .u32 v4) := e4 ▸ hc 4 (by omega)
  have U4 : Aside0 (0 ≤ v4 ∧ v4 < 4294967296) := ⟨e4 ▸ hu 4 (by omega)⟩
  have E4 := Aside0.mk e4
  have i4 := fun W => iv 4 (by omega) W
  rw [show ((4 : Nat) : Int) = 4 from rfl] at i4
  clear e4
  obtain ⟨v5, e5⟩ : ∃ x, at_ v 5 = x := ⟨_, rfl⟩
  have d5 : w2.drew.cell? ⟨g3, 5, none⟩ = some (.int .u32 v5) := e5 ▸ hc 5 (by omega)
  have U5 : Aside0 (0 ≤ v5 ∧ v5 < 4294967296) := ⟨e5 ▸ hu 5 (by omega)⟩
  have E5 := Aside0.mk e5
  have i5 := fun W => iv 5 (by omega) W
  rw [show ((5 : Nat) : Int) = 5 from rfl] at i5
  clear e5
  obtain ⟨v6, e6⟩ : ∃ x, at_ v 6 = x := ⟨_, rfl⟩
  have d6 : w2.drew.cell? ⟨g3, 6, none⟩ = some (.int .u32 v6) := e6 ▸ hc 6 (by omega)
  have U6 : Aside0 (0 ≤ v6 ∧ v6 < 4294967296) := ⟨e6 ▸ hu 6 (by omega)⟩
  have E6 := Aside0.mk e6
  have i6 := fun W => iv 6 (by omega) W
  rw [show ((6 : Nat) : Int) = 6 from rfl] at i6
  clear e6
  obtain ⟨v7, e7⟩ : ∃ x, at_ v 7 = x := ⟨_, rfl⟩
  have d7 : w2.drew.cell? ⟨g3, 7, none⟩ = some (.int .u32 v7) := e7 ▸ hc 7 (by omega)
  have U7 : Aside0 (0 ≤ v7 ∧ v7 < 4294967296) := ⟨e7 ▸ hu 7 (by omega)⟩
  have E7 := Aside0.mk e7
  have i7 := fun W => iv 7 (by omega) W
  rw [show ((7 : Nat) : Int) = 7 from rfl] at i7
  clear e7
  clear hc hu iv
  refine start_ (n := 24) (S := fun w' => w'.cell? ⟨g3, 0, none⟩ = some (.int .u32 v0) ∧ w'.cell? ⟨g3, 1, none⟩ = some (.int .u32 v1) ∧ w'.cell? ⟨g3, 2, none⟩ = some (.int .u32 v2) ∧ w'.cell? ⟨g3, 3, none⟩ = some (.int .u32 v3) ∧ w'.cell? ⟨g3, 4, none⟩ = some (.int .u32 v4) ∧ w'.cell? ⟨g3, 5, none⟩ = some (.int .u32 v5) ∧ w'.cell? ⟨g3, 6, none⟩ = some (.int .u32 v6) ∧ w'.cell? ⟨g3, 7, none⟩ = some (.int .u32 v7)) (ds := []) #[false, false, false, false, false, false, false, false, false, false, false, false, false, false, false, false, false, false, false, false, false, false, false, false] (by kernel_rfl) rfl rfl ⟨d0, d1, d2, d3, d4, d5, d6, d7⟩ (fun hHeld => ?_)
  refine with_tabW rnd1_tab rnd1_bits (fun HT_ HW_ => ?_)
  refine pure_ (i := 0) (N := (some 17)) (v := ?_) (a' := ?_) #[true, false, false, false, false, false, false, false, false, false, false, false, false, false, false, false, false, false, false, false, false, false, false, false] rfl rfl (any_of HT_.out (by kernel_rfl)) (fun _ _ _ h => h) (Or.inl ⟨by rfl, ?_⟩) ?_ ?_
  rotate_left
  · intro w'
    go_simp
    first | with_reducible rfl | (simp; done) | rfl
  rotate_left
  · simp only [Act.put, List.setIfInBounds_toArray, List.set_cons_zero, List.set_cons_succ, i64_w, i32_w]
    rfl
  refine pure_ (i := 2) (N := (some 19)) (v := ?_) (a' := ?_) #[true, false, true, false, false, false, false, false, false, false, false, false, false, false, false, false, false, false, false, false, false, false, false, false] rfl rfl (any_of HT_.out (by kernel_rfl)) (fun _ _ _ h => h) (Or.inl ⟨by rfl, ?_⟩) ?_ ?_
  rotate_left
  · intro w'
    go_simp
    first | with_reducible rfl | (simp; done) | rfl
  rotate_left
  · simp only [Act.put, List.setIfInBounds_toArray, List.set_cons_zero, List.set_cons_succ, i64_w, i32_w]
    rfl
  refine pure_ (i := 4) (N := (some 21)) (v := ?_) (a' := ?_) #[true, false, true, false, true, false, false, false, false, false, false, false, false, false, false, false, false, false, false, false, false, false, false, false] rfl rfl (any_of HT_.out (by kernel_rfl)) (fun _ _ _ h => h) (Or.inl ⟨by rfl, ?_⟩) ?_ ?_
  rotate_left
  · intro w'
    go_simp
    first | with_reducible rfl | (simp; done) | rfl
  rotate_left
  · simp only [Act.put, List.setIfInBounds_toArray, List.set_cons_zero, List.set_cons_succ, i64_w, i32_w]
    rfl
  refine pure_ (i := 6) (N := (some 23)) (v := ?_) (a' := ?_) #[true, false, true, false, true, false, true, false, false, false, false, false, false, false, false, false, false, false, false, false, false, false, false, false] rfl rfl (any_of HT_.out (by kernel_rfl)) (fun _ _ _ h => h) (Or.inl ⟨by rfl, ?_⟩) ?_ ?_
  rotate_left
  · intro w'
    go_simp
    first | with_reducible rfl | (simp; done) | rfl
  rotate_left
  · simp only [Act.put, List.setIfInBounds_toArray, List.set_cons_zero, List.set_cons_succ, i64_w, i32_w]
    rfl
  refine pure_ (i := 8) (N := (some 25)) (v := ?_) (a' := ?_) #[true, false, true, false, true, false, true, false, true, false, false, false, false, false, false, false, false, false, false, false, false, false, false, false] rfl rfl (any_of HT_.out (by kernel_rfl)) (fun _ _ _ h => h) (Or.inl ⟨by rfl, ?_⟩) ?_ ?_
  rotate_left
  · intro w'
    go_simp
    first | with_reducible rfl | (simp; done) | rfl
  rotate_left
  · simp only [Act.put, List.setIfInBounds_toArray, List.set_cons_zero, List.set_cons_succ, i64_w, i32_w]
    rfl
  refine pure_ (i := 10) (N := (some 27)) (v := ?_) (a' := ?_) #[true, false, true, false, true, false, true, false, true, false, true, false, false, false, false, false, false, false, false, false, false, false, false, false] rfl rfl (any_of HT_.out (by kernel_rfl)) (fun _ _ _ h => h) (Or.inl ⟨by rfl, ?_⟩) ?_ ?_
  rotate_left
  · intro w'
    go_simp
    first | with_reducible rfl | (simp; done) | rfl
  rotate_left
  · simp only [Act.put, List.setIfInBounds_toArray, List.set_cons_zero, List.set_cons_succ, i64_w, i32_w]
    rfl
  refine pure_ (i := 12) (N := (some 29)) (v := ?_) (a' := ?_) #[true, false, true, false, true, false, true, false, true, false, true, false, true, false, false, false, false, false, false, false, false, false, false, false] rfl rfl (any_of HT_.out (by kernel_rfl)) (fun _ _ _ h => h) (Or.inl ⟨by rfl, ?_⟩) ?_ ?_
  rotate_left
  · intro w'
    go_simp
    first | with_reducible rfl | (simp; done) | rfl
  rotate_left
  · simp only [Act.put, List.setIfInBounds_toArray, List.set_cons_zero, List.set_cons_succ, i64_w, i32_w]
    rfl
  refine pure_ (i := 14) (N := (some 31)) (v := ?_) (a' := ?_) #[true, false, true, false, true, false, true, false, true, false, true, false, true, false, true, false, false, false, false, false, false, false, false, false] rfl rfl (any_of HT_.out (by kernel_rfl)) (fun _ _ _ h => h) (Or.inl ⟨by rfl, ?_⟩) ?_ ?_
  rotate_left
  · intro w'
    go_simp
    first | with_reducible rfl | (simp; done) | rfl
  rotate_left
  · simp only [Act.put, List.setIfInBounds_toArray, List.set_cons_zero, List.set_cons_succ, i64_w, i32_w]
    rfl
  refine take_ (i := 1) (N := (some 18)) (v := ?_) (a' := ?_) #[true, true, true, false, true, false, true, false, true, false, true, false, true, false, true, false, false, false, false, false, false, false, false, false] rfl rfl (take_ofW HT_.out HW_.out (by kernel_rfl)) (fun _ _ _ h => h) (Or.inl ⟨by rfl, ?_⟩) hHeld ?_ ?_
  rotate_left
  · rintro w' ⟨s0, s1, s2, s3, s4, s5, s6, s7⟩
    go_simp
    with_reducible rfl
  rotate_left
  · simp only [Act.put, List.setIfInBounds_toArray, List.set_cons_zero, List.set_cons_succ, i64_w, i32_w]
    rfl
  refine take_ (i := 3) (N := (some 20)) (v := ?_) (a' := ?_) #[true, true, true, true, true, false, true, false, true, false, true, false, true, false, true, false, false, false, false, false, false, false, false, false] rfl rfl (take_ofW HT_.out HW_.out (by kernel_rfl)) (fun _ _ _ h => h) (Or.inl ⟨by rfl, ?_⟩) hHeld ?_ ?_
  rotate_left
  · rintro w' ⟨s0, s1, s2, s3, s4, s5, s6, s7⟩
    go_simp
    with_reducible rfl
  rotate_left
  · simp only [Act.put, List.setIfInBounds_toArray, List.set_cons_zero, List.set_cons_succ, i64_w, i32_w]
    rfl
  refine take_ (i := 5) (N := (some 22)) (v := ?_) (a' := ?_) #[true, true, true, true, true, true, true, false, true, false, true, false, true, false, true, false, false, false, false, false, false, false, false, false] rfl rfl (take_ofW HT_.out HW_.out (by kernel_rfl)) (fun _ _ _ h => h) (Or.inl ⟨by rfl, ?_⟩) hHeld ?_ ?_
  rotate_left
  · rintro w' ⟨s0, s1, s2, s3, s4, s5, s6, s7⟩
    go_simp
    with_reducible rfl
  rotate_left
  · simp only [Act.put, List.setIfInBounds_toArray, List.set_cons_zero, List.set_cons_succ, i64_w, i32_w]
    rfl
  refine take_ (i := 7) (N := (some 24)) (v := ?_) (a' := ?_) #[true, true, true, true, true, true, true, true, true, false, true, false, true, false, true, false, false, false, false, false, false, false, false, false] rfl rfl (take_ofW HT_.out HW_.out (by kernel_rfl)) (fun _ _ _ h => h) (Or.inl ⟨by rfl, ?_⟩) hHeld ?_ ?_
  rotate_left
  · rintro w' ⟨s0, s1, s2, s3, s4, s5, s6, s7⟩
    go_simp
    with_reducible rfl
  rotate_left
  · simp only [Act.put, List.setIfInBounds_toArray, List.set_cons_zero, List.set_cons_succ, i64_w, i32_w]
    rfl
  refine take_ (i := 9) (N := (some 26)) (v := ?_) (a' := ?_) #[true, true, true, true, true, true, true, true, true, true, true, false, true, false, true, false, false, false, false, false, false, false, false, false] rfl rfl (take_ofW HT_.out HW_.out (by kernel_rfl)) (fun _ _ _ h => h) (Or.inl ⟨by rfl, ?_⟩) hHeld ?_ ?_
  rotate_left
  · rintro w' ⟨s0, s1, s2, s3, s4, s5, s6, s7⟩
    go_simp
    with_reducible rfl
  rotate_left
  · simp only [Act.put, List.setIfInBounds_toArray, List.set_cons_zero, List.set_cons_succ, i64_w, i32_w]
    rfl
  refine take_ (i := 11) (N := (some 28)) (v := ?_) (a' := ?_) #[true, true, true, true, true, true, true, true, true, true, true, true, true, false, true, false, false, false, false, false, false, false, false, false] rfl rfl (take_ofW HT_.out HW_.out (by kernel_rfl)) (fun _ _ _ h => h) (Or.inl ⟨by rfl, ?_⟩) hHeld ?_ ?_
  rotate_left
  · rintro w' ⟨s0, s1, s2, s3, s4, s5, s6, s7⟩
    go_simp
    with_reducible rfl
  rotate_left
  · simp only [Act.put, List.setIfInBounds_toArray, List.set_cons_zero, List.set_cons_succ, i64_w, i32_w]
    rfl
  refine take_ (i := 13) (N := (some 30)) (v := ?_) (a' := ?_) #[true, true, true, true, true, true, true, true, true, true, true, true, true, true, true, false, false, false, false, false, false, false, false, false] rfl rfl (take_ofW HT_.out HW_.out (by kernel_rfl)) (fun _ _ _ h => h) (Or.inl ⟨by rfl, ?_⟩) hHeld ?_ ?_
  rotate_left
  · rintro w' ⟨s0, s1, s2, s3, s4, s5, s6, s7⟩
    go_simp
    with_reducible rfl
  rotate_left
  · simp only [Act.put, List.setIfInBounds_toArray, List.set_cons_zero, List.set_cons_succ, i64_w, i32_w]
    rfl
  refine take_ (i := 15) (N := (some 32)) (v := ?_) (a' := ?_) #[true, true, true, true, true, true, true, true, true, true, true, true, true, true, true, true, false, false, false, false, false, false, false, false] rfl rfl (take_ofW HT_.out HW_.out (by kernel_rfl)) (fun _ _ _ h => h) (Or.inl ⟨by rfl, ?_⟩) hHeld ?_ ?_
  rotate_left
  · rintro w' ⟨s0, s1, s2, s3, s4, s5, s6, s7⟩
    go_simp
    with_reducible rfl
  rotate_left
  · simp only [Act.put, List.setIfInBounds_toArray, List.set_cons_zero, List.set_cons_succ, i64_w, i32_w]
    rfl
  refine pure_ (i := 16) (N := (some 7)) (v := ?_) (a' := ?_) #[true, true, true, true, true, true, true, true, true, true, true, true, true, true, true, true, true, false, false, false, false, false, false, false] rfl rfl (any_of HT_.out (by kernel_rfl)) (fun _ _ _ h => h) (Or.inl ⟨by rfl, ?_⟩) ?_ ?_
  rotate_left
  · intro w'
    go_simp
    first | with_reducible rfl | (simp; done) | rfl
  rotate_left
  · simp only [Act.put, List.setIfInBounds_toArray, List.set_cons_zero, List.set_cons_succ, i64_w, i32_w]
    rfl
  refine pure_ (i := 17) (N := (some 8)) (v := ?_) (a' := ?_) #[true, true, true, true, true, true, true, true, true, true, true, true, true, true, true, true, true, true, false, false, false, false, false, false] rfl rfl (any_of HT_.out (by kernel_rfl)) (fun _ _ _ h => h) (Or.inl ⟨by rfl, ?_⟩) ?_ ?_
  rotate_left
  · intro w'
    go_simp
    first | with_reducible rfl | (simp; done) | rfl
  rotate_left
  · simp only [Act.put, List.setIfInBounds_toArray, List.set_cons_zero, List.set_cons_succ, i64_w, i32_w]
    rfl
  refine pure_ (i := 18) (N := (some 9)) (v := ?_) (a' := ?_) #[true, true, true, true, true, true, true, true, true, true, true, true, true, true, true, true, true, true, true, false, false, false, false, false] rfl rfl (any_of HT_.out (by kernel_rfl)) (fun _ _ _ h => h) (Or.inl ⟨by rfl, ?_⟩) ?_ ?_
  rotate_left
  · intro w'
    go_simp
    first | with_reducible rfl | (simp; done) | rfl
  rotate_left
  · simp only [Act.put, List.setIfInBounds_toArray, List.set_cons_zero, List.set_cons_succ, i64_w, i32_w]
    rfl
  refine pure_ (i := 19) (N := (some 10)) (v := ?_) (a' := ?_) #[true, true, true, true, true, true, true, true, true, true, true, true, true, true, true, true, true, true, true, true, false, false, false, false] rfl rfl (any_of HT_.out (by kernel_rfl)) (fun _ _ _ h => h) (Or.inl ⟨by rfl, ?_⟩) ?_ ?_
  rotate_left
  · intro w'
    go_simp
    first | with_reducible rfl | (simp; done) | rfl
  rotate_left
  · simp only [Act.put, List.setIfInBounds_toArray, List.set_cons_zero, List.set_cons_succ, i64_w, i32_w]
    rfl
  refine pure_ (i := 20) (N := (some 11)) (v := ?_) (a' := ?_) #[true, true, true, true, true, true, true, true, true, true, true, true, true, true, true, true, true, true, true, true, true, false, false, false] rfl rfl (any_of HT_.out (by kernel_rfl)) (fun _ _ _ h => h) (Or.inl ⟨by rfl, ?_⟩) ?_ ?_
  rotate_left
  · intro w'
    go_simp
    first | with_reducible rfl | (simp; done) | rfl
  rotate_left
  · simp only [Act.put, List.setIfInBounds_toArray, List.set_cons_zero, List.set_cons_succ, i64_w, i32_w]
    rfl
  refine pure_ (i := 21) (N := (some 12)) (v := ?_) (a' := ?_) #[true, true, true, true, true, true, true, true, true, true, true, true, true, true, true, true, true, true, true, true, true, true, false, false] rfl rfl (any_of HT_.out (by kernel_rfl)) (fun _ _ _ h => h) (Or.inl ⟨by rfl, ?_⟩) ?_ ?_
  rotate_left
  · intro w'
    go_simp
    first | with_reducible rfl | (simp; done) | rfl
  rotate_left
  · simp only [Act.put, List.setIfInBounds_toArray, List.set_cons_zero, List.set_cons_succ, i64_w, i32_w]
    rfl
  refine pure_ (i := 22) (N := (some 13)) (v := ?_) (a' := ?_) #[true, true, true, true, true, true, true, true, true, true, true, true, true, true, true, true, true, true, true, true, true, true, true, false] rfl rfl (any_of HT_.out (by kernel_rfl)) (fun _ _ _ h => h) (Or.inl ⟨by rfl, ?_⟩) ?_ ?_
  rotate_left
  · intro w'
    go_simp
    first | with_reducible rfl | (simp; done) | rfl
  rotate_left
  · simp only [Act.put, List.setIfInBounds_toArray, List.set_cons_zero, List.set_cons_succ, i64_w, i32_w]
    rfl
  refine pure_ (i := 23) (N := (some 14)) (v := ?_) (a' := ?_) #[true, true, true, true, true, true, true, true, true, true, true, true, true, true, true, true, true, true, true, true, true, true, true, true] rfl rfl (any_of HT_.out (by kernel_rfl)) (fun _ _ _ h => h) (Or.inl ⟨by rfl, ?_⟩) ?_ ?_
  rotate_left
  · intro w'
    go_simp
    first | with_reducible rfl | (simp; done) | rfl
  rotate_left
  · simp only [Act.put, List.setIfInBounds_toArray, List.set_cons_zero, List.set_cons_succ, i64_w, i32_w]
    rfl
  refine done_ (done_of HT_.out (by kernel_rfl)) ?_
  have hn : IntKind.u32.wrap (4294967295 - v4) = 4294967295 - v4 := by rw [IntKind.wrap_u32]; have := U4.out; omega
  go_upto_region 3 with (
    first
    | (go_at_call 54; (with_reducible refine (turn_m v4 6 6 rfl (by omega) (by omega) U4.out.1 _).mono ?_); rintro e w' ⟨rfl, rfl⟩)
    | (go_at_call 54; (with_reducible refine (turn_m v4 11 11 rfl (by omega) (by omega) U4.out.1 _).mono ?_); rintro e w' ⟨rfl, rfl⟩)
    | (go_at_call 54; (with_reducible refine (turn_m v4 25 25 rfl (by omega) (by omega) U4.out.1 _).mono ?_); rintro e w' ⟨rfl, rfl⟩))
  clear hn
  go_wp2_with (
    first
    | (go_at_call 54; (with_reducible refine (turn_m v0 2 2 rfl (by omega) (by omega) U0.out.1 _).mono ?_); rintro e w' ⟨rfl, rfl⟩)
    | (go_at_call 54; (with_reducible refine (turn_m v0 13 13 rfl (by omega) (by omega) U0.out.1 _).mono ?_); rintro e w' ⟨rfl, rfl⟩)
    | (go_at_call 54; (with_reducible refine (turn_m v0 22 22 rfl (by omega) (by omega) U0.out.1 _).mono ?_); rintro e w' ⟨rfl, rfl⟩)
    | ((with_reducible refine gate_store (p := 6) rfl ?_); refine r8_store rfl (.tmp 6) (.tmp 88) rfl g6 [((v7 + bits .xor .u32 (bits .xor .u32 (rot v4 6) (rot v4 11)) (rot v4 25) + bits .xor .u32 (bits .and .u32 v4 v5) (bits .and .u32 (4294967295 - v4) v6) + k + x) + (bits .xor .u32 (bits .xor .u32 (rot v0 2) (rot v0 13)) (rot v0 22) + bits .xor .u32 (bits .xor .u32 (bits .and .u32 v0 v1) (bits .and .u32 v0 v2)) (bits .and .u32 v1 v2))) % 4294967296, v0, v1, v2, (v3 + (v7 + bits .xor .u32 (bits .xor .u32 (rot v4 6) (rot v4 11)) (rot v4 25) + bits .xor .u32 (bits .and .u32 v4 v5) (bits .and .u32 (4294967295 - v4) v6) + k + x)) % 4294967296, v4, v5, v6] (List.replicate 8 0) rfl rfl (blk_drew BK6.out) rfl rfl ?_; intro w4 bk hoth hbel; have nn := Aside0.mk bk; have n3 := Aside0.mk (hbel _ _ (below_drew1 HB.out) G6.out); clear BK6 HB bk hoth hbel; have BK6 := nn; have HB := n3; clear nn n3))
  refine bodyPost_ret (results_c rfl _ _ g6 55 _ (0, 0) _ rfl BK6.out Tryd.underlying55 rfl (by rw [arr32_size]; exact info_r8)) rfl ?_
  refine ⟨?_, HB.out⟩
  congr 3
  unfold rnd oneR twoR
  rw [E0.out, E1.out, E2.out, E3.out, E4.out, E5.out, E6.out, E7.out]
  unfold add32 xor32 and32
  simp only [IntKind.wrap_u32]
  simp only [List.cons.injEq, true_and, and_true]
  refine ⟨?_, ?_⟩ <;> omega

end Go.Proofs.YtoaimcobcgomjaaDoor.Q
