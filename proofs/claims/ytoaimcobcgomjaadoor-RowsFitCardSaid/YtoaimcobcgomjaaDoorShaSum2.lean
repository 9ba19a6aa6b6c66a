/-
  beadrollref02.schedule: the contract, by hand (written by wip/tools/gen_sum.py).
-/
import Derived.Test.YtoaimcobcgomjaaDoorShaSum1
namespace Go.Proofs.YtoaimcobcgomjaaDoor.Q
open Go.RowKit Go.Proofs.YtoaimcobcgomjaaDoorW.PrintWords Go.Proofs.YtoaimcobcgomjaaDoorW.PrintLast Go.Proofs.YtoaimcobcgomjaaDoorW.PrintMore
set_option linter.unusedVariables false
set_option linter.unusedSimpArgs false

/-- A word, i bytes in. -/
def wordTo (b : List Int) (t : Nat) : Nat → Int
  | 0 => 0
  | i + 1 => add32 (IntKind.u32.wrap (256 * wordTo b t i)) (at_ b (4 * t + i))
theorem or_add (n m k : Nat) (hm : m < 2 ^ k) (hk : n * 2 ^ k + m < 4294967296) : bits .or .u32 ((n * 2 ^ k : Nat) : Int) (m : Int) = ((n * 2 ^ k + m : Nat) : Int) := by
  have h0 : n * 2 ^ k < 4294967296 := by omega
  have h1 : m < 4294967296 := by omega
  have e : bits .or .u32 ((n * 2 ^ k : Nat) : Int) (m : Int) = IntKind.u32.wrap ((BitVec.ofNat 32 (n * 2 ^ k) ||| BitVec.ofNat 32 m).toNat : Int) := by
    unfold bits
    congr 3
  rw [e, IntKind.wrap_u32, BitVec.toNat_or, BitVec.toNat_ofNat, BitVec.toNat_ofNat, Nat.mod_eq_of_lt h0, Nat.mod_eq_of_lt h1, ← Nat.shiftLeft_eq, ← Nat.shiftLeft_add_eq_or_of_lt hm, Nat.shiftLeft_eq]
  omega
theorem wordTo_word (b : List Int) (t : Nat) (ht : t < 16) (hl : b.length = 64) (hb : ∀ x ∈ b, 0 ≤ x ∧ x < 256) : wordTo b t 4 = word b t := by
  have h := fun j (hj : j < 64) => at_mem b hb j (by rw [hl]; exact hj)
  obtain ⟨c0, e0⟩ := Int.eq_ofNat_of_zero_le (h (4 * t) (by omega)).1
  obtain ⟨c1, e1⟩ := Int.eq_ofNat_of_zero_le (h (4 * t + 1) (by omega)).1
  obtain ⟨c2, e2⟩ := Int.eq_ofNat_of_zero_le (h (4 * t + 2) (by omega)).1
  obtain ⟨c3, e3⟩ := Int.eq_ofNat_of_zero_le (h (4 * t + 3) (by omega)).1
  have b0 := (h (4 * t) (by omega)).2
  have b1 := (h (4 * t + 1) (by omega)).2
  have b2 := (h (4 * t + 2) (by omega)).2
  have b3 := (h (4 * t + 3) (by omega)).2
  rw [e0] at b0
  rw [e1] at b1
  rw [e2] at b2
  rw [e3] at b3
  have l : wordTo b t 4 = (((c0 * 256 + c1) * 256 + c2) * 256 + c3 : Nat) := by
    simp only [wordTo, add32, IntKind.wrap_u32, Nat.add_zero]
    rw [e0, e1, e2, e3]
    omega
  rw [l]
  unfold word
  rw [e0, e1, e2, e3]
  simp only [or32, IntKind.wrap_u32]
  rw [show (c0 : Int) * 16777216 % 4294967296 = ((c0 * 2 ^ 24 : Nat) : Int) by omega, show (c1 : Int) * 65536 % 4294967296 = ((c1 * 65536 : Nat) : Int) by omega, show (c2 : Int) * 256 % 4294967296 = ((c2 * 256 : Nat) : Int) by omega]
  rw [or_add c0 (c1 * 65536) 24 (by omega) (by omega), show c0 * 2 ^ 24 + c1 * 65536 = (c0 * 256 + c1) * 2 ^ 16 by omega, or_add (c0 * 256 + c1) (c2 * 256) 16 (by omega) (by omega), show (c0 * 256 + c1) * 2 ^ 16 + c2 * 256 = ((c0 * 256 + c1) * 256 + c2) * 2 ^ 8 by omega, or_add _ c3 8 (by omega) (by omega)]
/-- The words so far, the next one i bytes in. -/
def wsPart (b : List Int) (t i : Nat) : List Int := schedTo b t ++ wordTo b t i :: List.replicate (63 - t) 0
theorem wsPart_zero (b : List Int) (t : Nat) (ht : t < 64) : wsPart b t 0 = wsTo b t := by
  unfold wsPart wsTo
  rw [show 64 - t = (63 - t) + 1 by omega, List.replicate_succ]
  rfl
theorem wsPart_len (b : List Int) (t i : Nat) (ht : t < 64) : (wsPart b t i).length = 64 := by simp [wsPart, schedTo_length]; omega
theorem wsPart_at (b : List Int) (t i : Nat) : at_ (wsPart b t i) t = wordTo b t i := by
  unfold at_ rd wsPart
  simp only [Int.toNat_natCast, List.getD_eq_getElem?_getD]
  rw [List.getElem?_append_right (by rw [schedTo_length]; exact Nat.le_refl _), schedTo_length, Nat.sub_self]
  simp
theorem wsPart_set (b : List Int) (t i : Nat) (x : Int) (hx : x = wordTo b t (i + 1)) : (wsPart b t i).set t x = wsPart b t (i + 1) := by
  subst hx
  unfold wsPart
  rw [List.set_append_right _ _ (by rw [schedTo_length]; exact Nat.le_refl _), schedTo_length, Nat.sub_self, List.set_cons_zero]
theorem wsPart_end (b : List Int) (t : Nat) (ht : t < 16) (hl : b.length = 64) (hb : ∀ x ∈ b, 0 ≤ x ∧ x < 256) : wsPart b t 4 = wsTo b (t + 1) := by
  rw [← wsTo_set b t (by omega), if_pos ht, ← wsPart_zero b t (by omega), ← wordTo_word b t ht hl hb]
  unfold wsPart
  rw [List.set_append_right _ _ (by rw [schedTo_length]; exact Nat.le_refl _), schedTo_length, Nat.sub_self, List.set_cons_zero]
theorem wordTo_u32 (b : List Int) (t i : Nat) : U32 (wordTo b t i) := by
  cases i with
  | zero => exact ⟨by show (0 : Int) ≤ 0; omega, by show (0 : Int) < _; omega⟩
  | succ i => exact u32_wrap _
structure SchPre (kb ob : Nat) (b : List Int) (W : World) : Prop where
  by_ : ∀ j, j < 64 → W.cell? ⟨kb, ob + j, none⟩ = some (.int .u8 (at_ b j))
  bl : b.length = 64
  bb : ∀ x ∈ b, 0 ≤ x ∧ x < 256

def sch8_T : Bool × List (List Nat × List Nat) := (true, [([], []), ([], []), ([1], [1]), ([2], [2]), ([3], [3]), ([], []), ([], []), ([6], [6]), ([], []), ([7, 8], [7, 8]), ([5, 9], [5, 9]), ([10], [10]), ([11], [11]), ([4, 12], [4, 12]), ([0, 0, 1, 2, 3, 4, 5, 6, 7, 8, 9, 10, 11, 12, 13], [0]), ([14, 13, 0, 1, 2, 3, 4, 5, 6, 7, 8, 9, 10, 11, 12, 13], [13, 14])])
def sch8_B : List Nat := [0, 0, 2, 6, 14, 0, 0, 64, 0, 448, 992, 2016, 4064, 8190, 16383, 32767]
theorem sch8_tab : rtab .any (opsOf Tryd.f37 8) = sch8_T := by kernel_rfl
theorem sch8_bits : waitsOk sch8_T.2 sch8_B = true := by kernel_rfl

def sch12_T : Bool × List (List Nat × List Nat) := (true, [([], []), ([0], [0]), ([1], [1]), ([2], [2]), ([], []), ([4], [4]), ([5], [5]), ([6], [6]), ([3, 0, 1, 2, 3], [3]), ([7, 8, 0, 1, 2, 3, 4, 5, 6, 7, 8], [7])])
def sch12_B : List Nat := [0, 1, 3, 7, 0, 16, 48, 112, 15, 511]
theorem sch12_tab : rtab .any (opsOf Tryd.f37 12) = sch12_T := by kernel_rfl
theorem sch12_bits : waitsOk sch12_T.2 sch12_B = true := by kernel_rfl

def sch13_T : Bool × List (List Nat × List Nat) := (true, [([], []), ([], []), ([1], [1]), ([2], [2]), ([3], [3]), ([], []), ([5], [5]), ([], []), ([7, 6], [7]), ([6, 8], [6, 8]), ([], []), ([10], [10]), ([9, 11], [9, 11]), ([4, 12], [4, 12]), ([], []), ([14], [14]), ([15], [15]), ([16], [16]), ([13, 17], [13, 17]), ([], []), ([19, 8], [19]), ([], []), ([21, 20], [21]), ([20, 22], [20, 22]), ([], []), ([24], [24]), ([23, 25], [23, 25]), ([18, 26], [18, 26]), ([0, 0, 1, 2, 3, 4, 5, 6, 7, 8, 9, 10, 11, 12, 13, 14, 15, 16, 17, 18, 19, 20, 21, 22, 23, 24, 25, 26, 27], [0]), ([28, 27, 22, 0, 1, 2, 3, 4, 5, 6, 7, 8, 9, 10, 11, 12, 13, 14, 15, 16, 17, 18, 19, 20, 21, 22, 23, 24, 25, 26, 27], [27, 28])])
def sch13_B : List Nat := [0, 0, 2, 6, 14, 0, 32, 0, 224, 480, 0, 1024, 4064, 8190, 0, 16384, 49152, 114688, 262142, 0, 524768, 0, 3670496, 7864800, 0, 16777216, 66585056, 134217726, 268435455, 536870911]
theorem sch13_tab : rtab .any (opsOf Tryd.f37 13) = sch13_T := by kernel_rfl
theorem sch13_bits : waitsOk sch13_T.2 sch13_B = true := by kernel_rfl

set_option maxHeartbeats 16000000 in
set_option maxRecDepth 100000 in
theorem schedule_walk (kb ob cap : Nat) (b : List Int) (W : World) (hp : SchPre kb ob b W) :
    Calls Tryd.prog 37 #[.slice (some ⟨kb, ob, none⟩) 64 cap] W fun e W' => e = .returned (.agg (arr32 (schedTo b 64))) ∧ Below W.heap.size W W' := by
  have HP := Aside0.mk hp
  have HB := Aside0.mk (Below.refl W.heap.size W)
  clear hp
  go_enter Tryd.func37, Tryd.ntmps37
  go_wp2_with (
    first
    | ((with_reducible refine gate_dst (N := 2) rfl ?_); refine box_event ?hg (N := 2) ?hd (cs := arr32 (List.replicate 64 0)) (t := 59) ?hr ?_; (case hd => rfl); (case hg => rfl); (case hr => first | (go_simp; done) | (go_simp; rfl));
       intro gr hg w1 hbox hb; have BR := Aside0.mk hbox; have GR := Aside0.mk (show W.heap.size ≤ gr by rw [hg]; exact Nat.le_refl _); have HB1 := Aside0.mk (below_step HB.out hb); clear HB; have HB := HB1; clear HB1 hb hbox hg)
    | ((with_reducible refine gate_dst (N := 3) rfl ?_); refine box_event ?hg (N := 3) ?hd (cs := arr32 (List.replicate 64 0)) (t := 59) ?hr ?_; (case hd => rfl); (case hg => rfl); (case hr => first | (go_simp; done) | (go_simp; rfl));
       intro gw hg w1 hbox hb; have BW := Aside0.mk hbox; have GW := Aside0.mk (show W.heap.size ≤ gw by rw [hg]; exact below_size HB.out); have NE := Aside0.mk (show gr ≠ gw by rw [hg]; exact Nat.ne_of_lt (blk_lt BR.out)); have n1 := Aside0.mk (blk_below BR.out hb); have HB1 := Aside0.mk (below_step HB.out hb); clear HB BR; have HB := HB1; have BR := n1; clear HB1 hb hbox hg n1))
  go_loopw [4, 5] (fun i _ wr => ∃ t : Nat, t ≤ 16 ∧ i = .int .i64 (t : Int) ∧ Aside0 (wr.heap[gw]? = some (.cells (arr32 (wsTo b t)) 59 (0, 0)) ∧ wr.heap[gr]? = some (.cells (arr32 (List.replicate 64 0)) 59 (0, 0)) ∧ Below W.heap.size W wr)) (fun i _ _ => 16 - (intOf i).toNat)
  case atStart => exact ⟨0, by omega, rfl, ⟨BW.out, BR.out, HB.out⟩⟩
  case round =>
    obtain ⟨t, ht, rfl, HI⟩ := hrel
    clear BW BR HB
    by_cases h16 : t < 16
    · have HI0 : Aside0 (wr.heap[gw]? = some (.cells (arr32 (wsPart b t 0)) 59 (0, 0)) ∧ wr.heap[gr]? = some (.cells (arr32 (List.replicate 64 0)) 59 (0, 0)) ∧ Below W.heap.size W wr) := ⟨by rw [wsPart_zero b t (by omega)]; exact HI.out⟩
      clear HI
      go_wp2
      go_loopw [5] (fun i wr => ∃ k : Nat, k ≤ 4 ∧ i = .int .i64 (k : Int) ∧ Aside0 (wr.heap[gw]? = some (.cells (arr32 (wsPart b t k)) 59 (0, 0)) ∧ wr.heap[gr]? = some (.cells (arr32 (List.replicate 64 0)) 59 (0, 0)) ∧ Below W.heap.size W wr)) (fun i _ => 4 - (intOf i).toNat)
      case atStart => exact ⟨0, by omega, rfl, HI0⟩
      case round =>
        obtain ⟨i, hi, rfl, HI⟩ := hrel
        clear HI0
        by_cases h4 : i < 4
        · obtain ⟨x, ex⟩ : ∃ x, wordTo b t i = x := ⟨_, rfl⟩
          obtain ⟨c, ec⟩ : ∃ c, at_ b (4 * t + i) = c := ⟨_, rfl⟩
          have hux := wordTo_u32 b t i
          rw [ex] at hux
          obtain ⟨hx0, hx1⟩ := hux
          have hcr : 0 ≤ c ∧ c < 256 := by rw [← ec]; exact at_mem b HP.out.bb (4 * t + i) (by rw [HP.out.bl]; omega)
          have hvc : IntKind.u32.wrap c = c := by rw [IntKind.wrap_u32]; omega
          have cw : wr.drew.cell? ⟨gw, t, none⟩ = some (.int .u32 x) := by rw [← ex, ← wsPart_at b t i]; exact cell_of_32 (blk_drew HI.out.1) t (by rw [wsPart_len b t i (by omega)]; omega)
          have cb : wr.drew.cell? ⟨kb, ob + (4 * t + i), none⟩ = some (.int .u8 c) := by
            have := HP.out.by_ (4 * t + i) (by omega)
            rw [ec] at this
            exact (HI.out.2.2.cell (World.block_lt_of_cell? _ _ this)).trans this
          have hfw : wr.drew.frozen? ⟨gw, t, none⟩ = false := blk_frozen (blk_drew HI.out.1) t
          have iw := fun W => idx_arr Tryd.underlying59 (by kernel_rfl) (by kernel_rfl) gw t (by omega) W
          have ib := fun W => idx_slice kb ob 64 cap (4 * t + i) (by omega) W
          rw [show ((4 * t + i : Nat) : Int) = 4 * (t : Int) + (i : Int) by omega] at ib
          have hw0 : IntKind.i64.wrap (4 * (t : Int)) = 4 * (t : Int) := by rw [IntKind.wrap_i64]; omega
          have hw1 : IntKind.i64.wrap (4 * (t : Int) + (i : Int)) = 4 * (t : Int) + (i : Int) := by rw [IntKind.wrap_i64]; omega
          have EX := Aside0.mk ex
          have EC := Aside0.mk ec
          clear ex ec
          go_wp2
          refine start_ (n := 16) (S := fun w' => w'.cell? ⟨gw, t, none⟩ = some (.int .u32 x) ∧ w'.cell? ⟨kb, ob + (4 * t + i), none⟩ = some (.int .u8 c)) (ds := [15]) #[false, false, false, false, false, false, false, false, false, false, false, false, false, false, false, false] (by kernel_rfl) rfl rfl ⟨cw, cb⟩ (fun hHeld => ?_)
          refine with_tabW sch8_tab sch8_bits (fun HT_ HW_ => ?_)
          refine pure_ (i := 0) (N := (some 17)) (v := ?_) (a' := ?_) #[true, false, false, false, false, false, false, false, false, false, false, false, false, false, false, false] rfl rfl (any_of HT_.out (by kernel_rfl)) (fun _ _ _ h => h) (Or.inl ⟨by rfl, ?_⟩) ?_ ?_
          rotate_left
          · intro w'
            go_simp
            first | with_reducible rfl | (simp; done) | rfl
          rotate_left
          · simp only [Act.put, List.setIfInBounds_toArray, List.set_cons_zero, List.set_cons_succ, i64_w, i32_w]
            rfl
          refine pure_ (i := 1) (N := (some 18)) (v := ?_) (a' := ?_) #[true, true, false, false, false, false, false, false, false, false, false, false, false, false, false, false] rfl rfl (any_of HT_.out (by kernel_rfl)) (fun _ _ _ h => h) (Or.inl ⟨by rfl, ?_⟩) ?_ ?_
          rotate_left
          · intro w'
            go_simp
            first | with_reducible rfl | (simp; done) | rfl
          rotate_left
          · simp only [Act.put, List.setIfInBounds_toArray, List.set_cons_zero, List.set_cons_succ, i64_w, i32_w]
            rfl
          refine pure_ (i := 2) (N := (some 19)) (v := ?_) (a' := ?_) #[true, true, true, false, false, false, false, false, false, false, false, false, false, false, false, false] rfl rfl (any_of HT_.out (by kernel_rfl)) (fun _ _ _ h => h) (Or.inl ⟨by rfl, ?_⟩) ?_ ?_
          rotate_left
          · intro w'
            go_simp
            first | with_reducible rfl | (simp; done) | rfl
          rotate_left
          · simp only [Act.put, List.setIfInBounds_toArray, List.set_cons_zero, List.set_cons_succ, i64_w, i32_w]
            rfl
          refine pure_ (i := 5) (N := (some 22)) (v := ?_) (a' := ?_) #[true, true, true, false, false, true, false, false, false, false, false, false, false, false, false, false] rfl rfl (any_of HT_.out (by kernel_rfl)) (fun _ _ _ h => h) (Or.inl ⟨by rfl, ?_⟩) ?_ ?_
          rotate_left
          · intro w'
            go_simp
            first | with_reducible rfl | (simp; done) | rfl
          rotate_left
          · simp only [Act.put, List.setIfInBounds_toArray, List.set_cons_zero, List.set_cons_succ, i64_w, i32_w]
            rfl
          refine pure_ (i := 6) (N := (some 23)) (v := ?_) (a' := ?_) #[true, true, true, false, false, true, true, false, false, false, false, false, false, false, false, false] rfl rfl (any_of HT_.out (by kernel_rfl)) (fun _ _ _ h => h) (Or.inl ⟨by rfl, ?_⟩) ?_ ?_
          rotate_left
          · intro w'
            go_simp
            first | with_reducible rfl | (simp; done) | rfl
          rotate_left
          · simp only [Act.put, List.setIfInBounds_toArray, List.set_cons_zero, List.set_cons_succ, i64_w, i32_w]
            rfl
          refine pure_ (i := 7) (N := (some 24)) (v := ?_) (a' := ?_) #[true, true, true, false, false, true, true, true, false, false, false, false, false, false, false, false] rfl rfl (any_of HT_.out (by kernel_rfl)) (fun _ _ _ h => h) (Or.inl ⟨by rfl, ?_⟩) ?_ ?_
          rotate_left
          · intro w'
            go_simp
            first | with_reducible rfl | (simp; done) | rfl
          rotate_left
          · simp only [Act.put, List.setIfInBounds_toArray, List.set_cons_zero, List.set_cons_succ, i64_w, i32_w]
            rfl
          refine pure_ (i := 8) (N := (some 25)) (v := ?_) (a' := ?_) #[true, true, true, false, false, true, true, true, true, false, false, false, false, false, false, false] rfl rfl (any_of HT_.out (by kernel_rfl)) (fun _ _ _ h => h) (Or.inl ⟨by rfl, ?_⟩) ?_ ?_
          rotate_left
          · intro w'
            go_simp
            first | with_reducible rfl | (simp; done) | rfl
          rotate_left
          · simp only [Act.put, List.setIfInBounds_toArray, List.set_cons_zero, List.set_cons_succ, i64_w, i32_w]
            rfl
          refine pure_ (i := 9) (N := (some 26)) (v := ?_) (a' := ?_) #[true, true, true, false, false, true, true, true, true, true, false, false, false, false, false, false] rfl rfl (any_of HT_.out (by kernel_rfl)) (fun _ _ _ h => h) (Or.inl ⟨by rfl, ?_⟩) ?_ ?_
          rotate_left
          · intro w'
            go_simp
            first | with_reducible rfl | (simp; done) | rfl
          rotate_left
          · simp only [Act.put, List.setIfInBounds_toArray, List.set_cons_zero, List.set_cons_succ, i64_w, i32_w]
            rfl
          refine pure_ (i := 10) (N := (some 27)) (v := ?_) (a' := ?_) #[true, true, true, false, false, true, true, true, true, true, true, false, false, false, false, false] rfl rfl (any_of HT_.out (by kernel_rfl)) (fun _ _ _ h => h) (Or.inl ⟨by rfl, ?_⟩) ?_ ?_
          rotate_left
          · intro w'
            go_simp
            first | with_reducible rfl | (simp; done) | rfl
          rotate_left
          · simp only [Act.put, List.setIfInBounds_toArray, List.set_cons_zero, List.set_cons_succ, i64_w, i32_w]
            rfl
          refine take_ (i := 3) (N := (some 20)) (v := ?_) (a' := ?_) #[true, true, true, true, false, true, true, true, true, true, true, false, false, false, false, false] rfl rfl (take_ofW HT_.out HW_.out (by kernel_rfl)) (fun _ _ _ h => h) (Or.inl ⟨by rfl, ?_⟩) hHeld ?_ ?_
          rotate_left
          · rintro w' ⟨s0, s1⟩
            go_simp
            with_reducible rfl
          rotate_left
          · simp only [Act.put, List.setIfInBounds_toArray, List.set_cons_zero, List.set_cons_succ, i64_w, i32_w]
            rfl
          refine take_ (i := 11) (N := (some 28)) (v := ?_) (a' := ?_) #[true, true, true, true, false, true, true, true, true, true, true, true, false, false, false, false] rfl rfl (take_ofW HT_.out HW_.out (by kernel_rfl)) (fun _ _ _ h => h) (Or.inl ⟨by rfl, ?_⟩) hHeld ?_ ?_
          rotate_left
          · rintro w' ⟨s0, s1⟩
            go_simp
            with_reducible rfl
          rotate_left
          · simp only [Act.put, List.setIfInBounds_toArray, List.set_cons_zero, List.set_cons_succ, i64_w, i32_w]
            rfl
          refine pure_ (i := 4) (N := (some 21)) (v := ?_) (a' := ?_) #[true, true, true, true, true, true, true, true, true, true, true, true, false, false, false, false] rfl rfl (any_of HT_.out (by kernel_rfl)) (fun _ _ _ h => h) (Or.inl ⟨by rfl, ?_⟩) ?_ ?_
          rotate_left
          · intro w'
            go_simp
            first | with_reducible rfl | (simp; done) | rfl
          rotate_left
          · simp only [Act.put, List.setIfInBounds_toArray, List.set_cons_zero, List.set_cons_succ, i64_w, i32_w]
            rfl
          refine pure_ (i := 12) (N := (some 29)) (v := ?_) (a' := ?_) #[true, true, true, true, true, true, true, true, true, true, true, true, true, false, false, false] rfl rfl (any_of HT_.out (by kernel_rfl)) (fun _ _ _ h => h) (Or.inl ⟨by rfl, ?_⟩) ?_ ?_
          rotate_left
          · intro w'
            go_simp
            first | with_reducible rfl | (simp; done) | rfl
          rotate_left
          · simp only [Act.put, List.setIfInBounds_toArray, List.set_cons_zero, List.set_cons_succ, i64_w, i32_w]
            rfl
          refine pure_ (i := 13) (N := (some 30)) (v := ?_) (a' := ?_) #[true, true, true, true, true, true, true, true, true, true, true, true, true, true, false, false] rfl rfl (any_of HT_.out (by kernel_rfl)) (fun _ _ _ h => h) (Or.inl ⟨by rfl, ?_⟩) ?_ ?_
          rotate_left
          · intro w'
            go_simp
            first | with_reducible rfl | (simp; done) | rfl
          rotate_left
          · simp only [Act.put, List.setIfInBounds_toArray, List.set_cons_zero, List.set_cons_succ, i64_w, i32_w]
            rfl
          refine pure_ (i := 14) (N := (some 31)) (v := ?_) (a' := ?_) #[true, true, true, true, true, true, true, true, true, true, true, true, true, true, true, false] rfl rfl (any_of HT_.out (by kernel_rfl)) (fun _ _ _ h => h) (Or.inl ⟨by rfl, ?_⟩) ?_ ?_
          rotate_left
          · intro w'
            go_simp
            first | with_reducible rfl | (simp; done) | rfl
          rotate_left
          · simp only [Act.put, List.setIfInBounds_toArray, List.set_cons_zero, List.set_cons_succ, i64_w, i32_w]
            rfl
          refine last_ (i := 15) (N := none) #[true, true, true, true, true, true, true, true, true, true, true, true, true, true, true, true] rfl rfl (one_of HT_.out (by kernel_rfl)) (by decide) (fun K hK => ?_)
          refine skip_ (w1 := ?_) (by rfl) rfl ?_ ?_
          rotate_left
          · go_simp
            rfl
          refine hK.out _ _ ?_
          clear hK K
          refine done_ (done_of HT_.out (by kernel_rfl)) ?_
          go_wp2
          refine ⟨⟨i + 1, by omega, by simp, ⟨?_, ?_, ?_⟩⟩, by simp [intOf]; omega⟩
          · rw [← wsPart_set b t i (add32 (IntKind.u32.wrap (256 * x)) c) (by show _ = add32 _ _; rw [EX.out, EC.out])]
            refine blk_put (blk_drew HI.out.1) t _ ?_
            rw [arr32_set]
            unfold add32
            first | rfl | simp only [IntKind.wrap_u32]
          · exact (Below.heap_setCell _ ⟨gw, t, none⟩ _ gr NE.out).trans (blk_drew HI.out.2.1)
          · exact (HI.out.2.2.drew).setCell (p := ⟨gw, t, none⟩) GW.out _
        · have hk4 : i = 4 := by omega
          subst hk4
          go_wp2
          refine ⟨⟨t + 1, by omega, by simp, ⟨by have := HI.out; rw [wsPart_end b t h16 HP.out.bl HP.out.bb] at this; exact this⟩⟩, by simp [intOf]; omega⟩
    · have hts : t = 16 := by omega
      subst hts
      go_wp2
      go_loopw [6, 7, 8] (fun i _ _ wr => ∃ t : Nat, 16 ≤ t ∧ t ≤ 64 ∧ i = .int .i64 (t : Int) ∧ Aside0 (wr.heap[gw]? = some (.cells (arr32 (wsTo b t)) 59 (0, 0)) ∧ wr.heap[gr]? = some (.cells (arr32 (List.replicate 64 0)) 59 (0, 0)) ∧ Below W.heap.size W wr)) (fun i _ _ _ => 64 - (intOf i).toNat)
      case atStart => exact ⟨16, by omega, by omega, rfl, HI⟩
      case round =>
        obtain ⟨t, h16, ht, rfl, HI2⟩ := hrel
        clear HI
        have BW := Aside0.mk HI2.out.1
        by_cases hlt : t < 64
        · have hl : t ≤ 64 := ht
          have hiw := fun W => idx_arr Tryd.underlying59 (by kernel_rfl) (by kernel_rfl) gw t hlt W
          have lay : ∀ d : Nat, d < 17 → 0 < d → IntKind.i64.wrap ((t : Int) - d) = (t : Int) - d := fun d h1 h2 => by rw [IntKind.wrap_i64]; omega
          have hs16 : IntKind.i64.wrap ((t : Int) - 16) = (t : Int) - 16 := lay 16 (by omega) (by omega)
          have hs15 : IntKind.i64.wrap ((t : Int) - 15) = (t : Int) - 15 := lay 15 (by omega) (by omega)
          have hs7 : IntKind.i64.wrap ((t : Int) - 7) = (t : Int) - 7 := lay 7 (by omega) (by omega)
          have hs2 : IntKind.i64.wrap ((t : Int) - 2) = (t : Int) - 2 := lay 2 (by omega) (by omega)
          have ix : ∀ (d : Nat) (W : World), d < 17 → 0 < d → (Instr.indexAt 59 (.pointer (some ⟨gw, 0, none⟩)) (.int .i64 ((t : Int) - d))).run Tryd.prog W = .ok (.pointer (some ⟨gw, t - d, none⟩)) W := fun d W h1 h2 => by
            have := idx_arr Tryd.underlying59 (by kernel_rfl) (by kernel_rfl) gw (t - d) (by omega) W
            rwa [show ((t - d : Nat) : Int) = (t : Int) - d by omega] at this
          have ix16 := fun W => ix 16 W (by omega) (by omega)
          have ix15 := fun W => ix 15 W (by omega) (by omega)
          have ix7 := fun W => ix 7 W (by omega) (by omega)
          have ix2 := fun W => ix 2 W (by omega) (by omega)
          rw [show ((16 : Nat) : Int) = 16 from rfl] at ix16
          rw [show ((15 : Nat) : Int) = 15 from rfl] at ix15
          rw [show ((7 : Nat) : Int) = 7 from rfl] at ix7
          rw [show ((2 : Nat) : Int) = 2 from rfl] at ix2
          have cx : ∀ (d : Nat), d < 17 → 0 < d → wr.cell? ⟨gw, t - d, none⟩ = some (.int .u32 (at_ (schedTo b t) (t - d))) := fun d h1 h2 => by
            rw [← wsTo_at b t (t - d) (by omega) hl]
            exact cell_of_32 BW.out (t - d) (by rw [wsTo_length b t hl]; omega)
          have ux : ∀ (d : Nat), d < 17 → 0 < d → U32 (at_ (schedTo b t) (t - d)) := fun d h1 h2 => at_mem _ (sched_u32 b t) (t - d) (by rw [schedTo_length]; omega)
          obtain ⟨x16, e16⟩ : ∃ x, at_ (schedTo b t) (t - 16) = x := ⟨_, rfl⟩
          obtain ⟨x15, e15⟩ : ∃ x, at_ (schedTo b t) (t - 15) = x := ⟨_, rfl⟩
          obtain ⟨x7, e7⟩ : ∃ x, at_ (schedTo b t) (t - 7) = x := ⟨_, rfl⟩
          obtain ⟨x2, e2⟩ : ∃ x, at_ (schedTo b t) (t - 2) = x := ⟨_, rfl⟩
          have c16 : wr.drew.drew.cell? ⟨gw, t - 16, none⟩ = some (.int .u32 x16) := e16 ▸ cx 16 (by omega) (by omega)
          have c15 : wr.drew.cell? ⟨gw, t - 15, none⟩ = some (.int .u32 x15) := e15 ▸ cx 15 (by omega) (by omega)
          have c7 : wr.drew.drew.cell? ⟨gw, t - 7, none⟩ = some (.int .u32 x7) := e7 ▸ cx 7 (by omega) (by omega)
          have c2 : wr.drew.cell? ⟨gw, t - 2, none⟩ = some (.int .u32 x2) := e2 ▸ cx 2 (by omega) (by omega)
          have u15 := e15 ▸ ux 15 (by omega) (by omega)
          have u2 := e2 ▸ ux 2 (by omega) (by omega)
          have hcw : wr.drew.drew.cell? ⟨gw, t, none⟩ = some (.int .u32 (at_ (wsTo b t) t)) := cell_of_32 (blk_drew (blk_drew BW.out)) t (by rw [wsTo_length b t ht]; exact hlt)
          have hfw : wr.drew.drew.frozen? ⟨gw, t, none⟩ = false := blk_frozen (blk_drew (blk_drew BW.out)) t
          have E16 := Aside0.mk e16
          have E15 := Aside0.mk e15
          have E7 := Aside0.mk e7
          have E2 := Aside0.mk e2
          have U15 : Aside0 (0 ≤ x15) := ⟨And.left u15⟩
          have U2 : Aside0 (0 ≤ x2) := ⟨And.left u2⟩
          clear e16 e15 e7 e2 cx ux ix lay u15 u2
          go_wp2
          refine start_ (n := 10) (S := fun w' => w'.cell? ⟨gw, t - 15, none⟩ = some (.int .u32 x15) ∧ w'.cell? ⟨gw, t - 2, none⟩ = some (.int .u32 x2)) (ds := []) #[false, false, false, false, false, false, false, false, false, false] (by kernel_rfl) rfl rfl ⟨c15, c2⟩ (fun hHeld => ?_)
          refine with_tabW sch12_tab sch12_bits (fun HT_ HW_ => ?_)
          refine pure_ (i := 0) (N := (some 36)) (v := ?_) (a' := ?_) #[true, false, false, false, false, false, false, false, false, false] rfl rfl (any_of HT_.out (by kernel_rfl)) (fun _ _ _ h => h) (Or.inl ⟨by rfl, ?_⟩) ?_ ?_
          rotate_left
          · intro w'
            go_simp
            first | with_reducible rfl | (simp; done) | rfl
          rotate_left
          · simp only [Act.put, List.setIfInBounds_toArray, List.set_cons_zero, List.set_cons_succ, i64_w, i32_w]
            rfl
          refine pure_ (i := 1) (N := (some 37)) (v := ?_) (a' := ?_) #[true, true, false, false, false, false, false, false, false, false] rfl rfl (any_of HT_.out (by kernel_rfl)) (fun _ _ _ h => h) (Or.inl ⟨by rfl, ?_⟩) ?_ ?_
          rotate_left
          · intro w'
            go_simp
            first | with_reducible rfl | (simp; done) | rfl
          rotate_left
          · simp only [Act.put, List.setIfInBounds_toArray, List.set_cons_zero, List.set_cons_succ, i64_w, i32_w]
            rfl
          refine pure_ (i := 2) (N := (some 38)) (v := ?_) (a' := ?_) #[true, true, true, false, false, false, false, false, false, false] rfl rfl (any_of HT_.out (by kernel_rfl)) (fun _ _ _ h => h) (Or.inl ⟨by rfl, ?_⟩) ?_ ?_
          rotate_left
          · intro w'
            go_simp
            first | with_reducible rfl | (simp; done) | rfl
          rotate_left
          · simp only [Act.put, List.setIfInBounds_toArray, List.set_cons_zero, List.set_cons_succ, i64_w, i32_w]
            rfl
          refine pure_ (i := 4) (N := (some 40)) (v := ?_) (a' := ?_) #[true, true, true, false, true, false, false, false, false, false] rfl rfl (any_of HT_.out (by kernel_rfl)) (fun _ _ _ h => h) (Or.inl ⟨by rfl, ?_⟩) ?_ ?_
          rotate_left
          · intro w'
            go_simp
            first | with_reducible rfl | (simp; done) | rfl
          rotate_left
          · simp only [Act.put, List.setIfInBounds_toArray, List.set_cons_zero, List.set_cons_succ, i64_w, i32_w]
            rfl
          refine pure_ (i := 5) (N := (some 41)) (v := ?_) (a' := ?_) #[true, true, true, false, true, true, false, false, false, false] rfl rfl (any_of HT_.out (by kernel_rfl)) (fun _ _ _ h => h) (Or.inl ⟨by rfl, ?_⟩) ?_ ?_
          rotate_left
          · intro w'
            go_simp
            first | with_reducible rfl | (simp; done) | rfl
          rotate_left
          · simp only [Act.put, List.setIfInBounds_toArray, List.set_cons_zero, List.set_cons_succ, i64_w, i32_w]
            rfl
          refine pure_ (i := 6) (N := (some 42)) (v := ?_) (a' := ?_) #[true, true, true, false, true, true, true, false, false, false] rfl rfl (any_of HT_.out (by kernel_rfl)) (fun _ _ _ h => h) (Or.inl ⟨by rfl, ?_⟩) ?_ ?_
          rotate_left
          · intro w'
            go_simp
            first | with_reducible rfl | (simp; done) | rfl
          rotate_left
          · simp only [Act.put, List.setIfInBounds_toArray, List.set_cons_zero, List.set_cons_succ, i64_w, i32_w]
            rfl
          refine take_ (i := 3) (N := (some 39)) (v := ?_) (a' := ?_) #[true, true, true, true, true, true, true, false, false, false] rfl rfl (take_ofW HT_.out HW_.out (by kernel_rfl)) (fun _ _ _ h => h) (Or.inl ⟨by rfl, ?_⟩) hHeld ?_ ?_
          rotate_left
          · rintro w' ⟨s0, s1⟩
            go_simp
            with_reducible rfl
          rotate_left
          · simp only [Act.put, List.setIfInBounds_toArray, List.set_cons_zero, List.set_cons_succ, i64_w, i32_w]
            rfl
          refine take_ (i := 7) (N := (some 43)) (v := ?_) (a' := ?_) #[true, true, true, true, true, true, true, true, false, false] rfl rfl (take_ofW HT_.out HW_.out (by kernel_rfl)) (fun _ _ _ h => h) (Or.inl ⟨by rfl, ?_⟩) hHeld ?_ ?_
          rotate_left
          · rintro w' ⟨s0, s1⟩
            go_simp
            with_reducible rfl
          rotate_left
          · simp only [Act.put, List.setIfInBounds_toArray, List.set_cons_zero, List.set_cons_succ, i64_w, i32_w]
            rfl
          refine pure_ (i := 8) (N := (some 7)) (v := ?_) (a' := ?_) #[true, true, true, true, true, true, true, true, true, false] rfl rfl (any_of HT_.out (by kernel_rfl)) (fun _ _ _ h => h) (Or.inl ⟨by rfl, ?_⟩) ?_ ?_
          rotate_left
          · intro w'
            go_simp
            first | with_reducible rfl | (simp; done) | rfl
          rotate_left
          · simp only [Act.put, List.setIfInBounds_toArray, List.set_cons_zero, List.set_cons_succ, i64_w, i32_w]
            rfl
          refine pure_ (i := 9) (N := (some 8)) (v := ?_) (a' := ?_) #[true, true, true, true, true, true, true, true, true, true] rfl rfl (any_of HT_.out (by kernel_rfl)) (fun _ _ _ h => h) (Or.inl ⟨by rfl, ?_⟩) ?_ ?_
          rotate_left
          · intro w'
            go_simp
            first | with_reducible rfl | (simp; done) | rfl
          rotate_left
          · simp only [Act.put, List.setIfInBounds_toArray, List.set_cons_zero, List.set_cons_succ, i64_w, i32_w]
            rfl
          refine done_ (done_of HT_.out (by kernel_rfl)) ?_
          go_wp2
          refine start_ (n := 30) (S := fun w' => w'.cell? ⟨gw, t - 16, none⟩ = some (.int .u32 x16) ∧ w'.cell? ⟨gw, t - 7, none⟩ = some (.int .u32 x7)) (ds := [29]) #[false, false, false, false, false, false, false, false, false, false, false, false, false, false, false, false, false, false, false, false, false, false, false, false, false, false, false, false, false, false] (by kernel_rfl) rfl rfl ⟨c16, c7⟩ (fun hHeld => ?_)
          refine with_tabW sch13_tab sch13_bits (fun HT_ HW_ => ?_)
          refine pure_ (i := 0) (N := (some 44)) (v := ?_) (a' := ?_) #[true, false, false, false, false, false, false, false, false, false, false, false, false, false, false, false, false, false, false, false, false, false, false, false, false, false, false, false, false, false] rfl rfl (any_of HT_.out (by kernel_rfl)) (fun _ _ _ h => h) (Or.inl ⟨by rfl, ?_⟩) ?_ ?_
          rotate_left
          · intro w'
            go_simp
            first | with_reducible rfl | (simp; done) | rfl
          rotate_left
          · simp only [Act.put, List.setIfInBounds_toArray, List.set_cons_zero, List.set_cons_succ, i64_w, i32_w]
            rfl
          refine pure_ (i := 1) (N := (some 45)) (v := ?_) (a' := ?_) #[true, true, false, false, false, false, false, false, false, false, false, false, false, false, false, false, false, false, false, false, false, false, false, false, false, false, false, false, false, false] rfl rfl (any_of HT_.out (by kernel_rfl)) (fun _ _ _ h => h) (Or.inl ⟨by rfl, ?_⟩) ?_ ?_
          rotate_left
          · intro w'
            go_simp
            first | with_reducible rfl | (simp; done) | rfl
          rotate_left
          · simp only [Act.put, List.setIfInBounds_toArray, List.set_cons_zero, List.set_cons_succ, i64_w, i32_w]
            rfl
          refine pure_ (i := 5) (N := (some 49)) (v := ?_) (a' := ?_) #[true, true, false, false, false, true, false, false, false, false, false, false, false, false, false, false, false, false, false, false, false, false, false, false, false, false, false, false, false, false] rfl rfl (any_of HT_.out (by kernel_rfl)) (fun _ _ _ h => h) (Or.inl ⟨by rfl, ?_⟩) ?_ ?_
          rotate_left
          · intro w'
            go_simp
            first | with_reducible rfl | (simp; done) | rfl
          rotate_left
          · simp only [Act.put, List.setIfInBounds_toArray, List.set_cons_zero, List.set_cons_succ, i64_w, i32_w]
            rfl
          refine pure_ (i := 7) (N := (some 51)) (v := ?_) (a' := ?_) #[true, true, false, false, false, true, false, true, false, false, false, false, false, false, false, false, false, false, false, false, false, false, false, false, false, false, false, false, false, false] rfl rfl (any_of HT_.out (by kernel_rfl)) (fun _ _ _ h => h) (Or.inl ⟨by rfl, ?_⟩) ?_ ?_
          rotate_left
          · intro w'
            go_simp
            first | with_reducible rfl | (simp; done) | rfl
          rotate_left
          · simp only [Act.put, List.setIfInBounds_toArray, List.set_cons_zero, List.set_cons_succ, i64_w, i32_w]
            rfl
          refine pure_ (i := 10) (N := (some 54)) (v := ?_) (a' := ?_) #[true, true, false, false, false, true, false, true, false, false, true, false, false, false, false, false, false, false, false, false, false, false, false, false, false, false, false, false, false, false] rfl rfl (any_of HT_.out (by kernel_rfl)) (fun _ _ _ h => h) (Or.inl ⟨by rfl, ?_⟩) ?_ ?_
          rotate_left
          · intro w'
            go_simp
            first | with_reducible rfl | (simp; done) | rfl
          rotate_left
          · simp only [Act.put, List.setIfInBounds_toArray, List.set_cons_zero, List.set_cons_succ, i64_w, i32_w]
            rfl
          refine pure_ (i := 14) (N := (some 58)) (v := ?_) (a' := ?_) #[true, true, false, false, false, true, false, true, false, false, true, false, false, false, true, false, false, false, false, false, false, false, false, false, false, false, false, false, false, false] rfl rfl (any_of HT_.out (by kernel_rfl)) (fun _ _ _ h => h) (Or.inl ⟨by rfl, ?_⟩) ?_ ?_
          rotate_left
          · intro w'
            go_simp
            first | with_reducible rfl | (simp; done) | rfl
          rotate_left
          · simp only [Act.put, List.setIfInBounds_toArray, List.set_cons_zero, List.set_cons_succ, i64_w, i32_w]
            rfl
          refine pure_ (i := 19) (N := (some 63)) (v := ?_) (a' := ?_) #[true, true, false, false, false, true, false, true, false, false, true, false, false, false, true, false, false, false, false, true, false, false, false, false, false, false, false, false, false, false] rfl rfl (any_of HT_.out (by kernel_rfl)) (fun _ _ _ h => h) (Or.inl ⟨by rfl, ?_⟩) ?_ ?_
          rotate_left
          · intro w'
            go_simp
            first | with_reducible rfl | (simp; done) | rfl
          rotate_left
          · simp only [Act.put, List.setIfInBounds_toArray, List.set_cons_zero, List.set_cons_succ, i64_w, i32_w]
            rfl
          refine pure_ (i := 21) (N := (some 65)) (v := ?_) (a' := ?_) #[true, true, false, false, false, true, false, true, false, false, true, false, false, false, true, false, false, false, false, true, false, true, false, false, false, false, false, false, false, false] rfl rfl (any_of HT_.out (by kernel_rfl)) (fun _ _ _ h => h) (Or.inl ⟨by rfl, ?_⟩) ?_ ?_
          rotate_left
          · intro w'
            go_simp
            first | with_reducible rfl | (simp; done) | rfl
          rotate_left
          · simp only [Act.put, List.setIfInBounds_toArray, List.set_cons_zero, List.set_cons_succ, i64_w, i32_w]
            rfl
          refine pure_ (i := 24) (N := (some 68)) (v := ?_) (a' := ?_) #[true, true, false, false, false, true, false, true, false, false, true, false, false, false, true, false, false, false, false, true, false, true, false, false, true, false, false, false, false, false] rfl rfl (any_of HT_.out (by kernel_rfl)) (fun _ _ _ h => h) (Or.inl ⟨by rfl, ?_⟩) ?_ ?_
          rotate_left
          · intro w'
            go_simp
            first | with_reducible rfl | (simp; done) | rfl
          rotate_left
          · simp only [Act.put, List.setIfInBounds_toArray, List.set_cons_zero, List.set_cons_succ, i64_w, i32_w]
            rfl
          refine pure_ (i := 2) (N := (some 46)) (v := ?_) (a' := ?_) #[true, true, true, false, false, true, false, true, false, false, true, false, false, false, true, false, false, false, false, true, false, true, false, false, true, false, false, false, false, false] rfl rfl (any_of HT_.out (by kernel_rfl)) (fun _ _ _ h => h) (Or.inl ⟨by rfl, ?_⟩) ?_ ?_
          rotate_left
          · intro w'
            go_simp
            first | with_reducible rfl | (simp; done) | rfl
          rotate_left
          · simp only [Act.put, List.setIfInBounds_toArray, List.set_cons_zero, List.set_cons_succ, i64_w, i32_w]
            rfl
          refine pure_ (i := 11) (N := (some 55)) (v := ?_) (a' := ?_) #[true, true, true, false, false, true, false, true, false, false, true, true, false, false, true, false, false, false, false, true, false, true, false, false, true, false, false, false, false, false] rfl rfl (any_of HT_.out (by kernel_rfl)) (fun _ _ _ h => h) (Or.inl ⟨by rfl, ?_⟩) ?_ ?_
          rotate_left
          · intro w'
            go_simp
            first | with_reducible rfl | (simp; done) | rfl
          rotate_left
          · simp only [Act.put, List.setIfInBounds_toArray, List.set_cons_zero, List.set_cons_succ, i64_w, i32_w]
            rfl
          refine pure_ (i := 15) (N := (some 59)) (v := ?_) (a' := ?_) #[true, true, true, false, false, true, false, true, false, false, true, true, false, false, true, true, false, false, false, true, false, true, false, false, true, false, false, false, false, false] rfl rfl (any_of HT_.out (by kernel_rfl)) (fun _ _ _ h => h) (Or.inl ⟨by rfl, ?_⟩) ?_ ?_
          rotate_left
          · intro w'
            go_simp
            first | with_reducible rfl | (simp; done) | rfl
          rotate_left
          · simp only [Act.put, List.setIfInBounds_toArray, List.set_cons_zero, List.set_cons_succ, i64_w, i32_w]
            rfl
          refine pure_ (i := 25) (N := (some 69)) (v := ?_) (a' := ?_) #[true, true, true, false, false, true, false, true, false, false, true, true, false, false, true, true, false, false, false, true, false, true, false, false, true, true, false, false, false, false] rfl rfl (any_of HT_.out (by kernel_rfl)) (fun _ _ _ h => h) (Or.inl ⟨by rfl, ?_⟩) ?_ ?_
          rotate_left
          · intro w'
            go_simp
            first | with_reducible rfl | (simp; done) | rfl
          rotate_left
          · simp only [Act.put, List.setIfInBounds_toArray, List.set_cons_zero, List.set_cons_succ, i64_w, i32_w]
            rfl
          refine pure_ (i := 3) (N := (some 47)) (v := ?_) (a' := ?_) #[true, true, true, true, false, true, false, true, false, false, true, true, false, false, true, true, false, false, false, true, false, true, false, false, true, true, false, false, false, false] rfl rfl (any_of HT_.out (by kernel_rfl)) (fun _ _ _ h => h) (Or.inl ⟨by rfl, ?_⟩) ?_ ?_
          rotate_left
          · intro w'
            go_simp
            first | with_reducible rfl | (simp; done) | rfl
          rotate_left
          · simp only [Act.put, List.setIfInBounds_toArray, List.set_cons_zero, List.set_cons_succ, i64_w, i32_w]
            rfl
          refine pure_ (i := 16) (N := (some 60)) (v := ?_) (a' := ?_) #[true, true, true, true, false, true, false, true, false, false, true, true, false, false, true, true, true, false, false, true, false, true, false, false, true, true, false, false, false, false] rfl rfl (any_of HT_.out (by kernel_rfl)) (fun _ _ _ h => h) (Or.inl ⟨by rfl, ?_⟩) ?_ ?_
          rotate_left
          · intro w'
            go_simp
            first | with_reducible rfl | (simp; done) | rfl
          rotate_left
          · simp only [Act.put, List.setIfInBounds_toArray, List.set_cons_zero, List.set_cons_succ, i64_w, i32_w]
            rfl
          refine take_ (i := 4) (N := (some 48)) (v := ?_) (a' := ?_) #[true, true, true, true, true, true, false, true, false, false, true, true, false, false, true, true, true, false, false, true, false, true, false, false, true, true, false, false, false, false] rfl rfl (take_ofW HT_.out HW_.out (by kernel_rfl)) (fun _ _ _ h => h) (Or.inl ⟨by rfl, ?_⟩) hHeld ?_ ?_
          rotate_left
          · rintro w' ⟨s0, s1⟩
            go_simp
            with_reducible rfl
          rotate_left
          · simp only [Act.put, List.setIfInBounds_toArray, List.set_cons_zero, List.set_cons_succ, i64_w, i32_w]
            rfl
          refine take_ (i := 17) (N := (some 61)) (v := ?_) (a' := ?_) #[true, true, true, true, true, true, false, true, false, false, true, true, false, false, true, true, true, true, false, true, false, true, false, false, true, true, false, false, false, false] rfl rfl (take_ofW HT_.out HW_.out (by kernel_rfl)) (fun _ _ _ h => h) (Or.inl ⟨by rfl, ?_⟩) hHeld ?_ ?_
          rotate_left
          · rintro w' ⟨s0, s1⟩
            go_simp
            with_reducible rfl
          rotate_left
          · simp only [Act.put, List.setIfInBounds_toArray, List.set_cons_zero, List.set_cons_succ, i64_w, i32_w]
            rfl
          refine one_ (i := 6) (N := (some 50)) #[true, true, true, true, true, true, true, true, false, false, true, true, false, false, true, true, true, true, false, true, false, true, false, false, true, true, false, false, false, false] rfl rfl (one_of HT_.out (by kernel_rfl)) (by decide) (fun K hK => ?_)
          refine goes_ Tryd.func54 (by kernel_rfl) rfl #[.int .u32 x15, .int .u32 7] (by rfl) rfl rfl (by (try simp only [List.map_toArray, List.map_cons, List.map_nil]); first | done | rfl) ?_
          with_reducible refine (turn_m x15 7 7 rfl (by omega) (by omega) U15.out _).mono ?_
          rintro e0 w' ⟨rfl, rfl⟩
          refine ⟨_, rfl, ?_⟩
          refine hK.out _ _ hHeld (fun hHeld => ?_)
          clear hK K
          refine norm_ (a' := ?_) ?_ ?_
          rotate_left
          · show Act.put _ (some 50) _ = _
            simp only [Act.put, List.setIfInBounds_toArray, List.set_cons_zero, List.set_cons_succ, i64_w, i32_w]
            rfl
          refine one_ (i := 8) (N := (some 52)) #[true, true, true, true, true, true, true, true, true, false, true, true, false, false, true, true, true, true, false, true, false, true, false, false, true, true, false, false, false, false] rfl rfl (one_of HT_.out (by kernel_rfl)) (by decide) (fun K hK => ?_)
          refine goes_ Tryd.func54 (by kernel_rfl) rfl #[.int .u32 x15, .int .u32 18] (by rfl) rfl rfl (by (try simp only [List.map_toArray, List.map_cons, List.map_nil]); first | done | rfl) ?_
          with_reducible refine (turn_m x15 18 18 rfl (by omega) (by omega) U15.out _).mono ?_
          rintro e0 w' ⟨rfl, rfl⟩
          refine ⟨_, rfl, ?_⟩
          refine hK.out _ _ hHeld (fun hHeld => ?_)
          clear hK K
          refine norm_ (a' := ?_) ?_ ?_
          rotate_left
          · show Act.put _ (some 52) _ = _
            simp only [Act.put, List.setIfInBounds_toArray, List.set_cons_zero, List.set_cons_succ, i64_w, i32_w]
            rfl
          refine pure_ (i := 9) (N := (some 53)) (v := ?_) (a' := ?_) #[true, true, true, true, true, true, true, true, true, true, true, true, false, false, true, true, true, true, false, true, false, true, false, false, true, true, false, false, false, false] rfl rfl (any_of HT_.out (by kernel_rfl)) (fun _ _ _ h => h) (Or.inl ⟨by rfl, ?_⟩) ?_ ?_
          rotate_left
          · intro w'
            go_simp
            first | with_reducible rfl | (simp; done) | rfl
          rotate_left
          · simp only [Act.put, List.setIfInBounds_toArray, List.set_cons_zero, List.set_cons_succ, i64_w, i32_w]
            rfl
          refine pure_ (i := 12) (N := (some 56)) (v := ?_) (a' := ?_) #[true, true, true, true, true, true, true, true, true, true, true, true, true, false, true, true, true, true, false, true, false, true, false, false, true, true, false, false, false, false] rfl rfl (any_of HT_.out (by kernel_rfl)) (fun _ _ _ h => h) (Or.inl ⟨by rfl, ?_⟩) ?_ ?_
          rotate_left
          · intro w'
            go_simp
            first | with_reducible rfl | (simp; done) | rfl
          rotate_left
          · simp only [Act.put, List.setIfInBounds_toArray, List.set_cons_zero, List.set_cons_succ, i64_w, i32_w]
            rfl
          refine pure_ (i := 13) (N := (some 57)) (v := ?_) (a' := ?_) #[true, true, true, true, true, true, true, true, true, true, true, true, true, true, true, true, true, true, false, true, false, true, false, false, true, true, false, false, false, false] rfl rfl (any_of HT_.out (by kernel_rfl)) (fun _ _ _ h => h) (Or.inl ⟨by rfl, ?_⟩) ?_ ?_
          rotate_left
          · intro w'
            go_simp
            first | with_reducible rfl | (simp; done) | rfl
          rotate_left
          · simp only [Act.put, List.setIfInBounds_toArray, List.set_cons_zero, List.set_cons_succ, i64_w, i32_w]
            rfl
          refine pure_ (i := 18) (N := (some 62)) (v := ?_) (a' := ?_) #[true, true, true, true, true, true, true, true, true, true, true, true, true, true, true, true, true, true, true, true, false, true, false, false, true, true, false, false, false, false] rfl rfl (any_of HT_.out (by kernel_rfl)) (fun _ _ _ h => h) (Or.inl ⟨by rfl, ?_⟩) ?_ ?_
          rotate_left
          · intro w'
            go_simp
            first | with_reducible rfl | (simp; done) | rfl
          rotate_left
          · simp only [Act.put, List.setIfInBounds_toArray, List.set_cons_zero, List.set_cons_succ, i64_w, i32_w]
            rfl
          refine one_ (i := 20) (N := (some 64)) #[true, true, true, true, true, true, true, true, true, true, true, true, true, true, true, true, true, true, true, true, true, true, false, false, true, true, false, false, false, false] rfl rfl (one_of HT_.out (by kernel_rfl)) (by decide) (fun K hK => ?_)
          refine goes_ Tryd.func54 (by kernel_rfl) rfl #[.int .u32 x2, .int .u32 17] (by rfl) rfl rfl (by (try simp only [List.map_toArray, List.map_cons, List.map_nil]); first | done | rfl) ?_
          with_reducible refine (turn_m x2 17 17 rfl (by omega) (by omega) U2.out _).mono ?_
          rintro e0 w' ⟨rfl, rfl⟩
          refine ⟨_, rfl, ?_⟩
          refine hK.out _ _ hHeld (fun hHeld => ?_)
          clear hK K
          refine norm_ (a' := ?_) ?_ ?_
          rotate_left
          · show Act.put _ (some 64) _ = _
            simp only [Act.put, List.setIfInBounds_toArray, List.set_cons_zero, List.set_cons_succ, i64_w, i32_w]
            rfl
          refine one_ (i := 22) (N := (some 66)) #[true, true, true, true, true, true, true, true, true, true, true, true, true, true, true, true, true, true, true, true, true, true, true, false, true, true, false, false, false, false] rfl rfl (one_of HT_.out (by kernel_rfl)) (by decide) (fun K hK => ?_)
          refine goes_ Tryd.func54 (by kernel_rfl) rfl #[.int .u32 x2, .int .u32 19] (by rfl) rfl rfl (by (try simp only [List.map_toArray, List.map_cons, List.map_nil]); first | done | rfl) ?_
          with_reducible refine (turn_m x2 19 19 rfl (by omega) (by omega) U2.out _).mono ?_
          rintro e0 w' ⟨rfl, rfl⟩
          refine ⟨_, rfl, ?_⟩
          refine hK.out _ _ hHeld (fun hHeld => ?_)
          clear hK K
          refine norm_ (a' := ?_) ?_ ?_
          rotate_left
          · show Act.put _ (some 66) _ = _
            simp only [Act.put, List.setIfInBounds_toArray, List.set_cons_zero, List.set_cons_succ, i64_w, i32_w]
            rfl
          refine pure_ (i := 23) (N := (some 67)) (v := ?_) (a' := ?_) #[true, true, true, true, true, true, true, true, true, true, true, true, true, true, true, true, true, true, true, true, true, true, true, true, true, true, false, false, false, false] rfl rfl (any_of HT_.out (by kernel_rfl)) (fun _ _ _ h => h) (Or.inl ⟨by rfl, ?_⟩) ?_ ?_
          rotate_left
          · intro w'
            go_simp
            first | with_reducible rfl | (simp; done) | rfl
          rotate_left
          · simp only [Act.put, List.setIfInBounds_toArray, List.set_cons_zero, List.set_cons_succ, i64_w, i32_w]
            rfl
          refine pure_ (i := 26) (N := (some 70)) (v := ?_) (a' := ?_) #[true, true, true, true, true, true, true, true, true, true, true, true, true, true, true, true, true, true, true, true, true, true, true, true, true, true, true, false, false, false] rfl rfl (any_of HT_.out (by kernel_rfl)) (fun _ _ _ h => h) (Or.inl ⟨by rfl, ?_⟩) ?_ ?_
          rotate_left
          · intro w'
            go_simp
            first | with_reducible rfl | (simp; done) | rfl
          rotate_left
          · simp only [Act.put, List.setIfInBounds_toArray, List.set_cons_zero, List.set_cons_succ, i64_w, i32_w]
            rfl
          refine pure_ (i := 27) (N := (some 71)) (v := ?_) (a' := ?_) #[true, true, true, true, true, true, true, true, true, true, true, true, true, true, true, true, true, true, true, true, true, true, true, true, true, true, true, true, false, false] rfl rfl (any_of HT_.out (by kernel_rfl)) (fun _ _ _ h => h) (Or.inl ⟨by rfl, ?_⟩) ?_ ?_
          rotate_left
          · intro w'
            go_simp
            first | with_reducible rfl | (simp; done) | rfl
          rotate_left
          · simp only [Act.put, List.setIfInBounds_toArray, List.set_cons_zero, List.set_cons_succ, i64_w, i32_w]
            rfl
          refine pure_ (i := 28) (N := (some 72)) (v := ?_) (a' := ?_) #[true, true, true, true, true, true, true, true, true, true, true, true, true, true, true, true, true, true, true, true, true, true, true, true, true, true, true, true, true, false] rfl rfl (any_of HT_.out (by kernel_rfl)) (fun _ _ _ h => h) (Or.inl ⟨by rfl, ?_⟩) ?_ ?_
          rotate_left
          · intro w'
            go_simp
            first | with_reducible rfl | (simp; done) | rfl
          rotate_left
          · simp only [Act.put, List.setIfInBounds_toArray, List.set_cons_zero, List.set_cons_succ, i64_w, i32_w]
            rfl
          refine last_ (i := 29) (N := none) #[true, true, true, true, true, true, true, true, true, true, true, true, true, true, true, true, true, true, true, true, true, true, true, true, true, true, true, true, true, true] rfl rfl (one_of HT_.out (by kernel_rfl)) (by decide) (fun K hK => ?_)
          refine skip_ (w1 := ?_) (by rfl) rfl ?_ ?_
          rotate_left
          · go_simp
            rfl
          refine hK.out _ _ ?_
          clear hK K
          refine done_ (done_of HT_.out (by kernel_rfl)) ?_
          go_wp2
          refine ⟨⟨t + 1, by omega, by omega, by simp, ⟨?_, ?_, ?_⟩⟩, by simp [intOf]; omega⟩
          · have hw := wsTo_set b t hlt
            rw [if_neg (by omega)] at hw
            rw [← hw]
            refine blk_put (blk_drew (blk_drew BW.out)) t _ ?_
            rw [arr32_set]
            unfold nextW
            rw [E16.out, E15.out, E7.out, E2.out]
            unfold add32 sig0 sig1 xor32
            simp only [IntKind.wrap_u32]
          · exact (Below.heap_setCell _ ⟨gw, t, none⟩ _ gr NE.out).trans (blk_drew (blk_drew HI2.out.2.1))
          · exact ((HI2.out.2.2.drew).drew).setCell (p := ⟨gw, t, none⟩) GW.out _
        · have hends : wsTo b t = schedTo b 64 := by
            obtain rfl : t = 64 := by omega
            simp [wsTo]
          have BR := Aside0.mk HI2.out.2.1
          have HB := Aside0.mk HI2.out.2.2
          rw [hends] at BW
          clear hends HI2
          go_wp2_with (
            first
            | ((with_reducible refine gate_dst (N := 73) rfl ?_); refine wpList_load_row rfl 59 (.tmp 3) rfl gw rfl 59 (arr32 (schedTo b 64)) (0, 0) _ BW.out Tryd.underlying59 rfl (by rw [arr32_size, schedTo_length]; exact info_64) ?_)
            | ((with_reducible refine gate_store (p := 2) rfl ?_); refine w64_store rfl (.tmp 2) (.tmp 73) rfl gr (schedTo b 64) (List.replicate 64 0) rfl rfl BR.out (schedTo_length b 64) (by simp) ?_; intro w3 bk hoth hbel; have n1 := Aside0.mk bk; have n3 := Aside0.mk (hbel _ _ HB.out GR.out); clear BR HB bk hoth hbel; have BR := n1; have HB := n3; clear n1 n3))
          refine bodyPost_ret (results_c rfl _ _ gr 59 (arr32 (schedTo b 64)) (0, 0) _ rfl BR.out Tryd.underlying59 rfl (by rw [arr32_size, schedTo_length]; exact info_64)) rfl ?_
          exact ⟨rfl, HB.out⟩

end Go.Proofs.YtoaimcobcgomjaaDoor.Q
