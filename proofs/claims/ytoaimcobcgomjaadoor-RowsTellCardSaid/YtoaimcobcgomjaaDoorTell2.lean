/- What the law reaches of these texts: ShaSum2, ShaRead, ShaOf, ShaAlive, ShaEq, ShaNamesWalk, ShaPartsWalk, ShaSum3, ShaSum4, Q2, Q3 (joined by wip/tools/prune.py). -/
import Derived.Test.YtoaimcobcgomjaaDoorTell1
import Derived.Lib.SlBytesConst
import Derived.Stop.BytesEq
namespace Go.Proofs.YtoaimcobcgomjaaDoor.Q
open Go.RowKit Go.Proofs.YtoaimcobcgomjaaDoorW.PrintWords Go.Proofs.YtoaimcobcgomjaaDoorW.PrintLast Go.Proofs.YtoaimcobcgomjaaDoorW.PrintMore
set_option linter.unusedVariables false
set_option linter.unusedSimpArgs false
/-- A word, i bytes in. -/
def wordTo (b : List Int) (t : Nat) : Nat → Int
  | 0 => 0
  | i + 1 => add32 (IntKind.u32.wrap (256 * wordTo b t i)) (at_ b (4 * t + i))
theorem or_add (n m k : Nat) (hm : m < 2 ^ k) (hk : n * 2 ^ k + m < 4294967296) : bits .or .u32 ((n * 2 ^ k : Nat) : Int) (m : Int) = ((n * 2 ^ k + m : Nat) : Int) := by
  have h0 : n * 2 ^ k < 4294967296 := by omega
  have h1 : m < 4294967296 := by omega
  have e : bits .or .u32 ((n * 2 ^ k : Nat) : Int) (m : Int) = IntKind.u32.wrap ((BitVec.ofNat 32 (n * 2 ^ k) ||| BitVec.ofNat 32 m).toNat : Int) := by
    unfold bits
    congr 3
  rw [e, IntKind.wrap_u32, BitVec.toNat_or, BitVec.toNat_ofNat, BitVec.toNat_ofNat, Nat.mod_eq_of_lt h0, Nat.mod_eq_of_lt h1, ← Nat.shiftLeft_eq, ← Nat.shiftLeft_add_eq_or_of_lt hm, Nat.shiftLeft_eq]
  omega
theorem wordTo_word (b : List Int) (t : Nat) (ht : t < 16) (hl : b.length = 64) (hb : ∀ x ∈ b, 0 ≤ x ∧ x < 256) : wordTo b t 4 = word b t := by
  have h := fun j (hj : j < 64) => at_mem b hb j (by rw [hl]; exact hj)
  obtain ⟨c0, e0⟩ := Int.eq_ofNat_of_zero_le (h (4 * t) (by omega)).1
  obtain ⟨c1, e1⟩ := Int.eq_ofNat_of_zero_le (h (4 * t + 1) (by omega)).1
  obtain ⟨c2, e2⟩ := Int.eq_ofNat_of_zero_le (h (4 * t + 2) (by omega)).1
  obtain ⟨c3, e3⟩ := Int.eq_ofNat_of_zero_le (h (4 * t + 3) (by omega)).1
  have b0 := (h (4 * t) (by omega)).2
  have b1 := (h (4 * t + 1) (by omega)).2
  have b2 := (h (4 * t + 2) (by omega)).2
  have b3 := (h (4 * t + 3) (by omega)).2
  rw [e0] at b0
  rw [e1] at b1
  rw [e2] at b2
  rw [e3] at b3
  have l : wordTo b t 4 = (((c0 * 256 + c1) * 256 + c2) * 256 + c3 : Nat) := by
    simp only [wordTo, add32, IntKind.wrap_u32, Nat.add_zero]
    rw [e0, e1, e2, e3]
    omega
  rw [l]
  unfold word
  rw [e0, e1, e2, e3]
  simp only [or32, IntKind.wrap_u32]
  rw [show (c0 : Int) * 16777216 % 4294967296 = ((c0 * 2 ^ 24 : Nat) : Int) by omega, show (c1 : Int) * 65536 % 4294967296 = ((c1 * 65536 : Nat) : Int) by omega, show (c2 : Int) * 256 % 4294967296 = ((c2 * 256 : Nat) : Int) by omega]
  rw [or_add c0 (c1 * 65536) 24 (by omega) (by omega), show c0 * 2 ^ 24 + c1 * 65536 = (c0 * 256 + c1) * 2 ^ 16 by omega, or_add (c0 * 256 + c1) (c2 * 256) 16 (by omega) (by omega), show (c0 * 256 + c1) * 2 ^ 16 + c2 * 256 = ((c0 * 256 + c1) * 256 + c2) * 2 ^ 8 by omega, or_add _ c3 8 (by omega) (by omega)]
/-- The words so far, the next one i bytes in. -/
def wsPart (b : List Int) (t i : Nat) : List Int := schedTo b t ++ wordTo b t i :: List.replicate (63 - t) 0
theorem wsPart_zero (b : List Int) (t : Nat) (ht : t < 64) : wsPart b t 0 = wsTo b t := by
  unfold wsPart wsTo
  rw [show 64 - t = (63 - t) + 1 by omega, List.replicate_succ]
  rfl
theorem wsPart_len (b : List Int) (t i : Nat) (ht : t < 64) : (wsPart b t i).length = 64 := by simp [wsPart, schedTo_length]; omega
theorem wsPart_at (b : List Int) (t i : Nat) : at_ (wsPart b t i) t = wordTo b t i := by
  unfold at_ rd wsPart
  simp only [Int.toNat_natCast, List.getD_eq_getElem?_getD]
  rw [List.getElem?_append_right (by rw [schedTo_length]; exact Nat.le_refl _), schedTo_length, Nat.sub_self]
  simp
theorem wsPart_set (b : List Int) (t i : Nat) (x : Int) (hx : x = wordTo b t (i + 1)) : (wsPart b t i).set t x = wsPart b t (i + 1) := by
  subst hx
  unfold wsPart
  rw [List.set_append_right _ _ (by rw [schedTo_length]; exact Nat.le_refl _), schedTo_length, Nat.sub_self, List.set_cons_zero]
theorem wsPart_end (b : List Int) (t : Nat) (ht : t < 16) (hl : b.length = 64) (hb : ∀ x ∈ b, 0 ≤ x ∧ x < 256) : wsPart b t 4 = wsTo b (t + 1) := by
  rw [← wsTo_set b t (by omega), if_pos ht, ← wsPart_zero b t (by omega), ← wordTo_word b t ht hl hb]
  unfold wsPart
  rw [List.set_append_right _ _ (by rw [schedTo_length]; exact Nat.le_refl _), schedTo_length, Nat.sub_self, List.set_cons_zero]
theorem wordTo_u32 (b : List Int) (t i : Nat) : U32 (wordTo b t i) := by
  cases i with
  | zero => exact ⟨by show (0 : Int) ≤ 0; omega, by show (0 : Int) < _; omega⟩
  | succ i => exact u32_wrap _
structure SchPre (kb ob : Nat) (b : List Int) (W : World) : Prop where
  by_ : ∀ j, j < 64 → W.cell? ⟨kb, ob + j, none⟩ = some (.int .u8 (at_ b j))
  bl : b.length = 64
  bb : ∀ x ∈ b, 0 ≤ x ∧ x < 256
def sch8_T : Bool × List (List Nat × List Nat) := (true, [([], []), ([], []), ([1], [1]), ([2], [2]), ([3], [3]), ([], []), ([], []), ([6], [6]), ([], []), ([7, 8], [7, 8]), ([5, 9], [5, 9]), ([10], [10]), ([11], [11]), ([4, 12], [4, 12]), ([0, 0, 1, 2, 3, 4, 5, 6, 7, 8, 9, 10, 11, 12, 13], [0]), ([14, 13, 0, 1, 2, 3, 4, 5, 6, 7, 8, 9, 10, 11, 12, 13], [13, 14])])
def sch8_B : List Nat := [0, 0, 2, 6, 14, 0, 0, 64, 0, 448, 992, 2016, 4064, 8190, 16383, 32767]
theorem sch8_tab : rtab .any (opsOf Tryd.f37 8) = sch8_T := by kernel_rfl
theorem sch8_bits : waitsOk sch8_T.2 sch8_B = true := by kernel_rfl
def sch12_T : Bool × List (List Nat × List Nat) := (true, [([], []), ([0], [0]), ([1], [1]), ([2], [2]), ([], []), ([4], [4]), ([5], [5]), ([6], [6]), ([3, 0, 1, 2, 3], [3]), ([7, 8, 0, 1, 2, 3, 4, 5, 6, 7, 8], [7])])
def sch12_B : List Nat := [0, 1, 3, 7, 0, 16, 48, 112, 15, 511]
theorem sch12_tab : rtab .any (opsOf Tryd.f37 12) = sch12_T := by kernel_rfl
theorem sch12_bits : waitsOk sch12_T.2 sch12_B = true := by kernel_rfl
def sch13_T : Bool × List (List Nat × List Nat) := (true, [([], []), ([], []), ([1], [1]), ([2], [2]), ([3], [3]), ([], []), ([5], [5]), ([], []), ([7, 6], [7]), ([6, 8], [6, 8]), ([], []), ([10], [10]), ([9, 11], [9, 11]), ([4, 12], [4, 12]), ([], []), ([14], [14]), ([15], [15]), ([16], [16]), ([13, 17], [13, 17]), ([], []), ([19, 8], [19]), ([], []), ([21, 20], [21]), ([20, 22], [20, 22]), ([], []), ([24], [24]), ([23, 25], [23, 25]), ([18, 26], [18, 26]), ([0, 0, 1, 2, 3, 4, 5, 6, 7, 8, 9, 10, 11, 12, 13, 14, 15, 16, 17, 18, 19, 20, 21, 22, 23, 24, 25, 26, 27], [0]), ([28, 27, 22, 0, 1, 2, 3, 4, 5, 6, 7, 8, 9, 10, 11, 12, 13, 14, 15, 16, 17, 18, 19, 20, 21, 22, 23, 24, 25, 26, 27], [27, 28])])
def sch13_B : List Nat := [0, 0, 2, 6, 14, 0, 32, 0, 224, 480, 0, 1024, 4064, 8190, 0, 16384, 49152, 114688, 262142, 0, 524768, 0, 3670496, 7864800, 0, 16777216, 66585056, 134217726, 268435455, 536870911]
theorem sch13_tab : rtab .any (opsOf Tryd.f37 13) = sch13_T := by kernel_rfl
theorem sch13_bits : waitsOk sch13_T.2 sch13_B = true := by kernel_rfl
set_option maxHeartbeats 16000000 in
set_option maxRecDepth 100000 in
theorem schedule_walk (kb ob cap : Nat) (b : List Int) (W : World) (hp : SchPre kb ob b W) :
    Calls Tryd.prog 37 #[.slice (some ⟨kb, ob, none⟩) 64 cap] W fun e W' => e = .returned (.agg (arr32 (schedTo b 64))) ∧ Below W.heap.size W W' := by
  have HP := Aside0.mk hp
  have HB := Aside0.mk (Below.refl W.heap.size W)
  clear hp
  go_enter Tryd.func37, Tryd.ntmps37
  go_wp2_with (
    first
    | ((with_reducible refine gate_dst (N := 2) rfl ?_); refine box_event ?hg (N := 2) ?hd (cs := arr32 (List.replicate 64 0)) (t := 59) ?hr ?_; (case hd => rfl); (case hg => rfl); (case hr => first | (go_simp; done) | (go_simp; rfl));
       intro gr hg w1 hbox hb; have BR := Aside0.mk hbox; have GR := Aside0.mk (show W.heap.size ≤ gr by rw [hg]; exact Nat.le_refl _); have HB1 := Aside0.mk (below_step HB.out hb); clear HB; have HB := HB1; clear HB1 hb hbox hg)
    | ((with_reducible refine gate_dst (N := 3) rfl ?_); refine box_event ?hg (N := 3) ?hd (cs := arr32 (List.replicate 64 0)) (t := 59) ?hr ?_; (case hd => rfl); (case hg => rfl); (case hr => first | (go_simp; done) | (go_simp; rfl));
       intro gw hg w1 hbox hb; have BW := Aside0.mk hbox; have GW := Aside0.mk (show W.heap.size ≤ gw by rw [hg]; exact below_size HB.out); have NE := Aside0.mk (show gr ≠ gw by rw [hg]; exact Nat.ne_of_lt (blk_lt BR.out)); have n1 := Aside0.mk (blk_below BR.out hb); have HB1 := Aside0.mk (below_step HB.out hb); clear HB BR; have HB := HB1; have BR := n1; clear HB1 hb hbox hg n1))
  go_loopw [4, 5] (fun i _ wr => ∃ t : Nat, t ≤ 16 ∧ i = .int .i64 (t : Int) ∧ Aside0 (wr.heap[gw]? = some (.cells (arr32 (wsTo b t)) 59 (0, 0)) ∧ wr.heap[gr]? = some (.cells (arr32 (List.replicate 64 0)) 59 (0, 0)) ∧ Below W.heap.size W wr)) (fun i _ _ => 16 - (intOf i).toNat)
  case atStart => exact ⟨0, by omega, rfl, ⟨BW.out, BR.out, HB.out⟩⟩
  case round =>
    obtain ⟨t, ht, rfl, HI⟩ := hrel
    clear BW BR HB
    by_cases h16 : t < 16
    · have HI0 : Aside0 (wr.heap[gw]? = some (.cells (arr32 (wsPart b t 0)) 59 (0, 0)) ∧ wr.heap[gr]? = some (.cells (arr32 (List.replicate 64 0)) 59 (0, 0)) ∧ Below W.heap.size W wr) := ⟨by rw [wsPart_zero b t (by omega)]; exact HI.out⟩
      clear HI
      go_wp2
      go_loopw [5] (fun i wr => ∃ k : Nat, k ≤ 4 ∧ i = .int .i64 (k : Int) ∧ Aside0 (wr.heap[gw]? = some (.cells (arr32 (wsPart b t k)) 59 (0, 0)) ∧ wr.heap[gr]? = some (.cells (arr32 (List.replicate 64 0)) 59 (0, 0)) ∧ Below W.heap.size W wr)) (fun i _ => 4 - (intOf i).toNat)
      case atStart => exact ⟨0, by omega, rfl, HI0⟩
      case round =>
        obtain ⟨i, hi, rfl, HI⟩ := hrel
        clear HI0
        by_cases h4 : i < 4
        · obtain ⟨x, ex⟩ : ∃ x, wordTo b t i = x := ⟨_, rfl⟩
          obtain ⟨c, ec⟩ : ∃ c, at_ b (4 * t + i) = c := ⟨_, rfl⟩
          have hux := wordTo_u32 b t i
          rw [ex] at hux
          obtain ⟨hx0, hx1⟩ := hux
          have hcr : 0 ≤ c ∧ c < 256 := by rw [← ec]; exact at_mem b HP.out.bb (4 * t + i) (by rw [HP.out.bl]; omega)
          have hvc : IntKind.u32.wrap c = c := by rw [IntKind.wrap_u32]; omega
          have cw : wr.drew.cell? ⟨gw, t, none⟩ = some (.int .u32 x) := by rw [← ex, ← wsPart_at b t i]; exact cell_of_32 (blk_drew HI.out.1) t (by rw [wsPart_len b t i (by omega)]; omega)
          have cb : wr.drew.cell? ⟨kb, ob + (4 * t + i), none⟩ = some (.int .u8 c) := by
            have := HP.out.by_ (4 * t + i) (by omega)
            rw [ec] at this
            exact (HI.out.2.2.cell (World.block_lt_of_cell? _ _ this)).trans this
          have hfw : wr.drew.frozen? ⟨gw, t, none⟩ = false := blk_frozen (blk_drew HI.out.1) t
          have iw := fun W => idx_arr Tryd.underlying59 (by kernel_rfl) (by kernel_rfl) gw t (by omega) W
          have ib := fun W => idx_slice kb ob 64 cap (4 * t + i) (by omega) W
          rw [show ((4 * t + i : Nat) : Int) = 4 * (t : Int) + (i : Int) by omega] at ib
          have hw0 : IntKind.i64.wrap (4 * (t : Int)) = 4 * (t : Int) := by rw [IntKind.wrap_i64]; omega
          have hw1 : IntKind.i64.wrap (4 * (t : Int) + (i : Int)) = 4 * (t : Int) + (i : Int) := by rw [IntKind.wrap_i64]; omega
          have EX := Aside0.mk ex
          have EC := Aside0.mk ec
          clear ex ec
          go_wp2
          refine start_ (n := 16) (S := fun w' => w'.cell? ⟨gw, t, none⟩ = some (.int .u32 x) ∧ w'.cell? ⟨kb, ob + (4 * t + i), none⟩ = some (.int .u8 c)) (ds := [15]) #[false, false, false, false, false, false, false, false, false, false, false, false, false, false, false, false] (by kernel_rfl) rfl rfl ⟨cw, cb⟩ (fun hHeld => ?_)
          refine with_tabW sch8_tab sch8_bits (fun HT_ HW_ => ?_)
          refine pure_ (i := 0) (N := (some 17)) (v := ?_) (a' := ?_) #[true, false, false, false, false, false, false, false, false, false, false, false, false, false, false, false] rfl rfl (any_of HT_.out (by kernel_rfl)) (fun _ _ _ h => h) (Or.inl ⟨by rfl, ?_⟩) ?_ ?_
          rotate_left
          · intro w'
            go_simp
            first | with_reducible rfl | (simp; done) | rfl
          rotate_left
          · simp only [Act.put, List.setIfInBounds_toArray, List.set_cons_zero, List.set_cons_succ, i64_w, i32_w]
            rfl
          refine pure_ (i := 1) (N := (some 18)) (v := ?_) (a' := ?_) #[true, true, false, false, false, false, false, false, false, false, false, false, false, false, false, false] rfl rfl (any_of HT_.out (by kernel_rfl)) (fun _ _ _ h => h) (Or.inl ⟨by rfl, ?_⟩) ?_ ?_
          rotate_left
          · intro w'
            go_simp
            first | with_reducible rfl | (simp; done) | rfl
          rotate_left
          · simp only [Act.put, List.setIfInBounds_toArray, List.set_cons_zero, List.set_cons_succ, i64_w, i32_w]
            rfl
          refine pure_ (i := 2) (N := (some 19)) (v := ?_) (a' := ?_) #[true, true, true, false, false, false, false, false, false, false, false, false, false, false, false, false] rfl rfl (any_of HT_.out (by kernel_rfl)) (fun _ _ _ h => h) (Or.inl ⟨by rfl, ?_⟩) ?_ ?_
          rotate_left
          · intro w'
            go_simp
            first | with_reducible rfl | (simp; done) | rfl
          rotate_left
          · simp only [Act.put, List.setIfInBounds_toArray, List.set_cons_zero, List.set_cons_succ, i64_w, i32_w]
            rfl
          refine pure_ (i := 5) (N := (some 22)) (v := ?_) (a' := ?_) #[true, true, true, false, false, true, false, false, false, false, false, false, false, false, false, false] rfl rfl (any_of HT_.out (by kernel_rfl)) (fun _ _ _ h => h) (Or.inl ⟨by rfl, ?_⟩) ?_ ?_
          rotate_left
          · intro w'
            go_simp
            first | with_reducible rfl | (simp; done) | rfl
          rotate_left
          · simp only [Act.put, List.setIfInBounds_toArray, List.set_cons_zero, List.set_cons_succ, i64_w, i32_w]
            rfl
          refine pure_ (i := 6) (N := (some 23)) (v := ?_) (a' := ?_) #[true, true, true, false, false, true, true, false, false, false, false, false, false, false, false, false] rfl rfl (any_of HT_.out (by kernel_rfl)) (fun _ _ _ h => h) (Or.inl ⟨by rfl, ?_⟩) ?_ ?_
          rotate_left
          · intro w'
            go_simp
            first | with_reducible rfl | (simp; done) | rfl
          rotate_left
          · simp only [Act.put, List.setIfInBounds_toArray, List.set_cons_zero, List.set_cons_succ, i64_w, i32_w]
            rfl
          refine pure_ (i := 7) (N := (some 24)) (v := ?_) (a' := ?_) #[true, true, true, false, false, true, true, true, false, false, false, false, false, false, false, false] rfl rfl (any_of HT_.out (by kernel_rfl)) (fun _ _ _ h => h) (Or.inl ⟨by rfl, ?_⟩) ?_ ?_
          rotate_left
          · intro w'
            go_simp
            first | with_reducible rfl | (simp; done) | rfl
          rotate_left
          · simp only [Act.put, List.setIfInBounds_toArray, List.set_cons_zero, List.set_cons_succ, i64_w, i32_w]
            rfl
          refine pure_ (i := 8) (N := (some 25)) (v := ?_) (a' := ?_) #[true, true, true, false, false, true, true, true, true, false, false, false, false, false, false, false] rfl rfl (any_of HT_.out (by kernel_rfl)) (fun _ _ _ h => h) (Or.inl ⟨by rfl, ?_⟩) ?_ ?_
          rotate_left
          · intro w'
            go_simp
            first | with_reducible rfl | (simp; done) | rfl
          rotate_left
          · simp only [Act.put, List.setIfInBounds_toArray, List.set_cons_zero, List.set_cons_succ, i64_w, i32_w]
            rfl
          refine pure_ (i := 9) (N := (some 26)) (v := ?_) (a' := ?_) #[true, true, true, false, false, true, true, true, true, true, false, false, false, false, false, false] rfl rfl (any_of HT_.out (by kernel_rfl)) (fun _ _ _ h => h) (Or.inl ⟨by rfl, ?_⟩) ?_ ?_
          rotate_left
          · intro w'
            go_simp
            first | with_reducible rfl | (simp; done) | rfl
          rotate_left
          · simp only [Act.put, List.setIfInBounds_toArray, List.set_cons_zero, List.set_cons_succ, i64_w, i32_w]
            rfl
          refine pure_ (i := 10) (N := (some 27)) (v := ?_) (a' := ?_) #[true, true, true, false, false, true, true, true, true, true, true, false, false, false, false, false] rfl rfl (any_of HT_.out (by kernel_rfl)) (fun _ _ _ h => h) (Or.inl ⟨by rfl, ?_⟩) ?_ ?_
          rotate_left
          · intro w'
            go_simp
            first | with_reducible rfl | (simp; done) | rfl
          rotate_left
          · simp only [Act.put, List.setIfInBounds_toArray, List.set_cons_zero, List.set_cons_succ, i64_w, i32_w]
            rfl
          refine take_ (i := 3) (N := (some 20)) (v := ?_) (a' := ?_) #[true, true, true, true, false, true, true, true, true, true, true, false, false, false, false, false] rfl rfl (take_ofW HT_.out HW_.out (by kernel_rfl)) (fun _ _ _ h => h) (Or.inl ⟨by rfl, ?_⟩) hHeld ?_ ?_
          rotate_left
          · rintro w' ⟨s0, s1⟩
            go_simp
            with_reducible rfl
          rotate_left
          · simp only [Act.put, List.setIfInBounds_toArray, List.set_cons_zero, List.set_cons_succ, i64_w, i32_w]
            rfl
          refine take_ (i := 11) (N := (some 28)) (v := ?_) (a' := ?_) #[true, true, true, true, false, true, true, true, true, true, true, true, false, false, false, false] rfl rfl (take_ofW HT_.out HW_.out (by kernel_rfl)) (fun _ _ _ h => h) (Or.inl ⟨by rfl, ?_⟩) hHeld ?_ ?_
          rotate_left
          · rintro w' ⟨s0, s1⟩
            go_simp
            with_reducible rfl
          rotate_left
          · simp only [Act.put, List.setIfInBounds_toArray, List.set_cons_zero, List.set_cons_succ, i64_w, i32_w]
            rfl
          refine pure_ (i := 4) (N := (some 21)) (v := ?_) (a' := ?_) #[true, true, true, true, true, true, true, true, true, true, true, true, false, false, false, false] rfl rfl (any_of HT_.out (by kernel_rfl)) (fun _ _ _ h => h) (Or.inl ⟨by rfl, ?_⟩) ?_ ?_
          rotate_left
          · intro w'
            go_simp
            first | with_reducible rfl | (simp; done) | rfl
          rotate_left
          · simp only [Act.put, List.setIfInBounds_toArray, List.set_cons_zero, List.set_cons_succ, i64_w, i32_w]
            rfl
          refine pure_ (i := 12) (N := (some 29)) (v := ?_) (a' := ?_) #[true, true, true, true, true, true, true, true, true, true, true, true, true, false, false, false] rfl rfl (any_of HT_.out (by kernel_rfl)) (fun _ _ _ h => h) (Or.inl ⟨by rfl, ?_⟩) ?_ ?_
          rotate_left
          · intro w'
            go_simp
            first | with_reducible rfl | (simp; done) | rfl
          rotate_left
          · simp only [Act.put, List.setIfInBounds_toArray, List.set_cons_zero, List.set_cons_succ, i64_w, i32_w]
            rfl
          refine pure_ (i := 13) (N := (some 30)) (v := ?_) (a' := ?_) #[true, true, true, true, true, true, true, true, true, true, true, true, true, true, false, false] rfl rfl (any_of HT_.out (by kernel_rfl)) (fun _ _ _ h => h) (Or.inl ⟨by rfl, ?_⟩) ?_ ?_
          rotate_left
          · intro w'
            go_simp
            first | with_reducible rfl | (simp; done) | rfl
          rotate_left
          · simp only [Act.put, List.setIfInBounds_toArray, List.set_cons_zero, List.set_cons_succ, i64_w, i32_w]
            rfl
          refine pure_ (i := 14) (N := (some 31)) (v := ?_) (a' := ?_) #[true, true, true, true, true, true, true, true, true, true, true, true, true, true, true, false] rfl rfl (any_of HT_.out (by kernel_rfl)) (fun _ _ _ h => h) (Or.inl ⟨by rfl, ?_⟩) ?_ ?_
          rotate_left
          · intro w'
            go_simp
            first | with_reducible rfl | (simp; done) | rfl
          rotate_left
          · simp only [Act.put, List.setIfInBounds_toArray, List.set_cons_zero, List.set_cons_succ, i64_w, i32_w]
            rfl
          refine last_ (i := 15) (N := none) #[true, true, true, true, true, true, true, true, true, true, true, true, true, true, true, true] rfl rfl (one_of HT_.out (by kernel_rfl)) (by decide) (fun K hK => ?_)
          refine skip_ (w1 := ?_) (by rfl) rfl ?_ ?_
          rotate_left
          · go_simp
            rfl
          refine hK.out _ _ ?_
          clear hK K
          refine done_ (done_of HT_.out (by kernel_rfl)) ?_
          go_wp2
          refine ⟨⟨i + 1, by omega, by simp, ⟨?_, ?_, ?_⟩⟩, by simp [intOf]; omega⟩
          · rw [← wsPart_set b t i (add32 (IntKind.u32.wrap (256 * x)) c) (by show _ = add32 _ _; rw [EX.out, EC.out])]
            refine blk_put (blk_drew HI.out.1) t _ ?_
            rw [arr32_set]
            unfold add32
            first | rfl | simp only [IntKind.wrap_u32]
          · exact (Below.heap_setCell _ ⟨gw, t, none⟩ _ gr NE.out).trans (blk_drew HI.out.2.1)
          · exact (HI.out.2.2.drew).setCell (p := ⟨gw, t, none⟩) GW.out _
        · have hk4 : i = 4 := by omega
          subst hk4
          go_wp2
          refine ⟨⟨t + 1, by omega, by simp, ⟨by have := HI.out; rw [wsPart_end b t h16 HP.out.bl HP.out.bb] at this; exact this⟩⟩, by simp [intOf]; omega⟩
    · have hts : t = 16 := by omega
      subst hts
      go_wp2
      go_loopw [6, 7, 8] (fun i _ _ wr => ∃ t : Nat, 16 ≤ t ∧ t ≤ 64 ∧ i = .int .i64 (t : Int) ∧ Aside0 (wr.heap[gw]? = some (.cells (arr32 (wsTo b t)) 59 (0, 0)) ∧ wr.heap[gr]? = some (.cells (arr32 (List.replicate 64 0)) 59 (0, 0)) ∧ Below W.heap.size W wr)) (fun i _ _ _ => 64 - (intOf i).toNat)
      case atStart => exact ⟨16, by omega, by omega, rfl, HI⟩
      case round =>
        obtain ⟨t, h16, ht, rfl, HI2⟩ := hrel
        clear HI
        have BW := Aside0.mk HI2.out.1
        by_cases hlt : t < 64
        · have hl : t ≤ 64 := ht
          have hiw := fun W => idx_arr Tryd.underlying59 (by kernel_rfl) (by kernel_rfl) gw t hlt W
          have lay : ∀ d : Nat, d < 17 → 0 < d → IntKind.i64.wrap ((t : Int) - d) = (t : Int) - d := fun d h1 h2 => by rw [IntKind.wrap_i64]; omega
          have hs16 : IntKind.i64.wrap ((t : Int) - 16) = (t : Int) - 16 := lay 16 (by omega) (by omega)
          have hs15 : IntKind.i64.wrap ((t : Int) - 15) = (t : Int) - 15 := lay 15 (by omega) (by omega)
          have hs7 : IntKind.i64.wrap ((t : Int) - 7) = (t : Int) - 7 := lay 7 (by omega) (by omega)
          have hs2 : IntKind.i64.wrap ((t : Int) - 2) = (t : Int) - 2 := lay 2 (by omega) (by omega)
          have ix : ∀ (d : Nat) (W : World), d < 17 → 0 < d → (Instr.indexAt 59 (.pointer (some ⟨gw, 0, none⟩)) (.int .i64 ((t : Int) - d))).run Tryd.prog W = .ok (.pointer (some ⟨gw, t - d, none⟩)) W := fun d W h1 h2 => by
            have := idx_arr Tryd.underlying59 (by kernel_rfl) (by kernel_rfl) gw (t - d) (by omega) W
            rwa [show ((t - d : Nat) : Int) = (t : Int) - d by omega] at this
          have ix16 := fun W => ix 16 W (by omega) (by omega)
          have ix15 := fun W => ix 15 W (by omega) (by omega)
          have ix7 := fun W => ix 7 W (by omega) (by omega)
          have ix2 := fun W => ix 2 W (by omega) (by omega)
          rw [show ((16 : Nat) : Int) = 16 from rfl] at ix16
          rw [show ((15 : Nat) : Int) = 15 from rfl] at ix15
          rw [show ((7 : Nat) : Int) = 7 from rfl] at ix7
          rw [show ((2 : Nat) : Int) = 2 from rfl] at ix2
          have cx : ∀ (d : Nat), d < 17 → 0 < d → wr.cell? ⟨gw, t - d, none⟩ = some (.int .u32 (at_ (schedTo b t) (t - d))) := fun d h1 h2 => by
            rw [← wsTo_at b t (t - d) (by omega) hl]
            exact cell_of_32 BW.out (t - d) (by rw [wsTo_length b t hl]; omega)
          have ux : ∀ (d : Nat), d < 17 → 0 < d → U32 (at_ (schedTo b t) (t - d)) := fun d h1 h2 => at_mem _ (sched_u32 b t) (t - d) (by rw [schedTo_length]; omega)
          obtain ⟨x16, e16⟩ : ∃ x, at_ (schedTo b t) (t - 16) = x := ⟨_, rfl⟩
          obtain ⟨x15, e15⟩ : ∃ x, at_ (schedTo b t) (t - 15) = x := ⟨_, rfl⟩
          obtain ⟨x7, e7⟩ : ∃ x, at_ (schedTo b t) (t - 7) = x := ⟨_, rfl⟩
          obtain ⟨x2, e2⟩ : ∃ x, at_ (schedTo b t) (t - 2) = x := ⟨_, rfl⟩
          have c16 : wr.drew.drew.cell? ⟨gw, t - 16, none⟩ = some (.int .u32 x16) := e16 ▸ cx 16 (by omega) (by omega)
          have c15 : wr.drew.cell? ⟨gw, t - 15, none⟩ = some (.int .u32 x15) := e15 ▸ cx 15 (by omega) (by omega)
          have c7 : wr.drew.drew.cell? ⟨gw, t - 7, none⟩ = some (.int .u32 x7) := e7 ▸ cx 7 (by omega) (by omega)
          have c2 : wr.drew.cell? ⟨gw, t - 2, none⟩ = some (.int .u32 x2) := e2 ▸ cx 2 (by omega) (by omega)
          have u15 := e15 ▸ ux 15 (by omega) (by omega)
          have u2 := e2 ▸ ux 2 (by omega) (by omega)
          have hcw : wr.drew.drew.cell? ⟨gw, t, none⟩ = some (.int .u32 (at_ (wsTo b t) t)) := cell_of_32 (blk_drew (blk_drew BW.out)) t (by rw [wsTo_length b t ht]; exact hlt)
          have hfw : wr.drew.drew.frozen? ⟨gw, t, none⟩ = false := blk_frozen (blk_drew (blk_drew BW.out)) t
          have E16 := Aside0.mk e16
          have E15 := Aside0.mk e15
          have E7 := Aside0.mk e7
          have E2 := Aside0.mk e2
          have U15 : Aside0 (0 ≤ x15) := ⟨And.left u15⟩
          have U2 : Aside0 (0 ≤ x2) := ⟨And.left u2⟩
          clear e16 e15 e7 e2 cx ux ix lay u15 u2
          go_wp2
          refine start_ (n := 10) (S := fun w' => w'.cell? ⟨gw, t - 15, none⟩ = some (.int .u32 x15) ∧ w'.cell? ⟨gw, t - 2, none⟩ = some (.int .u32 x2)) (ds := []) #[false, false, false, false, false, false, false, false, false, false] (by kernel_rfl) rfl rfl ⟨c15, c2⟩ (fun hHeld => ?_)
          refine with_tabW sch12_tab sch12_bits (fun HT_ HW_ => ?_)
          refine pure_ (i := 0) (N := (some 36)) (v := ?_) (a' := ?_) #[true, false, false, false, false, false, false, false, false, false] rfl rfl (any_of HT_.out (by kernel_rfl)) (fun _ _ _ h => h) (Or.inl ⟨by rfl, ?_⟩) ?_ ?_
          rotate_left
          · intro w'
            go_simp
            first | with_reducible rfl | (simp; done) | rfl
          rotate_left
          · simp only [Act.put, List.setIfInBounds_toArray, List.set_cons_zero, List.set_cons_succ, i64_w, i32_w]
            rfl
          refine pure_ (i := 1) (N := (some 37)) (v := ?_) (a' := ?_) #[true, true, false, false, false, false, false, false, false, false] rfl rfl (any_of HT_.out (by kernel_rfl)) (fun _ _ _ h => h) (Or.inl ⟨by rfl, ?_⟩) ?_ ?_
          rotate_left
          · intro w'
            go_simp
            first | with_reducible rfl | (simp; done) | rfl
          rotate_left
          · simp only [Act.put, List.setIfInBounds_toArray, List.set_cons_zero, List.set_cons_succ, i64_w, i32_w]
            rfl
          refine pure_ (i := 2) (N := (some 38)) (v := ?_) (a' := ?_) #[true, true, true, false, false, false, false, false, false, false] rfl rfl (any_of HT_.out (by kernel_rfl)) (fun _ _ _ h => h) (Or.inl ⟨by rfl, ?_⟩) ?_ ?_
          rotate_left
          · intro w'
            go_simp
            first | with_reducible rfl | (simp; done) | rfl
          rotate_left
          · simp only [Act.put, List.setIfInBounds_toArray, List.set_cons_zero, List.set_cons_succ, i64_w, i32_w]
            rfl
          refine pure_ (i := 4) (N := (some 40)) (v := ?_) (a' := ?_) #[true, true, true, false, true, false, false, false, false, false] rfl rfl (any_of HT_.out (by kernel_rfl)) (fun _ _ _ h => h) (Or.inl ⟨by rfl, ?_⟩) ?_ ?_
          rotate_left
          · intro w'
            go_simp
            first | with_reducible rfl | (simp; done) | rfl
          rotate_left
          · simp only [Act.put, List.setIfInBounds_toArray, List.set_cons_zero, List.set_cons_succ, i64_w, i32_w]
            rfl
          refine pure_ (i := 5) (N := (some 41)) (v := ?_) (a' := ?_) #[true, true, true, false, true, true, false, false, false, false] rfl rfl (any_of HT_.out (by kernel_rfl)) (fun _ _ _ h => h) (Or.inl ⟨by rfl, ?_⟩) ?_ ?_
          rotate_left
          · intro w'
            go_simp
            first | with_reducible rfl | (simp; done) | rfl
          rotate_left
          · simp only [Act.put, List.setIfInBounds_toArray, List.set_cons_zero, List.set_cons_succ, i64_w, i32_w]
            rfl
          refine pure_ (i := 6) (N := (some 42)) (v := ?_) (a' := ?_) #[true, true, true, false, true, true, true, false, false, false] rfl rfl (any_of HT_.out (by kernel_rfl)) (fun _ _ _ h => h) (Or.inl ⟨by rfl, ?_⟩) ?_ ?_
          rotate_left
          · intro w'
            go_simp
            first | with_reducible rfl | (simp; done) | rfl
          rotate_left
          · simp only [Act.put, List.setIfInBounds_toArray, List.set_cons_zero, List.set_cons_succ, i64_w, i32_w]
            rfl
          refine take_ (i := 3) (N := (some 39)) (v := ?_) (a' := ?_) #[true, true, true, true, true, true, true, false, false, false] rfl rfl (take_ofW HT_.out HW_.out (by kernel_rfl)) (fun _ _ _ h => h) (Or.inl ⟨by rfl, ?_⟩) hHeld ?_ ?_
          rotate_left
          · rintro w' ⟨s0, s1⟩
            go_simp
            with_reducible rfl
          rotate_left
          · simp only [Act.put, List.setIfInBounds_toArray, List.set_cons_zero, List.set_cons_succ, i64_w, i32_w]
            rfl
          refine take_ (i := 7) (N := (some 43)) (v := ?_) (a' := ?_) #[true, true, true, true, true, true, true, true, false, false] rfl rfl (take_ofW HT_.out HW_.out (by kernel_rfl)) (fun _ _ _ h => h) (Or.inl ⟨by rfl, ?_⟩) hHeld ?_ ?_
          rotate_left
          · rintro w' ⟨s0, s1⟩
            go_simp
            with_reducible rfl
          rotate_left
          · simp only [Act.put, List.setIfInBounds_toArray, List.set_cons_zero, List.set_cons_succ, i64_w, i32_w]
            rfl
          refine pure_ (i := 8) (N := (some 7)) (v := ?_) (a' := ?_) #[true, true, true, true, true, true, true, true, true, false] rfl rfl (any_of HT_.out (by kernel_rfl)) (fun _ _ _ h => h) (Or.inl ⟨by rfl, ?_⟩) ?_ ?_
          rotate_left
          · intro w'
            go_simp
            first | with_reducible rfl | (simp; done) | rfl
          rotate_left
          · simp only [Act.put, List.setIfInBounds_toArray, List.set_cons_zero, List.set_cons_succ, i64_w, i32_w]
            rfl
          refine pure_ (i := 9) (N := (some 8)) (v := ?_) (a' := ?_) #[true, true, true, true, true, true, true, true, true, true] rfl rfl (any_of HT_.out (by kernel_rfl)) (fun _ _ _ h => h) (Or.inl ⟨by rfl, ?_⟩) ?_ ?_
          rotate_left
          · intro w'
            go_simp
            first | with_reducible rfl | (simp; done) | rfl
          rotate_left
          · simp only [Act.put, List.setIfInBounds_toArray, List.set_cons_zero, List.set_cons_succ, i64_w, i32_w]
            rfl
          refine done_ (done_of HT_.out (by kernel_rfl)) ?_
          go_wp2
          refine start_ (n := 30) (S := fun w' => w'.cell? ⟨gw, t - 16, none⟩ = some (.int .u32 x16) ∧ w'.cell? ⟨gw, t - 7, none⟩ = some (.int .u32 x7)) (ds := [29]) #[false, false, false, false, false, false, false, false, false, false, false, false, false, false, false, false, false, false, false, false, false, false, false, false, false, false, false, false, false, false] (by kernel_rfl) rfl rfl ⟨c16, c7⟩ (fun hHeld => ?_)
          refine with_tabW sch13_tab sch13_bits (fun HT_ HW_ => ?_)
          refine pure_ (i := 0) (N := (some 44)) (v := ?_) (a' := ?_) #[true, false, false, false, false, false, false, false, false, false, false, false, false, false, false, false, false, false, false, false, false, false, false, false, false, false, false, false, false, false] rfl rfl (any_of HT_.out (by kernel_rfl)) (fun _ _ _ h => h) (Or.inl ⟨by rfl, ?_⟩) ?_ ?_
          rotate_left
          · intro w'
            go_simp
            first | with_reducible rfl | (simp; done) | rfl
          rotate_left
          · simp only [Act.put, List.setIfInBounds_toArray, List.set_cons_zero, List.set_cons_succ, i64_w, i32_w]
            rfl
          refine pure_ (i := 1) (N := (some 45)) (v := ?_) (a' := ?_) #[true, true, false, false, false, false, false, false, false, false, false, false, false, false, false, false, false, false, false, false, false, false, false, false, false, false, false, false, false, false] rfl rfl (any_of HT_.out (by kernel_rfl)) (fun _ _ _ h => h) (Or.inl ⟨by rfl, ?_⟩) ?_ ?_
          rotate_left
          · intro w'
            go_simp
            first | with_reducible rfl | (simp; done) | rfl
          rotate_left
          · simp only [Act.put, List.setIfInBounds_toArray, List.set_cons_zero, List.set_cons_succ, i64_w, i32_w]
            rfl
          refine pure_ (i := 5) (N := (some 49)) (v := ?_) (a' := ?_) #[true, true, false, false, false, true, false, false, false, false, false, false, false, false, false, false, false, false, false, false, false, false, false, false, false, false, false, false, false, false] rfl rfl (any_of HT_.out (by kernel_rfl)) (fun _ _ _ h => h) (Or.inl ⟨by rfl, ?_⟩) ?_ ?_
          rotate_left
          · intro w'
            go_simp
            first | with_reducible rfl | (simp; done) | rfl
          rotate_left
          · simp only [Act.put, List.setIfInBounds_toArray, List.set_cons_zero, List.set_cons_succ, i64_w, i32_w]
            rfl
          refine pure_ (i := 7) (N := (some 51)) (v := ?_) (a' := ?_) #[true, true, false, false, false, true, false, true, false, false, false, false, false, false, false, false, false, false, false, false, false, false, false, false, false, false, false, false, false, false] rfl rfl (any_of HT_.out (by kernel_rfl)) (fun _ _ _ h => h) (Or.inl ⟨by rfl, ?_⟩) ?_ ?_
          rotate_left
          · intro w'
            go_simp
            first | with_reducible rfl | (simp; done) | rfl
          rotate_left
          · simp only [Act.put, List.setIfInBounds_toArray, List.set_cons_zero, List.set_cons_succ, i64_w, i32_w]
            rfl
          refine pure_ (i := 10) (N := (some 54)) (v := ?_) (a' := ?_) #[true, true, false, false, false, true, false, true, false, false, true, false, false, false, false, false, false, false, false, false, false, false, false, false, false, false, false, false, false, false] rfl rfl (any_of HT_.out (by kernel_rfl)) (fun _ _ _ h => h) (Or.inl ⟨by rfl, ?_⟩) ?_ ?_
          rotate_left
          · intro w'
            go_simp
            first | with_reducible rfl | (simp; done) | rfl
          rotate_left
          · simp only [Act.put, List.setIfInBounds_toArray, List.set_cons_zero, List.set_cons_succ, i64_w, i32_w]
            rfl
          refine pure_ (i := 14) (N := (some 58)) (v := ?_) (a' := ?_) #[true, true, false, false, false, true, false, true, false, false, true, false, false, false, true, false, false, false, false, false, false, false, false, false, false, false, false, false, false, false] rfl rfl (any_of HT_.out (by kernel_rfl)) (fun _ _ _ h => h) (Or.inl ⟨by rfl, ?_⟩) ?_ ?_
          rotate_left
          · intro w'
            go_simp
            first | with_reducible rfl | (simp; done) | rfl
          rotate_left
          · simp only [Act.put, List.setIfInBounds_toArray, List.set_cons_zero, List.set_cons_succ, i64_w, i32_w]
            rfl
          refine pure_ (i := 19) (N := (some 63)) (v := ?_) (a' := ?_) #[true, true, false, false, false, true, false, true, false, false, true, false, false, false, true, false, false, false, false, true, false, false, false, false, false, false, false, false, false, false] rfl rfl (any_of HT_.out (by kernel_rfl)) (fun _ _ _ h => h) (Or.inl ⟨by rfl, ?_⟩) ?_ ?_
          rotate_left
          · intro w'
            go_simp
            first | with_reducible rfl | (simp; done) | rfl
          rotate_left
          · simp only [Act.put, List.setIfInBounds_toArray, List.set_cons_zero, List.set_cons_succ, i64_w, i32_w]
            rfl
          refine pure_ (i := 21) (N := (some 65)) (v := ?_) (a' := ?_) #[true, true, false, false, false, true, false, true, false, false, true, false, false, false, true, false, false, false, false, true, false, true, false, false, false, false, false, false, false, false] rfl rfl (any_of HT_.out (by kernel_rfl)) (fun _ _ _ h => h) (Or.inl ⟨by rfl, ?_⟩) ?_ ?_
          rotate_left
          · intro w'
            go_simp
            first | with_reducible rfl | (simp; done) | rfl
          rotate_left
          · simp only [Act.put, List.setIfInBounds_toArray, List.set_cons_zero, List.set_cons_succ, i64_w, i32_w]
            rfl
          refine pure_ (i := 24) (N := (some 68)) (v := ?_) (a' := ?_) #[true, true, false, false, false, true, false, true, false, false, true, false, false, false, true, false, false, false, false, true, false, true, false, false, true, false, false, false, false, false] rfl rfl (any_of HT_.out (by kernel_rfl)) (fun _ _ _ h => h) (Or.inl ⟨by rfl, ?_⟩) ?_ ?_
          rotate_left
          · intro w'
            go_simp
            first | with_reducible rfl | (simp; done) | rfl
          rotate_left
          · simp only [Act.put, List.setIfInBounds_toArray, List.set_cons_zero, List.set_cons_succ, i64_w, i32_w]
            rfl
          refine pure_ (i := 2) (N := (some 46)) (v := ?_) (a' := ?_) #[true, true, true, false, false, true, false, true, false, false, true, false, false, false, true, false, false, false, false, true, false, true, false, false, true, false, false, false, false, false] rfl rfl (any_of HT_.out (by kernel_rfl)) (fun _ _ _ h => h) (Or.inl ⟨by rfl, ?_⟩) ?_ ?_
          rotate_left
          · intro w'
            go_simp
            first | with_reducible rfl | (simp; done) | rfl
          rotate_left
          · simp only [Act.put, List.setIfInBounds_toArray, List.set_cons_zero, List.set_cons_succ, i64_w, i32_w]
            rfl
          refine pure_ (i := 11) (N := (some 55)) (v := ?_) (a' := ?_) #[true, true, true, false, false, true, false, true, false, false, true, true, false, false, true, false, false, false, false, true, false, true, false, false, true, false, false, false, false, false] rfl rfl (any_of HT_.out (by kernel_rfl)) (fun _ _ _ h => h) (Or.inl ⟨by rfl, ?_⟩) ?_ ?_
          rotate_left
          · intro w'
            go_simp
            first | with_reducible rfl | (simp; done) | rfl
          rotate_left
          · simp only [Act.put, List.setIfInBounds_toArray, List.set_cons_zero, List.set_cons_succ, i64_w, i32_w]
            rfl
          refine pure_ (i := 15) (N := (some 59)) (v := ?_) (a' := ?_) #[true, true, true, false, false, true, false, true, false, false, true, true, false, false, true, true, false, false, false, true, false, true, false, false, true, false, false, false, false, false] rfl rfl (any_of HT_.out (by kernel_rfl)) (fun _ _ _ h => h) (Or.inl ⟨by rfl, ?_⟩) ?_ ?_
          rotate_left
          · intro w'
            go_simp
            first | with_reducible rfl | (simp; done) | rfl
          rotate_left
          · simp only [Act.put, List.setIfInBounds_toArray, List.set_cons_zero, List.set_cons_succ, i64_w, i32_w]
            rfl
          refine pure_ (i := 25) (N := (some 69)) (v := ?_) (a' := ?_) #[true, true, true, false, false, true, false, true, false, false, true, true, false, false, true, true, false, false, false, true, false, true, false, false, true, true, false, false, false, false] rfl rfl (any_of HT_.out (by kernel_rfl)) (fun _ _ _ h => h) (Or.inl ⟨by rfl, ?_⟩) ?_ ?_
          rotate_left
          · intro w'
            go_simp
            first | with_reducible rfl | (simp; done) | rfl
          rotate_left
          · simp only [Act.put, List.setIfInBounds_toArray, List.set_cons_zero, List.set_cons_succ, i64_w, i32_w]
            rfl
          refine pure_ (i := 3) (N := (some 47)) (v := ?_) (a' := ?_) #[true, true, true, true, false, true, false, true, false, false, true, true, false, false, true, true, false, false, false, true, false, true, false, false, true, true, false, false, false, false] rfl rfl (any_of HT_.out (by kernel_rfl)) (fun _ _ _ h => h) (Or.inl ⟨by rfl, ?_⟩) ?_ ?_
          rotate_left
          · intro w'
            go_simp
            first | with_reducible rfl | (simp; done) | rfl
          rotate_left
          · simp only [Act.put, List.setIfInBounds_toArray, List.set_cons_zero, List.set_cons_succ, i64_w, i32_w]
            rfl
          refine pure_ (i := 16) (N := (some 60)) (v := ?_) (a' := ?_) #[true, true, true, true, false, true, false, true, false, false, true, true, false, false, true, true, true, false, false, true, false, true, false, false, true, true, false, false, false, false] rfl rfl (any_of HT_.out (by kernel_rfl)) (fun _ _ _ h => h) (Or.inl ⟨by rfl, ?_⟩) ?_ ?_
          rotate_left
          · intro w'
            go_simp
            first | with_reducible rfl | (simp; done) | rfl
          rotate_left
          · simp only [Act.put, List.setIfInBounds_toArray, List.set_cons_zero, List.set_cons_succ, i64_w, i32_w]
            rfl
          refine take_ (i := 4) (N := (some 48)) (v := ?_) (a' := ?_) #[true, true, true, true, true, true, false, true, false, false, true, true, false, false, true, true, true, false, false, true, false, true, false, false, true, true, false, false, false, false] rfl rfl (take_ofW HT_.out HW_.out (by kernel_rfl)) (fun _ _ _ h => h) (Or.inl ⟨by rfl, ?_⟩) hHeld ?_ ?_
          rotate_left
          · rintro w' ⟨s0, s1⟩
            go_simp
            with_reducible rfl
          rotate_left
          · simp only [Act.put, List.setIfInBounds_toArray, List.set_cons_zero, List.set_cons_succ, i64_w, i32_w]
            rfl
          refine take_ (i := 17) (N := (some 61)) (v := ?_) (a' := ?_) #[true, true, true, true, true, true, false, true, false, false, true, true, false, false, true, true, true, true, false, true, false, true, false, false, true, true, false, false, false, false] rfl rfl (take_ofW HT_.out HW_.out (by kernel_rfl)) (fun _ _ _ h => h) (Or.inl ⟨by rfl, ?_⟩) hHeld ?_ ?_
          rotate_left
          · rintro w' ⟨s0, s1⟩
            go_simp
            with_reducible rfl
          rotate_left
          · simp only [Act.put, List.setIfInBounds_toArray, List.set_cons_zero, List.set_cons_succ, i64_w, i32_w]
            rfl
          refine one_ (i := 6) (N := (some 50)) #[true, true, true, true, true, true, true, true, false, false, true, true, false, false, true, true, true, true, false, true, false, true, false, false, true, true, false, false, false, false] rfl rfl (one_of HT_.out (by kernel_rfl)) (by decide) (fun K hK => ?_)
          refine goes_ Tryd.func54 (by kernel_rfl) rfl #[.int .u32 x15, .int .u32 7] (by rfl) rfl rfl (by (try simp only [List.map_toArray, List.map_cons, List.map_nil]); first | done | rfl) ?_
          with_reducible refine (turn_m x15 7 7 rfl (by omega) (by omega) U15.out _).mono ?_
          rintro e0 w' ⟨rfl, rfl⟩
          refine ⟨_, rfl, ?_⟩
          refine hK.out _ _ hHeld (fun hHeld => ?_)
          clear hK K
          refine norm_ (a' := ?_) ?_ ?_
          rotate_left
          · show Act.put _ (some 50) _ = _
            simp only [Act.put, List.setIfInBounds_toArray, List.set_cons_zero, List.set_cons_succ, i64_w, i32_w]
            rfl
          refine one_ (i := 8) (N := (some 52)) #[true, true, true, true, true, true, true, true, true, false, true, true, false, false, true, true, true, true, false, true, false, true, false, false, true, true, false, false, false, false] rfl rfl (one_of HT_.out (by kernel_rfl)) (by decide) (fun K hK => ?_)
          refine goes_ Tryd.func54 (by kernel_rfl) rfl #[.int .u32 x15, .int .u32 18] (by rfl) rfl rfl (by (try simp only [List.map_toArray, List.map_cons, List.map_nil]); first | done | rfl) ?_
          with_reducible refine (turn_m x15 18 18 rfl (by omega) (by omega) U15.out _).mono ?_
          rintro e0 w' ⟨rfl, rfl⟩
          refine ⟨_, rfl, ?_⟩
          refine hK.out _ _ hHeld (fun hHeld => ?_)
          clear hK K
          refine norm_ (a' := ?_) ?_ ?_
          rotate_left
          · show Act.put _ (some 52) _ = _
            simp only [Act.put, List.setIfInBounds_toArray, List.set_cons_zero, List.set_cons_succ, i64_w, i32_w]
            rfl
          refine pure_ (i := 9) (N := (some 53)) (v := ?_) (a' := ?_) #[true, true, true, true, true, true, true, true, true, true, true, true, false, false, true, true, true, true, false, true, false, true, false, false, true, true, false, false, false, false] rfl rfl (any_of HT_.out (by kernel_rfl)) (fun _ _ _ h => h) (Or.inl ⟨by rfl, ?_⟩) ?_ ?_
          rotate_left
          · intro w'
            go_simp
            first | with_reducible rfl | (simp; done) | rfl
          rotate_left
          · simp only [Act.put, List.setIfInBounds_toArray, List.set_cons_zero, List.set_cons_succ, i64_w, i32_w]
            rfl
          refine pure_ (i := 12) (N := (some 56)) (v := ?_) (a' := ?_) #[true, true, true, true, true, true, true, true, true, true, true, true, true, false, true, true, true, true, false, true, false, true, false, false, true, true, false, false, false, false] rfl rfl (any_of HT_.out (by kernel_rfl)) (fun _ _ _ h => h) (Or.inl ⟨by rfl, ?_⟩) ?_ ?_
          rotate_left
          · intro w'
            go_simp
            first | with_reducible rfl | (simp; done) | rfl
          rotate_left
          · simp only [Act.put, List.setIfInBounds_toArray, List.set_cons_zero, List.set_cons_succ, i64_w, i32_w]
            rfl
          refine pure_ (i := 13) (N := (some 57)) (v := ?_) (a' := ?_) #[true, true, true, true, true, true, true, true, true, true, true, true, true, true, true, true, true, true, false, true, false, true, false, false, true, true, false, false, false, false] rfl rfl (any_of HT_.out (by kernel_rfl)) (fun _ _ _ h => h) (Or.inl ⟨by rfl, ?_⟩) ?_ ?_
          rotate_left
          · intro w'
            go_simp
            first | with_reducible rfl | (simp; done) | rfl
          rotate_left
          · simp only [Act.put, List.setIfInBounds_toArray, List.set_cons_zero, List.set_cons_succ, i64_w, i32_w]
            rfl
          refine pure_ (i := 18) (N := (some 62)) (v := ?_) (a' := ?_) #[true, true, true, true, true, true, true, true, true, true, true, true, true, true, true, true, true, true, true, true, false, true, false, false, true, true, false, false, false, false] rfl rfl (any_of HT_.out (by kernel_rfl)) (fun _ _ _ h => h) (Or.inl ⟨by rfl, ?_⟩) ?_ ?_
          rotate_left
          · intro w'
            go_simp
            first | with_reducible rfl | (simp; done) | rfl
          rotate_left
          · simp only [Act.put, List.setIfInBounds_toArray, List.set_cons_zero, List.set_cons_succ, i64_w, i32_w]
            rfl
          refine one_ (i := 20) (N := (some 64)) #[true, true, true, true, true, true, true, true, true, true, true, true, true, true, true, true, true, true, true, true, true, true, false, false, true, true, false, false, false, false] rfl rfl (one_of HT_.out (by kernel_rfl)) (by decide) (fun K hK => ?_)
          refine goes_ Tryd.func54 (by kernel_rfl) rfl #[.int .u32 x2, .int .u32 17] (by rfl) rfl rfl (by (try simp only [List.map_toArray, List.map_cons, List.map_nil]); first | done | rfl) ?_
          with_reducible refine (turn_m x2 17 17 rfl (by omega) (by omega) U2.out _).mono ?_
          rintro e0 w' ⟨rfl, rfl⟩
          refine ⟨_, rfl, ?_⟩
          refine hK.out _ _ hHeld (fun hHeld => ?_)
          clear hK K
          refine norm_ (a' := ?_) ?_ ?_
          rotate_left
          · show Act.put _ (some 64) _ = _
            simp only [Act.put, List.setIfInBounds_toArray, List.set_cons_zero, List.set_cons_succ, i64_w, i32_w]
            rfl
          refine one_ (i := 22) (N := (some 66)) #[true, true, true, true, true, true, true, true, true, true, true, true, true, true, true, true, true, true, true, true, true, true, true, false, true, true, false, false, false, false] rfl rfl (one_of HT_.out (by kernel_rfl)) (by decide) (fun K hK => ?_)
          refine goes_ Tryd.func54 (by kernel_rfl) rfl #[.int .u32 x2, .int .u32 19] (by rfl) rfl rfl (by (try simp only [List.map_toArray, List.map_cons, List.map_nil]); first | done | rfl) ?_
          with_reducible refine (turn_m x2 19 19 rfl (by omega) (by omega) U2.out _).mono ?_
          rintro e0 w' ⟨rfl, rfl⟩
          refine ⟨_, rfl, ?_⟩
          refine hK.out _ _ hHeld (fun hHeld => ?_)
          clear hK K
          refine norm_ (a' := ?_) ?_ ?_
          rotate_left
          · show Act.put _ (some 66) _ = _
            simp only [Act.put, List.setIfInBounds_toArray, List.set_cons_zero, List.set_cons_succ, i64_w, i32_w]
            rfl
          refine pure_ (i := 23) (N := (some 67)) (v := ?_) (a' := ?_) #[true, true, true, true, true, true, true, true, true, true, true, true, true, true, true, true, true, true, true, true, true, true, true, true, true, true, false, false, false, false] rfl rfl (any_of HT_.out (by kernel_rfl)) (fun _ _ _ h => h) (Or.inl ⟨by rfl, ?_⟩) ?_ ?_
          rotate_left
          · intro w'
            go_simp
            first | with_reducible rfl | (simp; done) | rfl
          rotate_left
          · simp only [Act.put, List.setIfInBounds_toArray, List.set_cons_zero, List.set_cons_succ, i64_w, i32_w]
            rfl
          refine pure_ (i := 26) (N := (some 70)) (v := ?_) (a' := ?_) #[true, true, true, true, true, true, true, true, true, true, true, true, true, true, true, true, true, true, true, true, true, true, true, true, true, true, true, false, false, false] rfl rfl (any_of HT_.out (by kernel_rfl)) (fun _ _ _ h => h) (Or.inl ⟨by rfl, ?_⟩) ?_ ?_
          rotate_left
          · intro w'
            go_simp
            first | with_reducible rfl | (simp; done) | rfl
          rotate_left
          · simp only [Act.put, List.setIfInBounds_toArray, List.set_cons_zero, List.set_cons_succ, i64_w, i32_w]
            rfl
          refine pure_ (i := 27) (N := (some 71)) (v := ?_) (a' := ?_) #[true, true, true, true, true, true, true, true, true, true, true, true, true, true, true, true, true, true, true, true, true, true, true, true, true, true, true, true, false, false] rfl rfl (any_of HT_.out (by kernel_rfl)) (fun _ _ _ h => h) (Or.inl ⟨by rfl, ?_⟩) ?_ ?_
          rotate_left
          · intro w'
            go_simp
            first | with_reducible rfl | (simp; done) | rfl
          rotate_left
          · simp only [Act.put, List.setIfInBounds_toArray, List.set_cons_zero, List.set_cons_succ, i64_w, i32_w]
            rfl
          refine pure_ (i := 28) (N := (some 72)) (v := ?_) (a' := ?_) #[true, true, true, true, true, true, true, true, true, true, true, true, true, true, true, true, true, true, true, true, true, true, true, true, true, true, true, true, true, false] rfl rfl (any_of HT_.out (by kernel_rfl)) (fun _ _ _ h => h) (Or.inl ⟨by rfl, ?_⟩) ?_ ?_
          rotate_left
          · intro w'
            go_simp
            first | with_reducible rfl | (simp; done) | rfl
          rotate_left
          · simp only [Act.put, List.setIfInBounds_toArray, List.set_cons_zero, List.set_cons_succ, i64_w, i32_w]
            rfl
          refine last_ (i := 29) (N := none) #[true, true, true, true, true, true, true, true, true, true, true, true, true, true, true, true, true, true, true, true, true, true, true, true, true, true, true, true, true, true] rfl rfl (one_of HT_.out (by kernel_rfl)) (by decide) (fun K hK => ?_)
          refine skip_ (w1 := ?_) (by rfl) rfl ?_ ?_
          rotate_left
          · go_simp
            rfl
          refine hK.out _ _ ?_
          clear hK K
          refine done_ (done_of HT_.out (by kernel_rfl)) ?_
          go_wp2
          refine ⟨⟨t + 1, by omega, by omega, by simp, ⟨?_, ?_, ?_⟩⟩, by simp [intOf]; omega⟩
          · have hw := wsTo_set b t hlt
            rw [if_neg (by omega)] at hw
            rw [← hw]
            refine blk_put (blk_drew (blk_drew BW.out)) t _ ?_
            rw [arr32_set]
            unfold nextW
            rw [E16.out, E15.out, E7.out, E2.out]
            unfold add32 sig0 sig1 xor32
            simp only [IntKind.wrap_u32]
          · exact (Below.heap_setCell _ ⟨gw, t, none⟩ _ gr NE.out).trans (blk_drew (blk_drew HI2.out.2.1))
          · exact ((HI2.out.2.2.drew).drew).setCell (p := ⟨gw, t, none⟩) GW.out _
        · have hends : wsTo b t = schedTo b 64 := by
            obtain rfl : t = 64 := by omega
            simp [wsTo]
          have BR := Aside0.mk HI2.out.2.1
          have HB := Aside0.mk HI2.out.2.2
          rw [hends] at BW
          clear hends HI2
          go_wp2_with (
            first
            | ((with_reducible refine gate_dst (N := 73) rfl ?_); refine wpList_load_row rfl 59 (.tmp 3) rfl gw rfl 59 (arr32 (schedTo b 64)) (0, 0) _ BW.out Tryd.underlying59 rfl (by rw [arr32_size, schedTo_length]; exact info_64) ?_)
            | ((with_reducible refine gate_store (p := 2) rfl ?_); refine w64_store rfl (.tmp 2) (.tmp 73) rfl gr (schedTo b 64) (List.replicate 64 0) rfl rfl BR.out (schedTo_length b 64) (by simp) ?_; intro w3 bk hoth hbel; have n1 := Aside0.mk bk; have n3 := Aside0.mk (hbel _ _ HB.out GR.out); clear BR HB bk hoth hbel; have BR := n1; have HB := n3; clear n1 n3))
          refine bodyPost_ret (results_c rfl _ _ gr 59 (arr32 (schedTo b 64)) (0, 0) _ rfl BR.out Tryd.underlying59 rfl (by rw [arr32_size, schedTo_length]; exact info_64)) rfl ?_
          exact ⟨rfl, HB.out⟩
end Go.Proofs.YtoaimcobcgomjaaDoor.Q
namespace Go.Proofs.YtoaimcobcgomjaaDoor.Q
open Go.RowKit Go.Proofs.YtoaimcobcgomjaaDoorW.PrintWords Go.Proofs.YtoaimcobcgomjaaDoorW.PrintLast Go.Proofs.YtoaimcobcgomjaaDoorW.PrintMore
set_option linter.unusedVariables false
set_option linter.unusedSimpArgs false
/-- The number of a digit; -1: it is none. -/
def h16 (c : Int) : Int := match hexL.findIdx? (fun b => (b.toNat : Int) == c) with | some i => i | none => -1
def zeros32 : List Int := List.replicate 32 0
end Go.Proofs.YtoaimcobcgomjaaDoor.Q
namespace Go.Proofs.YtoaimcobcgomjaaDoor.Q
open Go.RowKit Go.Proofs.YtoaimcobcgomjaaDoorW.PrintWords Go.Proofs.YtoaimcobcgomjaaDoorW.PrintLast Go.Proofs.YtoaimcobcgomjaaDoorW.PrintMore
set_option linter.unusedVariables false
set_option linter.unusedSimpArgs false
/-- The table k lies where it was laid. -/
def KT (W : World) : Prop := ∀ j, j < 64 → W.cell? ⟨0, j, none⟩ = some (.int .u32 (at_ K64 j))
theorem KT.lt {W : World} (h : KT W) : 0 < W.heap.size := World.block_lt_of_cell? W _ (h 0 (by omega))
theorem KT.below {W w : World} (h : KT W) {base : Nat} (hb0 : 0 < base) (hb : Below base W w) : KT w := fun j hj => (hb.cell hb0).trans (h j hj)
theorem flat_take (ps : List (List Int)) (j : Nat) (h : j < ps.length) : (ps.take (j + 1)).flatten = (ps.take j).flatten ++ ps[j] := by
  rw [List.take_succ_eq_append_getElem h, List.flatten_append]
  simp
theorem flat_take_len (ps : List (List Int)) (j : Nat) : (ps.take j).flatten.length ≤ ps.flatten.length := by
  conv => rhs; rw [← List.take_append_drop j ps]
  rw [List.flatten_append, List.length_append]
  omega
/-- A part's place. -/
theorem idx_part (ad : Addr) (n cap i : Nat) (hi : i < n) (W : World) : (Instr.indexAt 29 (.slice (some ad) n cap) (.int .i64 (i : Int))).run Tryd.prog W = .ok (.pointer (some (ad.add i))) W := by
  have hel : Tryd.prog.elem 29 = 22 := by kernel_rfl
  obtain ⟨j, hj, h1, h2, h3⟩ := info_parts info22
  rw [run_indexAt_slice W 29 _ _ _ _ _ (by rw [hel]; exact Tryd.underlying29)]
  simp [hi, hel, sizeOf, typeInfo, hj, h2, Result.andThen]
/-- What holds at the head of the loop over the parts. -/
structure OfInv (gd gs : Nat) (W : World) (m s rs : List Int) (v : Value) (w : World) : Prop where
  bd : w.heap[gd]? = some (.cells (arr (List.replicate 32 0)) 25 (0, 0))
  bs : w.heap[gs]? = some (.cells (arr32 s) 56 (0, 0))
  q : (Kd.int .u8).Q 5 w W.heap.size (fun _ => True) v rs
  hb : Below W.heap.size W w
  eats : Eats init8 m s rs
  mem : ∀ x ∈ rs, 0 ≤ x ∧ x < 256
  hd : W.heap.size ≤ gd
  hs : W.heap.size ≤ gs
  ne : gd ≠ gs
theorem OfInv.cut {gd gs : Nat} {W w : World} {m s rs : List Int} {v : Value} (h : OfInv gd gs W m s rs v w) (hk : KT W) (h64 : 64 ≤ rs.length) :
    ∃ g o cb v', v = .slice (some ⟨g, o, none⟩) rs.length cb ∧ rs.length ≤ cb ∧ BlkPre gs g o s (rs.take 64) w ∧
      (∀ W' : World, (Instr.slice 22 (.slice (some ⟨g, o, none⟩) rs.length cb) (some (.int .i64 64)) none none).run Tryd.prog W' = .ok v' W') ∧
      (∀ W' : World, (Instr.slice 22 (.slice (some ⟨g, o, none⟩) rs.length cb) none (some (.int .i64 64)) none).run Tryd.prog W' = .ok (.slice (some ⟨g, o, none⟩) 64 cb) W') ∧
      ∀ w4, w4.heap[gs]? = some (.cells (arr32 (compress s (rs.take 64))) 56 (0, 0)) → w.heap.size ≤ w4.heap.size → (∀ k, k < w.heap.size → k ≠ gs → w4.heap[k]? = w.heap[k]?) → (∀ (B : Nat) (w0 : World), Below B w0 w → B ≤ gs → Below B w0 w4) →
        OfInv gd gs W m (compress s (rs.take 64)) (rs.drop 64) v' w4 := by
  obtain ⟨g, o, cb, rfl, hbg, hgl, cells, hc⟩ := Kd.Q_form h.q (by omega)
  obtain ⟨_, hlc, hrd⟩ := Kd.Q_reads' h.q
  obtain ⟨ss, su⟩ := h.eats.state init8_ok.1 init8_ok.2
  have hgs : g ≠ gs := by
    rintro rfl
    have := h.bs
    rw [hc] at this
    injection this with this
    injection this with _ this
    exact absurd this (by decide)
  have hpos : 0 < W.heap.size := hk.lt
  refine ⟨g, o, cb, .slice (if cb = 64 then some ⟨g, o, none⟩ else (some (⟨g, o, none⟩ : Addr)).map (·.add (64 * 1))) (rs.length - 64) (cb - 64), rfl, hlc, ⟨h.bs, fun j hj => ?_, hgs, hk.below hpos h.hb, by have := h.hs; omega, ss, su, by rw [List.length_take]; omega, fun x hx => h.mem x (List.mem_of_mem_take hx)⟩, ?_, ?_, ?_⟩
  · obtain ⟨ad, he, hy⟩ := Kd.at_int hrd (j : Int) (by omega) (by omega)
    cases he
    rw [Int.toNat_natCast] at hy
    have e1 : (⟨g, o, none⟩ : Addr).add j = ⟨g, o + j, none⟩ := by simp [Addr.add]
    rw [← e1, hy]
    congr 2
    have hjl : j < rs.length := by omega
    simp [at_, rd, hj, hjl]
  · obtain ⟨i, hi, h1, h2, h3⟩ := info_parts info5
    exact cut_from 22 5 .i64 Tryd.underlying22 hi 1 h2 (some ⟨g, o, none⟩) rs.length cb 64 (by omega) (by omega)
  · obtain ⟨i, hi, h1, h2, h3⟩ := info_parts info5
    exact cut_to 22 5 .i64 Tryd.underlying22 hi (some ⟨g, o, none⟩) rs.length cb 64 (by omega) (by omega) hlc
  · intro w4 hbs hsz hoth hbel
    have q1 := Kd.Q_mono (Kd.Q_step (Kd.Q_types h.q h.bs (by decide)) (fun k hk hlt => hoth k hlt hk.2)) (ok' := fun _ => True) (fun _ _ => trivial)
    exact ⟨(hoth gd (blk_lt h.bd) h.ne).trans h.bd, hbs, Kd.Q_drop q1 h64, hbel _ _ h.hb h.hs, h.eats.trans (.one h64), fun x hx => h.mem x (List.mem_of_mem_drop hx), h.hd, h.hs, h.ne⟩
def lenV (v : Value) : Nat := match v with | .slice _ n _ => n | _ => 0
theorem OfInv.drew {gd gs : Nat} {W w : World} {m s rs : List Int} {v : Value} (h : OfInv gd gs W m s rs v w) : OfInv gd gs W m s rs v w.drew :=
  ⟨blk_drew h.bd, blk_drew h.bs, Kd.Q_drew h.q, below_drew h.hb, h.eats, h.mem, h.hd, h.hs, h.ne⟩
theorem OfInv.grow {gd gs : Nat} {W w w1 : World} {m s rs p : List Int} {v v1 : Value} (h : OfInv gd gs W m s rs v w) (q : (Kd.int .u8).Q 5 w1 W.heap.size (fun _ => True) v1 (rs ++ p)) (hb : Below W.heap.size W w1) (hg : w.grownBy w1 v.ownBlock) (hp : ∀ x ∈ p, 0 ≤ x ∧ x < 256) : OfInv gd gs W (m ++ p) s (rs ++ p) v1 w1 :=
  ⟨blk_grown h.bd hg (Kd.Q_ne h.q h.bd (by decide)), blk_grown h.bs hg (Kd.Q_ne h.q h.bs (by decide)), q, hb, h.eats.append p, fun x hx => (List.mem_append.1 hx).elim (h.mem x) (hp x), h.hd, h.hs, h.ne⟩
theorem OfInv.lenV {gd gs : Nat} {W w : World} {m s rs : List Int} {v : Value} (h : OfInv gd gs W m s rs v w) : lenV v = rs.length := by
  obtain ⟨A, c, rfl, _⟩ := Kd.Q_slice h.q
  rfl
theorem len8_take (x : Int) (q : Nat) (hq : q < 8) : (len8 x).take (q + 1) = (len8 x).take q ++ [x / 2 ^ (56 - 8 * q) % 256] := by
  rw [List.take_succ_eq_append_getElem (by rw [len8_len]; exact hq)]
  congr 1
  simp [len8]
/-- The digest's bytes, the first q of them. -/
def digTo (s : List Int) (q : Nat) : List Int := (bytes32 s).take q ++ List.replicate (32 - q) 0
theorem digTo_len (s : List Int) (q : Nat) (hq : q ≤ 32) : (digTo s q).length = 32 := by simp [digTo, bytes32_len]; omega
theorem digTo_set (s : List Int) (q : Nat) (hq : q < 32) : (digTo s q).set q (at_ s (q / 4) / 2 ^ (24 - 8 * (q % 4)) % 256) = digTo s (q + 1) := by
  unfold digTo
  have h32 : 32 - q = (32 - (q + 1)) + 1 := by omega
  have hl : ((bytes32 s).take q).length = q := by rw [List.length_take, bytes32_len]; omega
  rw [h32, List.replicate_succ, List.set_append_right _ _ (by omega), hl, Nat.sub_self, List.set_cons_zero, List.take_succ_eq_append_getElem (by rw [bytes32_len]; exact hq), List.append_assoc]
  congr 1
  simp [bytes32]
theorem digTo_end (s : List Int) : digTo s 32 = bytes32 s := by simp [digTo, List.take_of_length_le, bytes32_len]
theorem idx_dig (g i : Nat) (hi : i < 32) (W : World) : (Instr.indexAt 25 (.pointer (some ⟨g, 0, none⟩)) (.int .i64 (i : Int))).run Tryd.prog W = .ok (.pointer (some ⟨g, i, none⟩)) W := by
  have hel : Tryd.prog.elem 25 = 5 := by kernel_rfl
  have hn : Tryd.prog.arrayLen 25 = 32 := by kernel_rfl
  obtain ⟨j, hj, h1, h2, h3⟩ := info_parts info5
  rw [run_indexAt_array W 25 _ _ _ (by rw [hn, hel]; exact Tryd.underlying25)]
  have hi2 : (i : Int) < 32 := by omega
  simp [hi, hi2, hel, hn, sizeOf, typeInfo, hj, h2, Result.andThen, add_zero_plain]
set_option maxHeartbeats 16000000 in
set_option maxRecDepth 100000 in
theorem of_walk (A : Option Addr) (n c : Nat) (ps : List (List Int)) (W : World) (hR : (Kd.slice 5 (Kd.int .u8)).C W A n ps) (hm : ∀ p ∈ ps, ∀ x ∈ p, 0 ≤ x ∧ x < 256) (hl : ps.flatten.length < 1099511627776) (hk : KT W) :
    Calls Tryd.prog 13 #[.slice A n c] W fun e W' => e = .returned (.agg (arr (shaOf ps.flatten))) ∧ Below W.heap.size W W' := by
  have HR := Aside0.mk hR
  have HM := Aside0.mk hm
  have HL := Aside0.mk hl
  have HK := Aside0.mk hk
  have HB := Aside0.mk (Below.refl W.heap.size W)
  have hn : ps.length = n := hR.1
  have HN := Aside0.mk hn
  have HN2 : Aside0 (n ≤ 9223372036854775807) := ⟨hR.2.1⟩
  clear hR hm hl hk hn
  go_enter Tryd.func13, Tryd.ntmps13
  go_wp2_with (
    first
    | ((with_reducible refine gate_dst (N := 2) rfl ?_); refine box_event ?hg (N := 2) ?hd (cs := arr (List.replicate 32 0)) (t := 25) ?hr ?_; (case hd => rfl); (case hg => rfl); (case hr => first | (go_simp; done) | (go_simp; rfl));
       intro gd hg w1 hbox hb; have BD := Aside0.mk hbox; have GD := Aside0.mk (show W.heap.size ≤ gd by rw [hg]; exact Nat.le_refl _); have HB1 := Aside0.mk (below_step HB.out hb); clear HB; have HB := HB1; clear HB1 hb hbox hg)
    | ((with_reducible refine gate_dst (N := 3) rfl ?_); refine box_event ?hg (N := 3) ?hd (cs := arr32 (List.replicate 8 0)) (t := 56) ?hr ?_; (case hd => rfl); (case hg => rfl); (case hr => first | (go_simp; done) | (go_simp; rfl));
       intro gs hg w2 hbox hb; have BS := Aside0.mk hbox; have GS := Aside0.mk (show W.heap.size ≤ gs by rw [hg]; exact below_size HB.out); have NE := Aside0.mk (show gd ≠ gs by rw [hg]; exact Nat.ne_of_lt (blk_lt BD.out)); have n1 := Aside0.mk (blk_below BD.out hb); have HB1 := Aside0.mk (below_step HB.out hb); clear HB BD; have HB := HB1; have BD := n1; clear HB1 n1 hb hbox hg)
    | ((with_reducible refine gate_store (p := 3) rfl ?_); refine st_store rfl (.tmp 3) (.tmp 10) rfl gs init8 (List.replicate 8 0) rfl rfl BS.out rfl rfl ?_; intro w3 bk hoth hbel; have n1 := Aside0.mk bk; have n2 := Aside0.mk ((hoth gd NE.out).trans BD.out); have n3 := Aside0.mk (hbel _ _ HB.out GS.out); clear BS BD HB bk hoth hbel; have BS := n1; have BD := n2; have HB := n3; clear n1 n2 n3))
  have HI : Aside0 (OfInv gd gs W [] init8 [] (.slice none 0 0) w3) := ⟨⟨BD.out, BS.out, Kd.Q_nil _ _ _ _ _, HB.out, .stay _ _, by simp, GD.out, GS.out, NE.out⟩⟩
  clear BD BS HB
  go_loopw [4, 5, 7, 13] (fun r m _ i wr => ∃ (j : Nat) (s rs : List Int), j ≤ n ∧ i = .int .i64 (j : Int) ∧ m = .int .u64 ((ps.take j).flatten.length : Int) ∧ Aside0 (OfInv gd gs W (ps.take j).flatten s rs r wr ∧ rs.length < 64)) (fun _ _ _ i _ => n - (intOf i).toNat)
  case atStart => exact ⟨0, init8, [], by omega, rfl, rfl, ⟨by simpa using HI.out, by simp⟩⟩
  case round =>
    obtain ⟨j, s, rs, hj, rfl, rfl, HI2⟩ := hrel
    by_cases hlt : j < n
    · have hjl : j < ps.length := by rw [HN.out]; exact hlt
      obtain ⟨ad, c0, hA, hcl, hK, hcells⟩ := Kd.C_get (Kd.C_below HR.out HI2.out.1.hb) [] (j : Int) (by omega) (by omega)
      subst hA
      obtain ⟨p, hp⟩ : ∃ p, ps[j] = p := ⟨_, rfl⟩
      have hpd : ps.getD (j : Int).toNat [] = p := by rw [← hp]; simp [hjl]
      rw [hpd] at hK
      obtain ⟨Ap, cp, rfl, hple, hCp⟩ := hK
      have hcell : wr.cell? (ad.add j) = some (.slice Ap p.length cp) := by
        have := hcells 0 _ rfl
        simpa [Kd.slice] using this
      have HFL : Aside0 ((ps.take (j + 1)).flatten = (ps.take j).flatten ++ p) := ⟨by rw [flat_take ps j hjl, hp]⟩
      have hlen : (ps.take j).flatten.length + p.length ≤ ps.flatten.length := by
        have := flat_take_len ps (j + 1)
        rw [HFL.out, List.length_append] at this
        exact this
      have HPB : Aside0 (∀ x ∈ p, 0 ≤ x ∧ x < 256) := ⟨HM.out p (by rw [← hp]; exact List.getElem_mem hjl)⟩
      obtain ⟨mj, hmj⟩ : ∃ k : Nat, (ps.take j).flatten.length = k := ⟨_, rfl⟩
      have HMJ := Aside0.mk hmj
      rw [hmj] at hlen ⊢
      have hl40 := HL.out
      have h1 : mj + p.length < 1099511627776 := by omega
      clear hl40 hlen
      have hix := fun W' => idx_part ad n c j hlt W'
      have hjw : IntKind.i64.wrap ((j : Int) + 1) = (j : Int) + 1 := by
        have := HN2.out
        rw [IntKind.wrap_i64]
        omega
      have hw1 : IntKind.u64.wrap (p.length : Int) = (p.length : Int) := by rw [IntKind.wrap_u64]; omega
      have hw2 : IntKind.u64.wrap ((mj : Int) + (p.length : Int)) = (mj : Int) + (p.length : Int) := by rw [IntKind.wrap_u64]; omega
      have HCP := Aside0.mk hCp
      have HLT : Aside0 (rs.length < 64) := ⟨HI2.out.2⟩
      have HPL : Aside0 (p.length < 1099511627776) := ⟨by omega⟩
      have HI := Aside0.mk HI2.out.1
      clear hmj hp hpd hcells hcl hCp HI2
      go_wp2_with (
        first
        | ((with_reducible refine gate_builtin (b := .append) (xs := #[.tmp 22, .tmp 23]) rfl ?_); at_builtin;
           refine Q_append_rows (Kd.int .u8) (w0 := W) W.heap.size rfl (.tmp 22) (.tmp 23) 22 5 (.int .u8 0) 1 rfl Tryd.underlying22 info5 rfl (by decide) (by decide) _ rs p Ap p.length cp (fun _ => True) (fun _ => False) rfl rfl HI.out.q HCP.out (fun _ _ h => h) (fun _ hk => hk.elim) (fun _ _ => trivial) HI.out.hb (below_size HI.out.hb) ?hl ?_;
           (case hl => have := HLT.out; have := HPL.out; omega);
           intro v1 w1 hq hb hg hat; have HI1 := Aside0.mk (HI.out.grow hq hb hg HPB.out); clear hq hb hg hat))
      go_loopw [4] (fun r wr => ∃ (s rs : List Int), Aside0 (OfInv gd gs W ((ps.take j).flatten ++ p) s rs r wr)) (fun r _ => lenV r)
      case atStart => exact ⟨_, _, HI1⟩
      case round =>
        obtain ⟨s, rs, HI2⟩ := hrel
        clear HI HI1
        by_cases h64 : 64 ≤ rs.length
        · obtain ⟨g, o, cb, v', rfl, hle, hpre, hcf, hct, hnext⟩ := HI2.out.cut HK.out h64
          have HPRE := Aside0.mk hpre
          have HNEXT := Aside0.mk hnext
          clear hpre hnext
          go_wp2_with (
            first
            | (go_at_call 34; (with_reducible refine (block_walk gs g o cb s (rs.take 64) _ HPRE.out).mono ?_); rintro e w4 ⟨rfl, hbs, hsz, hoth, hbel⟩;
               have HI4 := Aside0.mk (HNEXT.out w4 hbs hsz hoth hbel); clear hbs hsz hoth hbel HNEXT HPRE))
          exact ⟨⟨_, _, HI4⟩, by have e := HI4.out.lenV; rw [List.length_drop] at e; show lenV v' < rs.length; omega⟩
        · obtain ⟨B, cb, rfl, hle2⟩ := Kd.Q_slice HI2.out.q
          go_wp2
          refine ⟨⟨j + 1, s, rs, by omega, by simp, by rw [HFL.out, List.length_append, HMJ.out]; simp, ⟨by rw [HFL.out]; exact HI2.out, by omega⟩⟩, by simp [intOf]; omega⟩
    · have hjn : ps.take j = ps := List.take_of_length_le (by rw [HN.out]; omega)
      rw [hjn] at HI2 ⊢
      obtain ⟨N, hN⟩ : ∃ k : Nat, ps.flatten.length = k := ⟨_, rfl⟩
      have HNL := Aside0.mk hN
      rw [hN]
      have hl40 := HL.out
      rw [hN] at hl40
      have HLT : Aside0 (rs.length < 64) := ⟨HI2.out.2⟩
      have HI1 := Aside0.mk HI2.out.1
      clear hN HI2 HI hjn
      have HI := HI1
      clear HI1
      go_wp2_with (
        first
        | ((with_reducible refine gate_builtin (b := .append) (xs := #[.tmp 34, .tmp 35]) rfl ?_); at_builtin;
           refine Kd.Q_append (Kd.int .u8) (w0 := W) W.heap.size rfl (.tmp 34) (.tmp 35) 22 5 (.int .u8 0) 1 rfl Tryd.underlying22 info5 rfl (by decide) (by decide) _ rs 128 [.int .u8 128] (fun _ => True) (fun _ => False) rfl rfl rfl (fun _ hk => hk.elim) (fun _ _ => trivial) HI.out.q HI.out.hb (below_size HI.out.hb) ?hl ?_;
           (case hl => have := HLT.out; omega);
           intro v1 w1 hq hb hg hat; have HI1 := Aside0.mk (HI.out.grow hq hb hg (by simp)); clear hq hb hg hat HI))
      obtain ⟨R0, hR0⟩ : ∃ k : Nat, rs.length = k := ⟨_, rfl⟩
      have HR0 := Aside0.mk hR0
      have hr0 : R0 < 64 := by rw [← hR0]; exact HLT.out
      have hr1 : (N - R0) % 64 = 0 ∧ R0 ≤ N := by
        have := HI1.out.eats.len
        rw [List.length_append, List.length_append, HNL.out, hR0] at this
        simp only [List.length_cons, List.length_nil] at this
        omega
      clear hR0 HLT
      go_loopw [4] (fun r wr => ∃ (k : Nat) (rs : List Int), k ≤ (119 - N % 64) % 64 ∧ Aside0 (rs.length = R0 + 1 + k) ∧ Aside0 (OfInv gd gs W (ps.flatten ++ [128] ++ List.replicate k 0) s rs r wr)) (fun r _ => 200 - lenV r)
      case atStart => exact ⟨0, rs ++ [128], by omega, ⟨by rw [List.length_append, HR0.out]; rfl⟩, ⟨by simpa using HI1.out⟩⟩
      case round =>
        obtain ⟨k, rs, hk, HRL, HI⟩ := hrel
        clear HI1 HR0
        obtain ⟨B, cb, rfl, hle⟩ := Kd.Q_slice HI.out.q
        obtain ⟨L, hL⟩ : ∃ k : Nat, rs.length = k := ⟨_, rfl⟩
        have hL2 : L = R0 + 1 + k := by rw [← hL]; exact HRL.out
        have HRL2 := Aside0.mk hL
        have hLb : L < 200 := by omega
        rw [hL] at hle ⊢
        by_cases hz : k < (119 - N % 64) % 64
        · have hm : (L : Int) % 64 ≠ 56 := by omega
          have HL2 := Aside0.mk hL2
          clear hL hL2
          go_wp2_with (
            first
            | ((with_reducible refine gate_builtin (b := .append) (xs := #[.tmp 41, .tmp 42]) rfl ?_); at_builtin;
               refine Kd.Q_append (Kd.int .u8) (w0 := W) W.heap.size rfl (.tmp 41) (.tmp 42) 22 5 (.int .u8 0) 1 rfl Tryd.underlying22 info5 rfl (by decide) (by decide) _ rs 0 [.int .u8 0] (fun _ => True) (fun _ => False) (by rw [HRL2.out]; rfl) rfl rfl (fun _ hk => hk.elim) (fun _ _ => trivial) HI.out.q HI.out.hb (below_size HI.out.hb) ?hl ?_;
               (case hl => have := HRL2.out; omega);
               intro v1 w1 hq hb hg hat; have HI1 := Aside0.mk (HI.out.grow hq hb hg (by simp)); clear hq hb hg hat HI))
          refine ⟨⟨k + 1, rs ++ [0], by omega, ⟨?_⟩, ⟨?_⟩⟩, ?_⟩
          rotate_left
          · rw [List.replicate_succ', ← List.append_assoc]
            exact HI1.out
          · have e := HI1.out.lenV
            have h2 := HRL2.out
            rw [List.length_append, h2] at e
            show 200 - lenV v1 < 200 - L
            rw [e]
            simp only [List.length_cons, List.length_nil]
            omega
          · rw [List.length_append, HRL2.out, HL2.out]
            rfl
        · have hm : (L : Int) % 64 = 56 := by omega
          have hk2 : k = (119 - N % 64) % 64 := by omega
          have HI1 : Aside0 (OfInv gd gs W (padTo ps.flatten) s rs (.slice B L cb) wr) := ⟨by
            have := HI.out
            rw [hk2, ← HNL.out, HRL2.out] at this
            exact this⟩
          have hm2 : L % 64 = 56 := by omega
          have HM2 := Aside0.mk hm2
          clear hL hL2 hk2 HI hm2
          have hw8 : IntKind.u64.wrap (8 * (N : Int)) = 8 * (N : Int) := by rw [IntKind.wrap_u64]; omega
          go_wp2
          clear hm
          go_loopw [4, 8] (fun r i wr => ∃ (q : Nat) (rs : List Int), q ≤ 8 ∧ i = .int .i64 (56 - 8 * (q : Int)) ∧ Aside0 (rs.length = L + q) ∧ Aside0 (OfInv gd gs W (padTo ps.flatten ++ (len8 (8 * (N : Int))).take q) s rs r wr)) (fun _ i _ => (64 + intOf i).toNat)
          case atStart => exact ⟨0, rs, by omega, rfl, HRL2, ⟨by simpa using HI1.out⟩⟩
          case round =>
            obtain ⟨q, rs, hq, rfl, HRL, HI⟩ := hrel
            clear HI1 HRL2
            by_cases hq8 : q < 8
            · have hge : 0 ≤ 56 - 8 * (q : Int) := by omega
              have hs8 : IntKind.i64.wrap (56 - 8 * (q : Int) - 8) = 56 - 8 * (q : Int) - 8 := by rw [IntKind.wrap_i64]; omega
              obtain ⟨B, cb, rfl, hle⟩ := Kd.Q_slice HI.out.q
              go_wp2_with (
                first
                | ((with_reducible refine gate_builtin (b := .append) (xs := #[.tmp 48, .tmp 54]) rfl ?_); at_builtin;
                   refine Kd.Q_append (Kd.int .u8) (w0 := W) W.heap.size rfl (.tmp 48) (.tmp 54) 22 5 (.int .u8 0) 1 rfl Tryd.underlying22 info5 rfl (by decide) (by decide) _ rs (8 * (N : Int) / 2 ^ (56 - 8 * q) % 256) [.int .u8 (8 * (N : Int) / 2 ^ (56 - 8 * q) % 256)] (fun _ => True) (fun _ => False) rfl rfl rfl (fun _ hk => hk.elim) (fun _ _ => trivial) HI.out.q HI.out.hb (below_size HI.out.hb) ?hl ?_;
                   (case hl => have := HRL.out; omega);
                   intro v1 w1 hq hb hg hat; have HI1 := Aside0.mk (HI.out.grow hq hb hg (fun x hx => by rw [List.mem_singleton.1 hx]; omega)); clear hq hb hg hat HI))
              refine ⟨⟨q + 1, rs ++ [8 * (N : Int) / 2 ^ (56 - 8 * q) % 256], by omega, ?_, ⟨by rw [List.length_append, HRL.out]; rfl⟩, ⟨?_⟩⟩, by simp [intOf]; omega⟩
              · simp; omega
              · rw [len8_take _ q hq8, ← List.append_assoc]
                exact HI1.out
            · have hge : 56 - 8 * (q : Int) < 0 := by omega
              have hq2 : q = 8 := by omega
              have HI1 : Aside0 (OfInv gd gs W (padTo ps.flatten ++ len8 (8 * (N : Int))) s rs u4 wr) := ⟨by
                have := HI.out
                rwa [hq2, List.take_of_length_le (by rw [len8_len]; omega)] at this⟩
              have HR64 : Aside0 (rs.length % 64 = 0 ∧ rs.length < 300) := ⟨by rw [HRL.out, hq2]; have := HM2.out; omega⟩
              obtain ⟨MM, hMM⟩ : ∃ MM, padTo ps.flatten ++ len8 (8 * (N : Int)) = MM := ⟨_, rfl⟩
              have HMM := Aside0.mk hMM
              rw [hMM] at HI1
              clear hq2 HI HRL hMM
              go_wp2
              go_loopw [4] (fun r wr => ∃ (s rs : List Int), Aside0 (rs.length % 64 = 0 ∧ rs.length < 300) ∧ Aside0 (OfInv gd gs W MM s rs r wr)) (fun r _ => lenV r)
              case atStart => exact ⟨_, _, HR64, HI1⟩
              case round =>
                obtain ⟨s, rs, HR64, HI2⟩ := hrel
                clear HI1
                by_cases h0 : 0 < rs.length
                · obtain ⟨g, o, cb, v', rfl, hle, hpre, hcf, hct, hnext⟩ := HI2.out.cut HK.out (by have := HR64.out; omega)
                  have HPRE := Aside0.mk hpre
                  have HNEXT := Aside0.mk hnext
                  have h0i : 0 < (rs.length : Int) := by omega
                  clear hpre hnext
                  go_wp2_with (
                    first
                    | (go_at_call 34; (with_reducible refine (block_walk gs g o cb s (rs.take 64) _ HPRE.out).mono ?_); rintro e w4 ⟨rfl, hbs, hsz, hoth, hbel⟩;
                       have HI4 := Aside0.mk (HNEXT.out w4 hbs hsz hoth hbel); clear hbs hsz hoth hbel HNEXT HPRE))
                  exact ⟨⟨_, _, ⟨by rw [List.length_drop]; have := HR64.out; omega⟩, HI4⟩, by have e := HI4.out.lenV; rw [List.length_drop] at e; show lenV v' < rs.length; omega⟩
                · obtain rfl : rs = [] := List.eq_nil_of_length_eq_zero (by omega)
                  obtain ⟨B, cb, rfl, hle⟩ := Kd.Q_slice HI2.out.q
                  have HSO : Aside0 (shaOf ps.flatten = bytes32 s) := ⟨sha_of_eats (by rw [HNL.out, HMM.out]; exact HI2.out.eats)⟩
                  have HSS : Aside0 (s.length = 8 ∧ ∀ x ∈ s, U32 x) := ⟨HI2.out.eats.state init8_ok.1 init8_ok.2⟩
                  have HI3 : Aside0 (wr.heap[gd]? = some (.cells (arr (digTo s 0)) 25 (0, 0)) ∧ wr.heap[gs]? = some (.cells (arr32 s) 56 (0, 0)) ∧ Below W.heap.size W wr) := ⟨HI2.out.bd, HI2.out.bs, HI2.out.hb⟩
                  clear HI2 HR64
                  go_wp2
                  go_loopw [9, 64] (fun _ i wr => ∃ q : Nat, q ≤ 32 ∧ i = .int .i64 (q : Int) ∧ Aside0 (wr.heap[gd]? = some (.cells (arr (digTo s q)) 25 (0, 0)) ∧ wr.heap[gs]? = some (.cells (arr32 s) 56 (0, 0)) ∧ Below W.heap.size W wr)) (fun _ i _ => 32 - (intOf i).toNat)
                  case atStart => exact ⟨0, by omega, rfl, HI3⟩
                  case round =>
                    obtain ⟨q, hq, rfl, HI⟩ := hrel
                    clear HI3
                    by_cases hq32 : q < 32
                    · obtain ⟨x, ex⟩ : ∃ x, at_ s (q / 4) = x := ⟨_, rfl⟩
                      have cx : wr.cell? ⟨gs, q / 4, none⟩ = some (.int .u32 x) := by rw [← ex]; exact cell_of_32 HI.out.2.1 (q / 4) (by rw [HSS.out.1]; omega)
                      have hfz : wr.frozen? ⟨gd, q, none⟩ = false := blk_frozen HI.out.1 q
                      have cd : wr.cell? ⟨gd, q, none⟩ = some (.int .u8 (rd (digTo s q) (q : Int))) := (blk_cell HI.out.1 q).trans (arr_get _ q (by rw [digTo_len s q hq]; exact hq32))
                      have his : ∀ W, (Instr.indexAt 56 (.pointer (some ⟨gs, 0, none⟩)) (.int .i64 ((q : Int) / 4))).run Tryd.prog W = .ok (.pointer (some ⟨gs, q / 4, none⟩)) W := fun W => idx_arr Tryd.underlying56 (by kernel_rfl) (by kernel_rfl) gs (q / 4) (by omega) W
                      have hid := fun W => idx_dig gd q hq32 W
                      have EX := Aside0.mk ex
                      clear ex
                      go_wp2
                      refine ⟨⟨q + 1, by omega, by simp, ⟨?_, ?_, ?_⟩⟩, by simp [intOf]; omega⟩
                      · rw [← digTo_set s q hq32, EX.out]
                        refine blk_put HI.out.1 q _ ?_
                        simp [arr, List.map_set]
                      · exact (Below.heap_setCell _ ⟨gd, q, none⟩ _ gs (Ne.symm NE.out)).trans HI.out.2.1
                      · exact HI.out.2.2.setCell (p := ⟨gd, q, none⟩) GD.out _
                    · have hq2 : q = 32 := by omega
                      have BD : Aside0 (wr.heap[gd]? = some (.cells (arr (shaOf ps.flatten)) 25 (0, 0))) := ⟨by rw [HSO.out, ← digTo_end s, ← hq2]; exact HI.out.1⟩
                      have HB := Aside0.mk HI.out.2.2
                      clear HI hq2
                      go_wp2_with (
                        first
                        | ((with_reducible refine gate_dst (N := 80) rfl ?_); refine wpList_load_row rfl 25 (.tmp 2) rfl gd rfl 25 (arr (shaOf ps.flatten)) (0, 0) _ BD.out Tryd.underlying25 rfl (by rw [arr_size, sha_len]; exact info_dig) ?_)
                        | ((with_reducible refine gate_store (p := 2) rfl ?_); refine dig_store rfl (.tmp 2) (.tmp 80) rfl gd (shaOf ps.flatten) (shaOf ps.flatten) rfl rfl BD.out (sha_len _) (sha_len _) ?_; intro w5 bk hoth hbel; have BD5 := Aside0.mk bk; have HB5 := Aside0.mk (hbel _ _ HB.out GD.out); clear bk hoth hbel))
                      refine bodyPost_ret (results_c rfl _ _ gd 25 (arr (shaOf ps.flatten)) (0, 0) _ rfl BD5.out Tryd.underlying25 rfl (by rw [arr_size, sha_len]; exact info_dig)) rfl ?_
                      exact ⟨rfl, HB5.out⟩
end Go.Proofs.YtoaimcobcgomjaaDoor.Q
namespace Go.Proofs.YtoaimcobcgomjaaDoor.Q
open Go.RowKit Go.Proofs.YtoaimcobcgomjaaDoorW.PrintWords Go.Proofs.YtoaimcobcgomjaaDoorW.PrintLast Go.Proofs.YtoaimcobcgomjaaDoorW.PrintMore
set_option linter.unusedVariables false
set_option linter.unusedSimpArgs false
theorem dig_sha (m : List Int) : Dig (shaOf m) := ⟨sha_len m, sha_bound m⟩
theorem add_zero_i (g i : Nat) : (⟨g, 0, none⟩ : Addr).add i = ⟨g, i, none⟩ := add_zero_plain g i
theorem cell_of_obj {w : World} {g t : Nat} {cs : Array Value} {fr : Nat × Nat} (h : w.heap[g]? = some (.cells cs t fr)) (j : Nat) : w.cell? ⟨g, j, none⟩ = cs[j]? := by
  simp [World.cell?, h]
/-- Bytes in a block of their own are read. -/
theorem bytes_C {w : World} {g t : Nat} {bs : List Int} {fr : Nat × Nat} (h : w.heap[g]? = some (.cells (arr bs) t fr)) (hl : bs.length ≤ 9223372036854775807) : (Kd.int .u8).C w (some ⟨g, 0, none⟩) bs.length bs := by
  refine ⟨rfl, hl, fun _ => ⟨⟨g, 0, none⟩, rfl, fun j p hj => ⟨[.int .u8 p], rfl, rfl, fun i u hu => ?_⟩⟩⟩
  cases i with
  | succ i => simp at hu
  | zero =>
    obtain ⟨hjl, rfl⟩ := List.getElem?_eq_some_iff.1 hj
    simp only [List.getElem?_cons_zero, Option.some.injEq] at hu
    subst hu
    show w.cell? ((⟨g, 0, none⟩ : Addr).add (j * 1 + 0)) = _
    rw [add_zero_i, Nat.mul_one, Nat.add_zero, cell_of_obj h j, arr_get bs j hjl]
    simp [rd, hjl]
/-- Parts whose slices lie in a block of their own are read. -/
theorem parts_C {w : World} {g t : Nat} {cs : Array Value} {ps : List (List Int)} (h : w.heap[g]? = some (.cells cs t (0, 0))) (hl : ps.length ≤ 9223372036854775807)
    (hp : ∀ (j : Nat) (p : List Int), ps[j]? = some p → ∃ A c, cs[j]? = some (Value.slice A p.length c) ∧ p.length ≤ c ∧ (Kd.int .u8).C w A p.length p) : (Kd.slice 5 (Kd.int .u8)).C w (some ⟨g, 0, none⟩) ps.length ps := by
  refine ⟨rfl, hl, fun _ => ⟨⟨g, 0, none⟩, rfl, fun j p hj => ?_⟩⟩
  obtain ⟨A, c, hc, hle, hC⟩ := hp j p hj
  refine ⟨[.slice A p.length c], rfl, ⟨A, c, rfl, hle, hC⟩, fun i u hu => ?_⟩
  cases i with
  | succ i => simp at hu
  | zero =>
    simp only [List.getElem?_cons_zero, Option.some.injEq] at hu
    subst hu
    show w.cell? ((⟨g, 0, none⟩ : Addr).add (j * 1 + 0)) = _
    rw [add_zero_i, Nat.mul_one, Nat.add_zero, blk_cell h j, hc]
theorem none_C (w : World) : (Kd.slice 5 (Kd.int .u8)).C w none 0 [] := ⟨rfl, by omega, fun h => by omega⟩
theorem none_C1 (w : World) : (Kd.int .u8).C w none 0 [] := ⟨rfl, by omega, fun h => by omega⟩
/-- sha.Of of one part. -/
theorem of_one (g c : Nat) (A : Option Addr) (p : List Int) (n t cap : Nat) (W : World) (hn : p.length = n) (h : W.heap[g]? = some (.cells #[.slice A n c] t (0, 0))) (hle : n ≤ c) (hC : (Kd.int .u8).C W A n p) (hb : ∀ x ∈ p, 0 ≤ x ∧ x < 256) (hl : p.length < 1099511627776) (hk : KT W) :
    Calls Tryd.prog 13 #[.slice (some ⟨g, 0, none⟩) 1 cap] W fun e W' => e = .returned (.agg (arr (shaOf p))) ∧ Below W.heap.size W W' := by
  subst hn
  refine (of_walk (some ⟨g, 0, none⟩) 1 cap [p] W (parts_C h (by simp) fun j q hj => ?_) (by simpa using hb) (by simpa using hl) hk).mono fun e W' h => ⟨by rw [h.1]; simp, h.2⟩
  cases j with
  | zero =>
    obtain rfl : p = q := by simpa using hj
    exact ⟨A, c, rfl, hle, hC⟩
  | succ j => simp at hj
theorem blk_new1 (w : World) (o o' : Obj) : ((w.alloc o).alloc o').heap[w.heap.size + 1]? = some o' := by
  have h := blk_new (w.alloc o) o'
  rwa [World.size_alloc] at h
theorem below_new (w : World) (o : Obj) : Below w.heap.size w (w.alloc o) := below_alloc (Below.refl _ _) o
end Go.Proofs.YtoaimcobcgomjaaDoor.Q
namespace Go.Proofs.YtoaimcobcgomjaaDoor.Q
open Go.RowKit Go.Proofs.YtoaimcobcgomjaaDoorW.PrintWords Go.Proofs.YtoaimcobcgomjaaDoorW.PrintLast Go.Proofs.YtoaimcobcgomjaaDoorW.PrintMore
set_option linter.unusedVariables false
set_option linter.unusedSimpArgs false
theorem arr_cells (ds : List Int) (h : Dig ds) : arr ds = ((ds.map fun x => x.toNat.toUInt8).map Extern.Stop.cell).toArray := by
  unfold arr
  congr 1
  rw [List.map_map]
  apply List.map_congr_left
  intro x hx
  obtain ⟨h0, h1⟩ := h.2 x hx
  obtain ⟨n, rfl⟩ := Int.eq_ofNat_of_zero_le h0
  have hn : n < 256 := by omega
  simp [Function.comp, Extern.Stop.cell, Nat.mod_eq_of_lt hn]
set_option maxRecDepth 100000 in
theorem run_eql_dig (x y : List Int) (hx : Dig x) (hy : Dig y) (W : World) : (binOp .eql 25 (.agg (arr x)) (.agg (arr y))).run Tryd.prog W = .ok (.bool (decide (x = y))) W := by
  obtain ⟨i, hi, h1, h2, h3⟩ := info_parts info5
  rw [arr_cells x hx, arr_cells y hy, run_eql_bytes W 25 5 32 Tryd.underlying25 Tryd.underlying5 (fun w => by simp [sizeOf, typeInfo, hi, h2]) _ _ (by rw [List.length_map]; exact hx.1) (by rw [List.length_map]; exact hy.1)]
  congr 2
  rw [Bool.eq_iff_iff]
  simp only [beq_iff_eq, decide_eq_true_eq]
  constructor
  · intro h
    apply List.ext_getElem (by rw [hx.1, hy.1])
    intro j h1 h2
    have hj := congrArg (fun l => l[j]?) h
    simp only [List.getElem?_map, List.getElem?_eq_getElem h1, List.getElem?_eq_getElem h2, Option.map_some, Option.some.injEq] at hj
    have hxr := hx.2 _ (List.getElem_mem h1)
    have hyr := hy.2 _ (List.getElem_mem h2)
    have := congrArg UInt8.toNat hj
    simp at this
    omega
  · rintro rfl; rfl
theorem eqg_dig : Tryd.prog.eqGuardType Tryd.prog.depth 25 = false := by kernel_rfl
theorem zeros32_dig : Dig zeros32 := ⟨rfl, fun x hx => by have := List.eq_of_mem_replicate hx; omega⟩
end Go.Proofs.YtoaimcobcgomjaaDoor.Q
namespace Go.Proofs.YtoaimcobcgomjaaDoor.Q
open Go.RowKit Go.Proofs.YtoaimcobcgomjaaDoorW.PrintWords Go.Proofs.YtoaimcobcgomjaaDoorW.PrintLast Go.Proofs.YtoaimcobcgomjaaDoorW.PrintMore
set_option linter.unusedVariables false
set_option linter.unusedSimpArgs false
theorem blk_new2 (w : World) (o o' o'' : Obj) : (((w.alloc o).alloc o').alloc o'').heap[w.heap.size + 2]? = some o'' := by
  have h := blk_new1 (w.alloc o) o' o''
  rwa [World.size_alloc] at h
end Go.Proofs.YtoaimcobcgomjaaDoor.Q
namespace Go.Proofs.YtoaimcobcgomjaaDoor.Q
open Go.RowKit Go.Proofs.YtoaimcobcgomjaaDoorW.PrintWords Go.Proofs.YtoaimcobcgomjaaDoorW.PrintLast Go.Proofs.YtoaimcobcgomjaaDoorW.PrintMore
set_option linter.unusedVariables false
set_option linter.unusedSimpArgs false
/-- An argument of bytes: its slice reads as a list of bytes. -/
structure Bts (W : World) (A : Option Addr) (n c : Nat) (l : List Int) : Prop where
  rd_ : (Kd.int .u8).C W A n l
  le : n ≤ c
  by_ : ∀ x ∈ l, 0 ≤ x ∧ x < 256
theorem Bts.len {W : World} {A : Option Addr} {n c : Nat} {l : List Int} (h : Bts W A n c l) : l.length = n := h.rd_.1
theorem Bts.below {W w : World} {A : Option Addr} {n c : Nat} {l : List Int} (h : Bts W A n c l) (hb : Below W.heap.size W w) : Bts w A n c l := ⟨Kd.C_below h.rd_ hb, h.le, h.by_⟩
theorem Bts.none (W : World) : Bts W none 0 0 [] := ⟨none_C1 W, Nat.le_refl _, by simp⟩
theorem Q_form' {w : World} {base : Nat} {ok : Nat → Prop} {v : Value} {l : List Int} (h : (Kd.int .u8).Q 5 w base ok v l) : ∃ A n c, v = .slice A n c ∧ n = l.length := by
  obtain ⟨A, c, rfl, _⟩ := Kd.Q_slice h
  exact ⟨A, _, c, rfl, rfl⟩
theorem Q_bts {w : World} {base : Nat} {ok : Nat → Prop} {A : Option Addr} {n c : Nat} {l : List Int} (h : (Kd.int .u8).Q 5 w base ok (.slice A n c) l) (hb : ∀ x ∈ l, 0 ≤ x ∧ x < 256) : Bts w A n c l := by
  obtain ⟨h1, h2, h3⟩ := Kd.Q_reads' h
  exact ⟨h1 ▸ h3, h2, hb⟩
theorem of_1 (g c : Nat) (A : Option Addr) (p : List Int) (n t cap : Nat) (W : World) (h : W.heap[g]? = some (.cells #[.slice A n c] t (0, 0))) (b : Bts W A n c p) (hl : p.length < 1099511627776) (hk : KT W) :
    Calls Tryd.prog 13 #[.slice (some ⟨g, 0, none⟩) 1 cap] W fun e W' => e = .returned (.agg (arr (shaOf p))) ∧ Below W.heap.size W W' :=
  of_one g c A p n t cap W b.len h b.le b.rd_ b.by_ hl hk
theorem Bts.alloc {W : World} {A : Option Addr} {n c : Nat} {l : List Int} (h : Bts W A n c l) (o : Obj) : Bts (W.alloc o) A n c l := h.below (below_new W o)
section
variable {ops : Array Oper} {rest : List Oper} {o : Oper} {a : Act} {Q' : Exit → Act → World → Prop} {Kc : Act → World → Prop}
/-- append(v, l...) of bytes. -/
theorem Q_app {w0 W : World} (base : Nat) (hgd : o.guard = none) (s x : Operand) (ho : o.op = .call { callee := .builtin .append, args := #[s, x], argTypes := #[22, 22] }) (v : Value) (xs l : List Int) (A : Option Addr) (n c : Nat) (hs : a.eval s = v) (hx : a.eval x = .slice A n c)
    (HO : (Kd.int .u8).Q 5 W base (fun _ => True) v xs) (b : Bts W A n c l) (HB : Below base w0 W) (hbase : base ≤ W.heap.size) (hl : xs.length + n ≤ 140737488355328) (h : (∀ v1 w1, (Kd.int .u8).Q 5 w1 base (fun _ => True) v1 (xs ++ l) → Below base w0 w1 → W.grownBy w1 v.ownBlock → wpList Tryd.prog ops Q' rest (a.put o.dst v1) w1)) : wpList Tryd.prog ops Q' (o :: rest) a W :=
  Q_append_rows (Kd.int .u8) (w0 := w0) base hgd s x 22 5 (.int .u8 0) 1 ho Tryd.underlying22 info5 rfl (by decide) (by decide) v xs l A n c (fun _ => True) (fun _ => False) hs hx HO b.rd_ (fun _ _ h => h) (fun _ hk => hk.elim) (fun _ _ => trivial) HB hbase (by omega) (fun v1 w1 h1 h2 h3 _ => h v1 w1 h1 h2 h3)
end
end Go.Proofs.YtoaimcobcgomjaaDoor.Q
namespace Go.Proofs.YtoaimcobcgomjaaDoor.Q
open Go.RowKit Go.Proofs.YtoaimcobcgomjaaDoorW.PrintWords Go.Proofs.YtoaimcobcgomjaaDoorW.PrintLast Go.Proofs.YtoaimcobcgomjaaDoorW.PrintMore
set_option linter.unusedVariables false
set_option linter.unusedSimpArgs false
theorem idx_u8 {t n : Nat} (ht : Tryd.prog.underlying t = some (.array n 5)) (he : Tryd.prog.elem t = 5) (hn : Tryd.prog.arrayLen t = n) (g i : Nat) (hi : i < n) (W : World) : (Instr.indexAt t (.pointer (some ⟨g, 0, none⟩)) (.int .i64 (i : Int))).run Tryd.prog W = .ok (.pointer (some ⟨g, i, none⟩)) W := by
  have hs : (sizeOf 5).run Tryd.prog W = .ok 1 W := by
    obtain ⟨j, hj, h1⟩ := Option.map_eq_some_iff.1 (show (Tryd.prog.info? 5).map (·.size) = some 1 by kernel_rfl)
    simp [sizeOf, typeInfo, hj, h1]
  rw [run_indexAt_array W t _ _ _ (by rw [hn, he]; exact ht)]
  simp [hi, he, hn, hs, Result.andThen, add_zero_plain]
/-- The eight bytes of a number, the last q of them. -/
def tailTo (X q : Nat) : List Int := List.replicate (8 - q) 0 ++ (len8 (X : Int)).drop (8 - q)
theorem tailTo_len (X q : Nat) (hq : q ≤ 8) : (tailTo X q).length = 8 := by simp [tailTo, len8_len, hq]
theorem tailTo_zero (X : Nat) : tailTo X 0 = List.replicate 8 0 := by simp [tailTo, len8]
theorem tailTo_end (X : Nat) : tailTo X 8 = len8 (X : Int) := by simp [tailTo]
theorem tailTo_set (X q : Nat) (hq : q < 8) : (tailTo X q).set (7 - q) (((X / 256 ^ q : Nat) : Int) % 256) = tailTo X (q + 1) := by
  unfold tailTo
  have h1 : 8 - q = (7 - q) + 1 := by omega
  rw [show 8 - (q + 1) = 7 - q by omega, h1, List.replicate_succ', List.append_assoc, List.set_append_right _ _ (by simp), List.length_replicate, Nat.sub_self]
  rw [List.drop_eq_getElem_cons (i := 7 - q) (by rw [len8_len]; omega)]
  show List.replicate (7 - q) 0 ++ (_ :: _) = _
  congr 2
  simp only [len8, List.getElem_map, List.getElem_range]
  rw [show 56 - 8 * (7 - q) = 8 * q by omega, show (256 : Nat) ^ q = 2 ^ (8 * q) by rw [Nat.pow_mul], Int.natCast_ediv, Int.natCast_pow]
  rfl
structure PadInv (W : World) (l : List Int) (v : Value) (w : World) : Prop where
  q : (Kd.int .u8).Q 5 w W.heap.size (fun _ => True) v l
  hb : Below W.heap.size W w
set_option maxHeartbeats 16000000 in
set_option maxRecDepth 100000 in
theorem padded_walk (A : Option Addr) (n c : Nat) (l : List Int) (W : World) (hb : Bts W A n c l) (hl : l.length < 1099511627776) :
    Calls Tryd.prog 35 #[.slice A n c] W fun e W' => ∃ v, e = .returned v ∧ (Kd.int .u8).Q 5 W' W.heap.size (fun _ => True) v (padTo l ++ len8 (8 * l.length)) ∧ Below W.heap.size W W' := by
  have HA := Aside0.mk hb
  obtain ⟨L, hL⟩ : ∃ k, l.length = k := ⟨_, rfl⟩
  have hn : n = L := by rw [← hL]; exact hb.len.symm
  subst hn
  have HL := Aside0.mk hL
  rw [hL] at hl ⊢
  clear hb hL
  have HI : Aside0 (PadInv W [] (.slice none 0 0) W) := ⟨⟨Kd.Q_nil _ _ _ _ _, Below.refl _ _⟩⟩
  go_enter Tryd.func35, Tryd.ntmps35
  go_wp2_with (
    first
    | ((with_reducible refine gate_builtin (b := .append) (xs := #[.tmp 7, .tmp 8]) rfl ?_); at_builtin;
       refine Q_app (w0 := W) W.heap.size rfl (.tmp 7) (.tmp 8) rfl _ ([] : List Int) l A n c rfl rfl HI.out.q HA.out HI.out.hb (Nat.le_refl _) ?hl ?_;
       (case hl => simp only [List.length_nil]; omega);
       intro v1 w1 hq hb hg; obtain ⟨A0, m0, c0, rfl, hm0⟩ := Q_form' hq; have HI1 : Aside0 (PadInv W l (.slice A0 m0 c0) w1) := ⟨⟨hq, hb⟩⟩; clear hq hb hg hm0 HI; have HI := HI1; clear HI1)
    | ((with_reducible refine gate_builtin (b := .append) (xs := #[.tmp 10, .tmp 11]) rfl ?_); at_builtin;
       refine Kd.Q_append (Kd.int .u8) (w0 := W) W.heap.size rfl (.tmp 10) (.tmp 11) 22 5 (.int .u8 0) 1 rfl Tryd.underlying22 info5 rfl (by decide) (by decide) _ l 128 [.int .u8 128] (fun _ => True) (fun _ => False) rfl rfl rfl (fun _ hk => hk.elim) (fun _ _ => trivial) HI.out.q HI.out.hb (below_size HI.out.hb) ?hl2 ?_;
       (case hl2 => rw [HL.out]; omega);
       intro v1 w1 hq hb hg hat; have HI1 : Aside0 (PadInv W (l ++ [128]) v1 w1) := ⟨⟨hq, hb⟩⟩; clear hq hb hg hat HI; have HI := HI1; clear HI1))
  go_loopw [3] (fun r wr => ∃ (k : Nat), k ≤ (119 - n % 64) % 64 ∧ Aside0 (PadInv W (l ++ [128] ++ List.replicate k 0) r wr)) (fun r _ => n + 200 - lenV r)
  case atStart => exact ⟨0, by omega, ⟨by simpa using HI.out⟩⟩
  case round =>
    obtain ⟨k, hk, HI1⟩ := hrel
    clear HI
    obtain ⟨B, cb, rfl, hle⟩ := Kd.Q_slice HI1.out.q
    obtain ⟨M, hM⟩ : ∃ m : Nat, (l ++ [128] ++ List.replicate k 0).length = m := ⟨_, rfl⟩
    have hM2 : M = n + 1 + k := by rw [← hM, List.length_append, List.length_append, HL.out, List.length_replicate]; rfl
    have HM := Aside0.mk hM
    rw [hM] at hle ⊢
    clear hM
    have hMb : M < 1099511628000 := by omega
    by_cases hz : k < (119 - n % 64) % 64
    · have hm : (M : Int) % 64 ≠ 56 := by omega
      have HM2 := Aside0.mk hM2
      clear hM2
      go_wp2_with (
        first
        | ((with_reducible refine gate_builtin (b := .append) (xs := #[.tmp 17, .tmp 18]) rfl ?_); at_builtin;
           refine Kd.Q_append (Kd.int .u8) (w0 := W) W.heap.size rfl (.tmp 17) (.tmp 18) 22 5 (.int .u8 0) 1 rfl Tryd.underlying22 info5 rfl (by decide) (by decide) _ (l ++ [128] ++ List.replicate k 0) 0 [.int .u8 0] (fun _ => True) (fun _ => False) (by rw [HM.out]; rfl) rfl rfl (fun _ hk => hk.elim) (fun _ _ => trivial) HI1.out.q HI1.out.hb (below_size HI1.out.hb) ?hl3 ?_;
           (case hl3 => have := HM.out; omega);
           intro v1 w1 hq hb hg hat; have HI2 : Aside0 (PadInv W (l ++ [128] ++ List.replicate (k + 1) 0) v1 w1) := ⟨⟨by rw [List.replicate_succ', ← List.append_assoc]; exact hq, hb⟩⟩; clear hq hb hg hat HI1))
      refine ⟨⟨k + 1, by omega, HI2⟩, ?_⟩
      obtain ⟨B2, c2, rfl, _⟩ := Kd.Q_slice HI2.out.q
      have e1 : (l ++ [128] ++ List.replicate (k + 1) 0).length = n + 1 + (k + 1) := by rw [List.length_append, List.length_append, HL.out, List.length_replicate]; rfl
      have e2 := HM2.out
      show n + 200 - (l ++ [128] ++ List.replicate (k + 1) 0).length < n + 200 - M
      rw [e1, e2]
      omega
    · have hm : (M : Int) % 64 = 56 := by omega
      have hk2 : k = (119 - n % 64) % 64 := by omega
      have HI2 : Aside0 (PadInv W (padTo l) (.slice B M cb) wr) := ⟨by
        have := HI1.out
        rw [hk2, ← HL.out] at this
        have e : (l ++ [128] ++ List.replicate ((119 - l.length % 64) % 64) 0).length = M := by rw [HL.out, ← hk2]; exact HM.out
        rw [e] at this
        exact this⟩
      clear hk2 HI1 HM hM2
      have hw0 : IntKind.u64.wrap (n : Int) = (n : Int) := by rw [IntKind.wrap_u64]; omega
      have hw8 : IntKind.u64.wrap (8 * (n : Int)) = 8 * (n : Int) := by rw [IntKind.wrap_u64]; omega
      go_wp2_with (
        first
        | ((with_reducible refine gate_dst (N := 5) rfl ?_); refine box_event ?hg (N := 5) ?hd (cs := arr (List.replicate 8 0)) (t := 85) ?hr ?_; (case hd => rfl); (case hg => rfl); (case hr => first | (go_simp; done) | (go_simp; rfl));
           intro g5 hg w1 hbox hb; have B5 : Aside0 (w1.heap[g5]? = some (.cells (arr (tailTo (8 * n) 0)) 85 (0, 0))) := ⟨by rw [tailTo_zero]; exact hbox⟩; have G5 := Aside0.mk (show W.heap.size ≤ g5 by rw [hg]; exact below_size HI2.out.hb); have HQ : Aside0 (PadInv W (padTo l) (.slice B M cb) w1) := ⟨⟨Kd.Q_below HI2.out.q hb, below_step HI2.out.hb hb⟩⟩; clear hb hbox hg HI2))
      clear hm
      go_loopw [4, 6] (fun x i wr => ∃ q : Nat, q ≤ 8 ∧ i = .int .i64 (7 - (q : Int)) ∧ x = .int .u64 ((8 * n / 256 ^ q : Nat) : Int) ∧ Aside0 (wr.heap[g5]? = some (.cells (arr (tailTo (8 * n) q)) 85 (0, 0)) ∧ PadInv W (padTo l) (.slice B M cb) wr)) (fun _ i _ => (8 + intOf i).toNat)
      case atStart => exact ⟨0, by omega, rfl, by simp, ⟨B5.out, HQ.out⟩⟩
      case round =>
        obtain ⟨q, hq, rfl, rfl, HI3⟩ := hrel
        clear B5 HQ
        by_cases hq8 : q < 8
        · have hge : 0 ≤ 7 - (q : Int) := by omega
          have hs1 : IntKind.i64.wrap (7 - (q : Int) - 1) = 7 - (q : Int) - 1 := by rw [IntKind.wrap_i64]; omega
          have hxb : 8 * n / 256 ^ q ≤ 8 * n := Nat.div_le_self _ _
          have hxn : 8 * n / 256 ^ (q + 1) = 8 * n / 256 ^ q / 256 := by rw [Nat.pow_succ, Nat.div_div_eq_div_mul]
          have HXN := Aside0.mk hxn
          obtain ⟨x, hx⟩ : ∃ x : Nat, 8 * n / 256 ^ q = x := ⟨_, rfl⟩
          have HX := Aside0.mk hx
          rw [hx] at hxb ⊢
          clear hx hxn
          have hx1 : (x : Int) ≤ 9000000000000 := by omega
          have hfz : wr.frozen? ⟨g5, 7 - q, none⟩ = false := blk_frozen HI3.out.1 (7 - q)
          have cd : wr.cell? ⟨g5, 7 - q, none⟩ = some (.int .u8 (rd (tailTo (8 * n) q) ((7 - q : Nat) : Int))) := (blk_cell HI3.out.1 (7 - q)).trans (arr_get _ (7 - q) (by rw [tailTo_len _ q hq]; omega))
          have hid : ∀ W, (Instr.indexAt 85 (.pointer (some ⟨g5, 0, none⟩)) (.int .i64 (7 - (q : Int)))).run Tryd.prog W = .ok (.pointer (some ⟨g5, 7 - q, none⟩)) W := fun W => by
            have := idx_u8 Tryd.underlying85 (by kernel_rfl) (by kernel_rfl) g5 (7 - q) (by omega) W
            rwa [show ((7 - q : Nat) : Int) = 7 - (q : Int) by omega] at this
          go_wp2
          refine ⟨⟨q + 1, by omega, ?_, ?_, ⟨?_, ?_⟩⟩, by simp [intOf]; omega⟩
          · simp; omega
          · rw [HXN.out, HX.out]; simp
          · rw [← tailTo_set (8 * n) q hq8, HX.out]
            refine blk_put HI3.out.1 (7 - q) _ ?_
            simp [arr, List.map_set]
          · exact ⟨Kd.Q_set HI3.out.2.q HI3.out.1 (by decide) (7 - q) _, HI3.out.2.hb.setCell (p := ⟨g5, 7 - q, none⟩) G5.out _⟩
        · have hge : 7 - (q : Int) < 0 := by omega
          have hq2 : q = 8 := by omega
          have B8 : Aside0 (Bts wr (some ⟨g5, 0, none⟩) 8 8 (len8 (8 * (n : Int)))) := ⟨by
            have h1 := HI3.out.1
            rw [hq2, tailTo_end] at h1
            have h2 := bytes_C h1 (by rw [len8_len]; omega)
            rw [len8_len] at h2
            exact ⟨h2, Nat.le_refl _, len8_mem _⟩⟩
          have HQ := Aside0.mk HI3.out.2
          clear HI3 hq2
          go_wp2_with (
            first
            | ((with_reducible refine gate_builtin (b := .append) (xs := #[.tmp 35, .tmp 36]) rfl ?_); at_builtin;
               refine Q_app (w0 := W) W.heap.size rfl (.tmp 35) (.tmp 36) rfl _ (padTo l) (len8 (8 * (n : Int))) (some ⟨g5, 0, none⟩) 8 8 rfl rfl HQ.out.q B8.out HQ.out.hb (below_size HQ.out.hb) ?hl5 ?_;
               (case hl5 => rw [pad_len, HL.out]; omega);
               intro v1 w1 hq hb hg; have HF : Aside0 ((Kd.int .u8).Q 5 w1 W.heap.size (fun _ => True) v1 (padTo l ++ len8 (8 * (n : Int))) ∧ Below W.heap.size W w1) := ⟨⟨hq, hb⟩⟩; clear hq hb hg HQ))
          go_ret
          exact ⟨_, rfl, HF.out⟩
end Go.Proofs.YtoaimcobcgomjaaDoor.Q
namespace Go.Proofs.YtoaimcobcgomjaaDoor.Q
open Go.RowKit Go.Proofs.YtoaimcobcgomjaaDoorW.PrintWords Go.Proofs.YtoaimcobcgomjaaDoorW.PrintLast Go.Proofs.YtoaimcobcgomjaaDoorW.PrintMore
set_option linter.unusedVariables false
set_option linter.unusedSimpArgs false
theorem r8_load {o : Oper} {a : Act} {W : World} {x : Operand} {g : Nat} {ds : List Int} (ho : o.op = .load 55 x) (hx : a.eval x = .pointer (some ⟨g, 0, none⟩)) (hg : W.heap[g]? = some (.cells (arr32 ds) 55 (0, 0))) (hl : ds.length = 8) :
    (execOp a.eval o).run Tryd.prog W = .ok (.value (.agg (arr32 ds))) W := by
  unfold execOp
  simp only [ho, hx, Instr.loadAt, Instr.sureAddr, Sem.run_bind, Sem.run_pure, Result.andThen_ok, run_loadVar_row W g 55 55 (arr32 ds) (0, 0) _ hg Tryd.underlying55 rfl (by rw [arr32_size, hl]; exact info_r8)]
/-- 64 bytes out of a row. -/
theorem cut_mid (g o n c l : Nat) (h : l + 64 ≤ n) (hc : n ≤ c) (hm : c ≤ 9223372036854775807) (W : World) : (Instr.slice 22 (.slice (some ⟨g, o, none⟩) n c) (some (.int .i64 (l : Int))) (some (.int .i64 ((l : Int) + 64))) none).run Tryd.prog W = .ok (.slice (some ⟨g, o + l, none⟩) 64 (c - l)) W := by
  have hel : Tryd.prog.elem 22 = 5 := by kernel_rfl
  obtain ⟨j, hj, h1, h2, h3⟩ := info_parts info5
  rw [run_slice_lh W 22 _ n c (by rw [hel]; exact Tryd.underlying22) .i64 .i64 (l : Int) ((l : Int) + 64) (by omega) (by omega) (by omega)]
  have e1 : ((l : Int) + 64).toNat = l + 64 := by omega
  have e2 : ¬ c = l := by omega
  simp [hel, sizeOf, typeInfo, hj, h2, Result.andThen, sliced, e1, e2, Addr.add]
/-- What holds at the head of Sum's loop over the blocks: x lies in the state's block, s is the state that M has come to. -/
structure SumInv (g2 g3 g5 gp op mp cp : Nat) (W : World) (M x s r : List Int) (w : World) : Prop where
  b2 : w.heap[g2]? = some (.cells (arr (List.replicate 32 0)) 25 (0, 0))
  b3 : w.heap[g3]? = some (.cells (arr32 x) 55 (0, 0))
  b5 : w.heap[g5]? = some (.cells (arr32 K64) 59 (0, 0))
  q : (Kd.int .u8).Q 5 w W.heap.size (fun _ => True) (.slice (some ⟨gp, op, none⟩) mp cp) M
  hb : Below W.heap.size W w
  eats : Eats init8 M s r
  h2 : W.heap.size ≤ g2
  h3 : W.heap.size ≤ g3
  n23 : g2 ≠ g3
  n53 : g5 ≠ g3
section
variable {g2 g3 g5 gp op mp cp : Nat} {W w w1 : World} {M x s r : List Int}
theorem SumInv.below (h : SumInv g2 g3 g5 gp op mp cp W M x s r w) (hb : Below w.heap.size w w1) : SumInv g2 g3 g5 gp op mp cp W M x s r w1 :=
  ⟨blk_below h.b2 hb, blk_below h.b3 hb, blk_below h.b5 hb, Kd.Q_below h.q hb, below_step h.hb hb, h.eats, h.h2, h.h3, h.n23, h.n53⟩
theorem SumInv.drew (h : SumInv g2 g3 g5 gp op mp cp W M x s r w) : SumInv g2 g3 g5 gp op mp cp W M x s r w.drew :=
  ⟨blk_drew h.b2, blk_drew h.b3, blk_drew h.b5, Kd.Q_drew h.q, below_drew h.hb, h.eats, h.h2, h.h3, h.n23, h.n53⟩
/-- A block of its own written: the rest stays. -/
theorem SumInv.other {g t : Nat} {cs : Array Value} (h : SumInv g2 g3 g5 gp op mp cp W M x s r w) (hg : w.heap[g]? = some (.cells cs t (0, 0))) (ht : 5 ≠ t) (n2 : g2 ≠ g) (n3 : g3 ≠ g) (n5 : g5 ≠ g) (hk : ∀ k, k ≠ g → w1.heap[k]? = w.heap[k]?) (hb : Below W.heap.size W w1) : SumInv g2 g3 g5 gp op mp cp W M x s r w1 :=
  ⟨(hk _ n2).trans h.b2, (hk _ n3).trans h.b3, (hk _ n5).trans h.b5, Kd.Q_mono (Kd.Q_step (Kd.Q_types h.q hg (fun q hq => by simp [Kd.int, Kd.scalar] at hq; subst hq; exact ht)) (fun k hk' _ => hk k hk'.2)) (fun _ _ => trivial), hb, h.eats, h.h2, h.h3, h.n23, h.n53⟩
/-- A word of the state written. -/
theorem SumInv.put {t : Nat} {y : Int} (h : SumInv g2 g3 g5 gp op mp cp W M x s r w) : SumInv g2 g3 g5 gp op mp cp W M (x.set t y) s r (w.setCell ⟨g3, t, none⟩ (.int .u32 y)) :=
  ⟨(Below.heap_setCell _ ⟨g3, t, none⟩ _ g2 h.n23).trans h.b2, blk_put h.b3 t _ (arr32_set _ _ _), (Below.heap_setCell _ ⟨g3, t, none⟩ _ g5 h.n53).trans h.b5, Kd.Q_set h.q h.b3 (by decide) t _, h.hb.setCell (p := ⟨g3, t, none⟩) h.h3 _, h.eats, h.h2, h.h3, h.n23, h.n53⟩
end
theorem SumInv.sch {g2 g3 g5 gp op mp cp : Nat} {W w : World} {M x s : List Int} {k : Nat} (h : SumInv g2 g3 g5 gp op mp cp W M x s (M.drop (64 * k)) w) (hk : 64 * k + 64 ≤ M.length) (hm : ∀ x ∈ M, 0 ≤ x ∧ x < 256) : SchPre gp (op + 64 * k) ((M.drop (64 * k)).take 64) w := by
  obtain ⟨hmp, hlc, hrd⟩ := Kd.Q_reads' h.q
  refine ⟨fun j hj => ?_, by rw [List.length_take, List.length_drop]; omega, fun x hx => hm x (List.mem_of_mem_drop (List.mem_of_mem_take hx))⟩
  obtain ⟨ad, he, hy⟩ := Kd.at_int hrd ((64 * k + j : Nat) : Int) (by omega) (by omega)
  cases he
  rw [Int.toNat_natCast] at hy
  have e1 : (⟨gp, op, none⟩ : Addr).add (64 * k + j) = ⟨gp, op + 64 * k + j, none⟩ := by simp [Addr.add, Nat.add_assoc]
  have hjl : 64 * k + j < M.length := by omega
  have e2 : rd M ((64 * k + j : Nat) : Int) = at_ ((M.drop (64 * k)).take 64) j := by
    unfold at_ rd
    rw [Int.toNat_natCast, Int.toNat_natCast]
    simp [hj, hjl]
  rw [← e1, hy, e2]
def sum12_T : Bool × List (List Nat × List Nat) := (true, [([], []), ([], []), ([1], [1]), ([2], [2]), ([], []), ([4], [4]), ([5], [5]), ([0, 3, 6], [0, 3, 6]), ([7, 7, 0, 1, 2, 3, 4, 5, 6, 7], [7])])
def sum12_B : List Nat := [0, 0, 2, 6, 0, 16, 48, 127, 255]
theorem sum12_tab : rtab .any (opsOf Tryd.f14 12) = sum12_T := by kernel_rfl
theorem sum12_bits : waitsOk sum12_T.2 sum12_B = true := by kernel_rfl
def sum16_T : Bool × List (List Nat × List Nat) := (true, [([], []), ([0], [0]), ([1], [1]), ([], []), ([3], [3]), ([4], [4]), ([2, 5], [2, 5]), ([0, 0, 1, 2, 3, 4, 5, 6], [0]), ([7, 6, 0, 1, 2, 3, 4, 5, 6], [6, 7])])
def sum16_B : List Nat := [0, 1, 3, 0, 8, 24, 63, 127, 255]
theorem sum16_tab : rtab .any (opsOf Tryd.f14 16) = sum16_T := by kernel_rfl
theorem sum16_bits : waitsOk sum16_T.2 sum16_B = true := by kernel_rfl
set_option maxHeartbeats 16000000 in
set_option maxRecDepth 100000 in
theorem sum_walk (A : Option Addr) (n c : Nat) (l : List Int) (W : World) (hb : Bts W A n c l) (hl : l.length < 1099511627776) :
    Calls Tryd.prog 14 #[.slice A n c] W fun e W' => e = .returned (.agg (arr (shaOf l))) ∧ Below W.heap.size W W' := by
  have HA := Aside0.mk hb
  have HL := Aside0.mk hl
  have HB := Aside0.mk (Below.refl W.heap.size W)
  clear hb hl
  obtain ⟨M, hM⟩ : ∃ M, padTo l ++ len8 (8 * l.length) = M := ⟨_, rfl⟩
  have HM := Aside0.mk hM
  have HML : Aside0 (M.length % 64 = 0 ∧ 0 < M.length ∧ M.length < 1199511627776) := ⟨by rw [← hM, List.length_append, pad_len, len8_len]; have := HL.out; omega⟩
  have HMB : Aside0 (∀ x ∈ M, 0 ≤ x ∧ x < 256) := ⟨by rw [← hM]; exact fun x hx => (List.mem_append.1 hx).elim (padTo_mem HA.out.by_ x) (len8_mem _ x)⟩
  clear hM
  go_enter Tryd.func14, Tryd.ntmps14
  go_wp2_with (
    first
    | ((with_reducible refine gate_dst (N := 2) rfl ?_); refine box_event ?hg (N := 2) ?hd (cs := arr (List.replicate 32 0)) (t := 25) ?hr ?_; (case hd => rfl); (case hg => rfl); (case hr => first | (go_simp; done) | (go_simp; rfl));
                         intro g2 hg w1 hbox hb; have B2 := Aside0.mk hbox; have G2 := Aside0.mk (show W.heap.size ≤ g2 by rw [hg]; exact below_size HB.out); have HB1 := Aside0.mk (below_step HB.out hb); clear HB; have HB := HB1; clear HB1; clear hbox hg hb)
    | ((with_reducible refine gate_dst (N := 3) rfl ?_); refine box_event ?hg (N := 3) ?hd (cs := arr32 (List.replicate 8 0)) (t := 55) ?hr ?_; (case hd => rfl); (case hg => rfl); (case hr => first | (go_simp; done) | (go_simp; rfl));
                         intro g3 hg w1 hbox hb; have B3 := Aside0.mk hbox; have G3 := Aside0.mk (show W.heap.size ≤ g3 by rw [hg]; exact below_size HB.out); have NE := Aside0.mk (show g2 ≠ g3 by rw [hg]; exact Nat.ne_of_lt (blk_lt B2.out)); have n1 := Aside0.mk (blk_below B2.out hb); have HB1 := Aside0.mk (below_step HB.out hb); clear HB B2; have HB := HB1; have B2 := n1; clear HB1 n1; clear hbox hg hb)
    | ((with_reducible refine gate_store (p := 3) rfl ?_); refine r8_store rfl (.tmp 3) (.tmp 14) rfl g3 init8 (List.replicate 8 0) rfl rfl B3.out rfl rfl ?_; intro w3 bk hoth hbel; have n1 := Aside0.mk bk; have n2 := Aside0.mk ((hoth g2 NE.out).trans B2.out); have n3 := Aside0.mk (hbel _ _ HB.out G3.out); clear B3 B2 HB bk hoth hbel; have B3 := n1; have B2 := n2; have HB := n3; clear n1 n2 n3)
    | (go_at_call 35; (with_reducible refine (padded_walk A n c l _ (HA.out.below HB.out) HL.out).mono ?_); rintro e w4 ⟨v, rfl, hq, hb⟩;
       rw [HM.out] at hq;
       obtain ⟨gp, op, cp, rfl, _, _, _⟩ := Kd.Q_form hq HML.out.2.1; have HQ := Aside0.mk (Kd.Q_lower hq (below_size HB.out));
       have n1 := Aside0.mk (blk_below B2.out hb); have n2 := Aside0.mk (blk_below B3.out hb); have n3 := Aside0.mk (below_step HB.out hb); clear B2 B3 HB hq hb; have B2 := n1; have B3 := n2; have HB := n3; clear n1 n2 n3)
    | (go_at_call 36; (with_reducible refine (words_walk _).mono ?_); rintro e w5 ⟨rfl, hb⟩;
       have n0 := Aside0.mk (Kd.Q_below HQ.out hb); have n1 := Aside0.mk (blk_below B2.out hb); have n2 := Aside0.mk (blk_below B3.out hb); have n3 := Aside0.mk (below_step HB.out hb); clear HQ B2 B3 HB hb; have HQ := n0; have B2 := n1; have B3 := n2; have HB := n3; clear n0 n1 n2 n3)
    | ((with_reducible refine gate_dst (N := 5) rfl ?_); refine box_event ?hg (N := 5) ?hd (cs := arr32 (List.replicate 64 0)) (t := 59) ?hr ?_; (case hd => rfl); (case hg => rfl); (case hr => first | (go_simp; done) | (go_simp; rfl));
                         intro g5 hg w1 hbox hb; have B5 := Aside0.mk hbox; have G5 := Aside0.mk (show W.heap.size ≤ g5 by rw [hg]; exact below_size HB.out); have N25 := Aside0.mk (show g2 ≠ g5 by rw [hg]; exact Nat.ne_of_lt (blk_lt B2.out)); have N35 := Aside0.mk (show g3 ≠ g5 by rw [hg]; exact Nat.ne_of_lt (blk_lt B3.out)); have n0 := Aside0.mk (Kd.Q_below HQ.out hb); have n1 := Aside0.mk (blk_below B2.out hb); have n2 := Aside0.mk (blk_below B3.out hb); have HB1 := Aside0.mk (below_step HB.out hb); clear HB B2 B3 HQ; have HB := HB1; have B2 := n1; have B3 := n2; have HQ := n0; clear HB1 n0 n1 n2; clear hbox hg hb)
    | ((with_reducible refine gate_store (p := 5) rfl ?_); refine w64_store rfl (.tmp 5) (.tmp 17) rfl g5 K64 (List.replicate 64 0) rfl rfl B5.out K64_len (by simp) ?_; intro w3 bk hoth hbel;
       have n0 : Aside0 ((Kd.int .u8).Q 5 w3 W.heap.size (fun _ => True) (.slice (some ⟨gp, op, none⟩) M.length cp) M) := ⟨Kd.Q_mono (Kd.Q_step (Kd.Q_types HQ.out B5.out (by decide)) (fun k hk _ => hoth k hk.2)) (fun _ _ => trivial)⟩;
       have n1 := Aside0.mk bk; have n2 := Aside0.mk ((hoth g2 N25.out).trans B2.out); have n4 := Aside0.mk ((hoth g3 N35.out).trans B3.out); have n3 := Aside0.mk (hbel _ _ HB.out G5.out); clear HQ B5 B3 B2 HB bk hoth hbel; have HQ := n0; have B5 := n1; have B2 := n2; have B3 := n4; have HB := n3; clear n0 n1 n2 n3 n4))
  obtain ⟨mp, hmp⟩ : ∃ k, M.length = k := ⟨_, rfl⟩
  have HMP := Aside0.mk hmp
  have HI : Aside0 (SumInv g2 g3 g5 gp op mp cp W M init8 init8 (M.drop (64 * 0)) w3) := ⟨⟨B2.out, B3.out, B5.out, hmp ▸ HQ.out, HB.out, .stay _ _, G2.out, G3.out, NE.out, Ne.symm N35.out⟩⟩
  rw [hmp]
  have hmlb := HML.out
  rw [hmp] at hmlb
  obtain ⟨hm64, hm0, hm41⟩ := hmlb
  have HM64 := Aside0.mk hm64
  have HCP : Aside0 (mp ≤ cp ∧ cp ≤ 9223372036854775807) := ⟨by
    obtain ⟨_, h1, _⟩ := Kd.Q_reads' HI.out.q
    obtain ⟨_, inner, ho, _⟩ := HI.out.q
    refine ⟨h1, ?_⟩
    rcases ho.2 with ⟨h0, _⟩ | ⟨g, off, cap, cur, he, _, _, _, hm, _⟩
    · omega
    · injection he with _ _ he
      subst he
      unfold maxLen at hm
      omega⟩
  clear B2 B3 B5 HQ HB hmp hm64 hm0
  go_loopw [6, 7, 8, 9, 10] (fun i _ _ _ _ wr => ∃ (k : Nat) (s : List Int), 64 * k ≤ mp ∧ i = .int .i64 ((64 * k : Nat) : Int) ∧ Aside0 (SumInv g2 g3 g5 gp op mp cp W M s s (M.drop (64 * k)) wr)) (fun i _ _ _ _ _ => mp - (intOf i).toNat)
  case atStart => exact ⟨0, init8, by omega, rfl, HI⟩
  case round =>
    obtain ⟨k, s, hk, rfl, HI1⟩ := hrel
    clear HI
    by_cases hlt : 64 * k < mp
    · have hk64 : 64 * k + 64 ≤ mp := by have := HM64.out; omega
      obtain ⟨at64, hat⟩ : ∃ a, 64 * k = a := ⟨_, rfl⟩
      have hsl : ∀ W : World, (Instr.slice 22 (.slice (some ⟨gp, op, none⟩) mp cp) (some (.int .i64 (at64 : Int))) (some (.int .i64 ((at64 : Int) + 64))) none).run Tryd.prog W = .ok (.slice (some ⟨gp, op + at64, none⟩) 64 (cp - at64)) W := fun W => cut_mid gp op mp cp at64 (by omega) HCP.out.1 HCP.out.2 W
      have hw64 : IntKind.i64.wrap ((at64 : Int) + 64) = (at64 : Int) + 64 := by rw [IntKind.wrap_i64]; omega
      obtain ⟨b, hb⟩ : ∃ b, (M.drop (64 * k)).take 64 = b := ⟨_, rfl⟩
      have HSP : Aside0 (SchPre gp (op + at64) b wr) := ⟨by rw [← hb, ← hat]; exact HI1.out.sch (by rw [HMP.out]; exact hk64) HMB.out⟩
      obtain ⟨ss, su⟩ := HI1.out.eats.state init8_ok.1 init8_ok.2
      have HSL := Aside0.mk ss
      have HSU := Aside0.mk su
      obtain ⟨ws, hws⟩ : ∃ ws, schedTo b 64 = ws := ⟨_, rfl⟩
      have HWS := Aside0.mk hws
      have HWL : Aside0 (ws.length = 64) := ⟨by rw [← hws]; exact schedTo_length b 64⟩
      have HWU : Aside0 (∀ x ∈ ws, U32 x) := ⟨by rw [← hws]; exact sched_u32 b 64⟩
      have HAT := Aside0.mk hat
      have HBB := Aside0.mk hb
      have hlt2 : at64 < mp := by omega
      rw [hat]
      clear ss su hws hb hat hlt hk64
      go_wp2_with (
        first
        | (go_at_call 37; (with_reducible refine (schedule_walk gp (op + at64) (cp - at64) b _ HSP.out).mono ?_); rintro e w4 ⟨rfl, hb⟩; rw [HWS.out]; have n1 := Aside0.mk (HI1.out.below hb); clear HI1 hb; have HI1 := n1; clear n1)
        | ((with_reducible refine gate_dst (N := 7) rfl ?_); refine box_event ?hg (N := 7) ?hd (cs := arr32 (List.replicate 64 0)) (t := 59) ?hr ?_; (case hd => rfl); (case hg => rfl); (case hr => first | (go_simp; done) | (go_simp; rfl));
                         intro g7 hg w1 hbox hb; have B7 := Aside0.mk hbox; have G7 := Aside0.mk (show W.heap.size ≤ g7 by rw [hg]; exact below_size HI1.out.hb); have N27 := Aside0.mk (show g2 ≠ g7 by rw [hg]; exact Nat.ne_of_lt (blk_lt HI1.out.b2)); have N37 := Aside0.mk (show g3 ≠ g7 by rw [hg]; exact Nat.ne_of_lt (blk_lt HI1.out.b3)); have N57 := Aside0.mk (show g5 ≠ g7 by rw [hg]; exact Nat.ne_of_lt (blk_lt HI1.out.b5)); have n0 := Aside0.mk (HI1.out.below hb); clear HI1; have HI1 := n0; clear n0; clear hbox hg hb)
        | ((with_reducible refine gate_store (p := 7) rfl ?_); refine w64_store rfl (.tmp 7) (.tmp 29) rfl g7 ws (List.replicate 64 0) rfl rfl B7.out HWL.out (by simp) ?_; intro w3 bk hoth hbel;
           have n0 := Aside0.mk (HI1.out.other B7.out (by decide) N27.out N37.out N57.out hoth (hbel _ _ HI1.out.hb G7.out)); have n1 := Aside0.mk bk; clear HI1 B7 bk hoth hbel; have HI1 := n0; have B7 := n1; clear n0 n1)
        | ((with_reducible refine gate_dst (N := 30) rfl ?_); refine wpList_load_row rfl 55 (.tmp 3) rfl g3 rfl 55 (arr32 s) (0, 0) _ HI1.out.b3 Tryd.underlying55 rfl (by rw [arr32_size, HSL.out]; exact info_r8) ?_)
        | ((with_reducible refine gate_dst (N := 8) rfl ?_); refine box_event ?hg (N := 8) ?hd (cs := arr32 (List.replicate 8 0)) (t := 55) ?hr ?_; (case hd => rfl); (case hg => rfl); (case hr => first | (go_simp; done) | (go_simp; rfl));
                         intro g8 hg w1 hbox hb; have B8 := Aside0.mk hbox; have G8 := Aside0.mk (show W.heap.size ≤ g8 by rw [hg]; exact below_size HI1.out.hb); have N28 := Aside0.mk (show g2 ≠ g8 by rw [hg]; exact Nat.ne_of_lt (blk_lt HI1.out.b2)); have N38 := Aside0.mk (show g3 ≠ g8 by rw [hg]; exact Nat.ne_of_lt (blk_lt HI1.out.b3)); have N58 := Aside0.mk (show g5 ≠ g8 by rw [hg]; exact Nat.ne_of_lt (blk_lt HI1.out.b5)); have N78 := Aside0.mk (show g7 ≠ g8 by rw [hg]; exact Nat.ne_of_lt (blk_lt B7.out)); have n1 := Aside0.mk (blk_below B7.out hb); have n0 := Aside0.mk (HI1.out.below hb); clear HI1 B7; have HI1 := n0; have B7 := n1; clear n0 n1; clear hbox hg hb)
        | ((with_reducible refine gate_store (p := 8) rfl ?_); refine r8_store rfl (.tmp 8) (.tmp 30) rfl g8 s (List.replicate 8 0) rfl rfl B8.out HSL.out (by simp) ?_; intro w3 bk hoth hbel;
           have n0 := Aside0.mk (HI1.out.other B8.out (by decide) N28.out N38.out N58.out hoth (hbel _ _ HI1.out.hb G8.out)); have n1 := Aside0.mk bk; have n2 := Aside0.mk ((hoth g7 N78.out).trans B7.out); clear HI1 B8 B7 bk hoth hbel; have HI1 := n0; have B8 := n1; have B7 := n2; clear n0 n1 n2))
      go_loopw [9] (fun i wr => ∃ t : Nat, t ≤ 64 ∧ i = .int .i64 (t : Int) ∧ Aside0 (wr.heap[g8]? = some (.cells (arr32 (rounds s ws t)) 55 (0, 0))) ∧ Aside0 (wr.heap[g7]? = some (.cells (arr32 ws) 59 (0, 0))) ∧ Aside0 (SumInv g2 g3 g5 gp op mp cp W M s s (M.drop (64 * k)) wr)) (fun i _ => 64 - (intOf i).toNat)
      case atStart => exact ⟨0, by omega, rfl, B8, B7, HI1⟩
      case round =>
        obtain ⟨t, ht, rfl, B8n, B7n, HIn⟩ := hrel
        clear B8 B7 HI1
        have B8 := B8n
        have B7 := B7n
        have HI1 := HIn
        clear B8n B7n HIn
        by_cases hlt64 : t < 64
        · have hvl := rounds_length s ws HSL.out t
          have hvu := rounds_u32 s ws HSL.out HSU.out t
          obtain ⟨v, hv⟩ : ∃ v, rounds s ws t = v := ⟨_, rfl⟩
          rw [hv] at hvl hvu B8
          have HVL := Aside0.mk hvl
          have HVU := Aside0.mk hvu
          have HV := Aside0.mk hv
          obtain ⟨kt, ekt⟩ : ∃ x, at_ K64 t = x := ⟨_, rfl⟩
          obtain ⟨wt, ewt⟩ : ∃ x, at_ ws t = x := ⟨_, rfl⟩
          have ck : wr.drew.cell? ⟨g5, t, none⟩ = some (.int .u32 kt) := by rw [← ekt]; exact cell_of_32 (blk_drew HI1.out.b5) t (by rw [K64_len]; exact hlt64)
          have cw : wr.drew.cell? ⟨g7, t, none⟩ = some (.int .u32 wt) := by rw [← ewt]; exact cell_of_32 (blk_drew B7.out) t (by rw [HWL.out]; exact hlt64)
          have i5 := fun W => idx_arr Tryd.underlying59 (by kernel_rfl) (by kernel_rfl) g5 t hlt64 W
          have i7 := fun W => idx_arr Tryd.underlying59 (by kernel_rfl) (by kernel_rfl) g7 t hlt64 W
          have EK := Aside0.mk ekt
          have EW := Aside0.mk ewt
          clear ekt ewt hv hvl hvu
          go_wp2
          refine start_ (n := 9) (S := fun w' => w'.heap[g8]? = some (.cells (arr32 v) 55 (0, 0)) ∧ w'.cell? ⟨g5, t, none⟩ = some (.int .u32 kt) ∧ w'.cell? ⟨g7, t, none⟩ = some (.int .u32 wt)) (ds := [8]) #[false, false, false, false, false, false, false, false, false] (by kernel_rfl) rfl rfl ⟨blk_drew B8.out, ck, cw⟩ (fun hHeld => ?_)
          refine with_tabW sum12_tab sum12_bits (fun HT_ HW_ => ?_)
          refine pure_ (i := 1) (N := (some 36)) (v := ?_) (a' := ?_) #[false, true, false, false, false, false, false, false, false] rfl rfl (any_of HT_.out (by kernel_rfl)) (fun _ _ _ h => h) (Or.inl ⟨by rfl, ?_⟩) ?_ ?_
          rotate_left
          · intro w'
            go_simp
            first | with_reducible rfl | (simp; done) | rfl
          rotate_left
          · simp only [Act.put, List.setIfInBounds_toArray, List.set_cons_zero, List.set_cons_succ, i64_w, i32_w]
            rfl
          refine pure_ (i := 2) (N := (some 37)) (v := ?_) (a' := ?_) #[false, true, true, false, false, false, false, false, false] rfl rfl (any_of HT_.out (by kernel_rfl)) (fun _ _ _ h => h) (Or.inl ⟨by rfl, ?_⟩) ?_ ?_
          rotate_left
          · intro w'
            go_simp
            first | with_reducible rfl | (simp; done) | rfl
          rotate_left
          · simp only [Act.put, List.setIfInBounds_toArray, List.set_cons_zero, List.set_cons_succ, i64_w, i32_w]
            rfl
          refine pure_ (i := 4) (N := (some 39)) (v := ?_) (a' := ?_) #[false, true, true, false, true, false, false, false, false] rfl rfl (any_of HT_.out (by kernel_rfl)) (fun _ _ _ h => h) (Or.inl ⟨by rfl, ?_⟩) ?_ ?_
          rotate_left
          · intro w'
            go_simp
            first | with_reducible rfl | (simp; done) | rfl
          rotate_left
          · simp only [Act.put, List.setIfInBounds_toArray, List.set_cons_zero, List.set_cons_succ, i64_w, i32_w]
            rfl
          refine pure_ (i := 5) (N := (some 40)) (v := ?_) (a' := ?_) #[false, true, true, false, true, true, false, false, false] rfl rfl (any_of HT_.out (by kernel_rfl)) (fun _ _ _ h => h) (Or.inl ⟨by rfl, ?_⟩) ?_ ?_
          rotate_left
          · intro w'
            go_simp
            first | with_reducible rfl | (simp; done) | rfl
          rotate_left
          · simp only [Act.put, List.setIfInBounds_toArray, List.set_cons_zero, List.set_cons_succ, i64_w, i32_w]
            rfl
          refine take_ (i := 3) (N := (some 38)) (v := ?_) (a' := ?_) #[false, true, true, true, true, true, false, false, false] rfl rfl (take_ofW HT_.out HW_.out (by kernel_rfl)) (fun _ _ _ h => h) (Or.inl ⟨by rfl, ?_⟩) hHeld ?_ ?_
          rotate_left
          · rintro w' ⟨s0, s1, s2⟩
            go_simp
            with_reducible rfl
          rotate_left
          · simp only [Act.put, List.setIfInBounds_toArray, List.set_cons_zero, List.set_cons_succ, i64_w, i32_w]
            rfl
          refine take_ (i := 6) (N := (some 41)) (v := ?_) (a' := ?_) #[false, true, true, true, true, true, true, false, false] rfl rfl (take_ofW HT_.out HW_.out (by kernel_rfl)) (fun _ _ _ h => h) (Or.inl ⟨by rfl, ?_⟩) hHeld ?_ ?_
          rotate_left
          · rintro w' ⟨s0, s1, s2⟩
            go_simp
            with_reducible rfl
          rotate_left
          · simp only [Act.put, List.setIfInBounds_toArray, List.set_cons_zero, List.set_cons_succ, i64_w, i32_w]
            rfl
          refine take_ (i := 0) (N := (some 35)) (v := ?_) (a' := ?_) #[true, true, true, true, true, true, true, false, false] rfl rfl (take_ofW HT_.out HW_.out (by kernel_rfl)) (fun _ _ _ h => h) (Or.inl ⟨by rfl, ?_⟩) hHeld ?_ ?_
          rotate_left
          · rintro w' ⟨s0, s1, s2⟩
            refine r8_load (x := .tmp 8) ?_ ?_ s0 HVL.out <;> rfl
          rotate_left
          · simp only [Act.put, List.setIfInBounds_toArray, List.set_cons_zero, List.set_cons_succ, i64_w, i32_w]
            rfl
          refine one_ (i := 7) (N := (some 42)) #[true, true, true, true, true, true, true, true, false] rfl rfl (one_of HT_.out (by kernel_rfl)) (by decide) (fun K hK => ?_)
          refine goes_ Tryd.func38 (by kernel_rfl) rfl #[.agg (arr32 v), .int .u32 kt, .int .u32 wt] (by rfl) rfl rfl (by (try simp only [List.map_toArray, List.map_cons, List.map_nil]); first | done | rfl) ?_
          with_reducible refine (round_walk v kt wt HVL.out HVU.out _).mono ?_
          rintro e0 wx ⟨rfl, hb⟩
          refine ⟨_, rfl, ?_⟩
          have HX := Aside0.mk hb
          clear hb
          refine hK.out _ _ ⟨blk_below (blk_drew B8.out) HX.out, (HX.out.cell (World.block_lt_of_cell? _ _ ck)).trans ck, (HX.out.cell (World.block_lt_of_cell? _ _ cw)).trans cw⟩ (fun hHeld => ?_)
          clear hK K
          refine norm_ (a' := ?_) ?_ ?_
          rotate_left
          · show Act.put _ (some 42) _ = _
            simp only [Act.put, List.setIfInBounds_toArray, List.set_cons_zero, List.set_cons_succ, i64_w, i32_w]
            rfl
          refine last_ (i := 8) (N := none) #[true, true, true, true, true, true, true, true, true] rfl rfl (one_of HT_.out (by kernel_rfl)) (by decide) (fun K hK => ?_)
          rw [if_pos (by rfl)]
          refine wp_store_row 55 (.tmp 8) (.tmp 42) rfl g8 (arr32 (rnd v kt wt)) rfl rfl 55 (arr32 v) (blk_below (blk_drew B8.out) HX.out) (by rw [arr32_size]; exact info_r8) (by rw [arr32_size, arr32_size, HVL.out]; rfl) (by simp [arr32, Value.oneCell']) ?_
          refine hK.out _ _ ?_
          clear hK K
          refine done_ (done_of HT_.out (by kernel_rfl)) ?_
          go_wp2
          refine ⟨⟨t + 1, by omega, by simp, ⟨?_⟩, ⟨?_⟩, ⟨?_⟩⟩, by simp [intOf]; omega⟩
          · have e : rounds s ws (t + 1) = rnd v kt wt := by show rnd (rounds s ws t) _ _ = _; rw [HV.out, EK.out, EW.out]
            rw [e]
            exact setRow_heap _ g8 _ _ _ _ (blk_below (blk_drew B8.out) HX.out)
          · exact (setRow_other _ g8 g7 _ N78.out).trans (blk_below (blk_drew B7.out) HX.out)
          · exact (HI1.out.drew.below HX.out).other (blk_below (blk_drew B8.out) HX.out) (by decide) N28.out N38.out N58.out (fun k hk => setRow_other _ g8 k _ hk) (below_setRow (HI1.out.drew.below HX.out).hb G8.out _)
        · obtain rfl : t = 64 := by omega
          have hvl := rounds_length s ws HSL.out 64
          obtain ⟨v, hv⟩ : ∃ v, rounds s ws 64 = v := ⟨_, rfl⟩
          have HCPR : Aside0 (compress s b = outTo s v 8) := ⟨by
            unfold compress outTo
            rw [HWS.out, hv]
            apply List.map_congr_left
            intro i hi
            rw [if_pos (List.mem_range.1 hi)]⟩
          rw [hv] at hvl B8
          have HVL := Aside0.mk hvl
          have HI2 : Aside0 (SumInv g2 g3 g5 gp op mp cp W M (outTo s v 0) s (M.drop (64 * k)) wr) := ⟨by rw [outTo_zero s v HSL.out]; exact HI1.out⟩
          clear hv hvl HI1 B7
          go_wp2
          go_loopw [10] (fun i wr => ∃ t : Nat, t ≤ 8 ∧ i = .int .i64 (t : Int) ∧ Aside0 (wr.heap[g8]? = some (.cells (arr32 v) 55 (0, 0))) ∧ Aside0 (SumInv g2 g3 g5 gp op mp cp W M (outTo s v t) s (M.drop (64 * k)) wr)) (fun i _ => 8 - (intOf i).toNat)
          case atStart => exact ⟨0, by omega, rfl, B8, HI2⟩
          case round =>
            obtain ⟨t, ht, rfl, B8n, HIn⟩ := hrel
            clear B8 HI2
            have B8 := B8n
            have HI2 := HIn
            clear B8n HIn
            by_cases ht8 : t < 8
            · obtain ⟨a, ea⟩ : ∃ x, at_ s t = x := ⟨_, rfl⟩
              obtain ⟨x, ex⟩ : ∃ x, at_ v t = x := ⟨_, rfl⟩
              have ca : wr.drew.cell? ⟨g3, t, none⟩ = some (.int .u32 a) := by rw [← ea, ← outTo_at s v t ht8]; exact cell_of_32 (blk_drew HI2.out.b3) t (by rw [outTo_length]; exact ht8)
              have cx : wr.drew.cell? ⟨g8, t, none⟩ = some (.int .u32 x) := by rw [← ex]; exact cell_of_32 (blk_drew B8.out) t (by rw [HVL.out]; exact ht8)
              have hfz : wr.drew.frozen? ⟨g3, t, none⟩ = false := blk_frozen (blk_drew HI2.out.b3) t
              have i3 := fun W => idx_arr Tryd.underlying55 (by kernel_rfl) (by kernel_rfl) g3 t ht8 W
              have i8 := fun W => idx_arr Tryd.underlying55 (by kernel_rfl) (by kernel_rfl) g8 t ht8 W
              have EA := Aside0.mk ea
              have EX := Aside0.mk ex
              clear ea ex
              go_wp2
              refine start_ (n := 9) (S := fun w' => w'.cell? ⟨g3, t, none⟩ = some (.int .u32 a) ∧ w'.cell? ⟨g8, t, none⟩ = some (.int .u32 x)) (ds := [8]) #[false, false, false, false, false, false, false, false, false] (by kernel_rfl) rfl rfl ⟨ca, cx⟩ (fun hHeld => ?_)
              refine with_tabW sum16_tab sum16_bits (fun HT_ HW_ => ?_)
              refine pure_ (i := 0) (N := (some 47)) (v := ?_) (a' := ?_) #[true, false, false, false, false, false, false, false, false] rfl rfl (any_of HT_.out (by kernel_rfl)) (fun _ _ _ h => h) (Or.inl ⟨by rfl, ?_⟩) ?_ ?_
              rotate_left
              · intro w'
                go_simp
                first | with_reducible rfl | (simp; done) | rfl
              rotate_left
              · simp only [Act.put, List.setIfInBounds_toArray, List.set_cons_zero, List.set_cons_succ, i64_w, i32_w]
                rfl
              refine pure_ (i := 1) (N := (some 48)) (v := ?_) (a' := ?_) #[true, true, false, false, false, false, false, false, false] rfl rfl (any_of HT_.out (by kernel_rfl)) (fun _ _ _ h => h) (Or.inl ⟨by rfl, ?_⟩) ?_ ?_
              rotate_left
              · intro w'
                go_simp
                first | with_reducible rfl | (simp; done) | rfl
              rotate_left
              · simp only [Act.put, List.setIfInBounds_toArray, List.set_cons_zero, List.set_cons_succ, i64_w, i32_w]
                rfl
              refine pure_ (i := 3) (N := (some 50)) (v := ?_) (a' := ?_) #[true, true, false, true, false, false, false, false, false] rfl rfl (any_of HT_.out (by kernel_rfl)) (fun _ _ _ h => h) (Or.inl ⟨by rfl, ?_⟩) ?_ ?_
              rotate_left
              · intro w'
                go_simp
                first | with_reducible rfl | (simp; done) | rfl
              rotate_left
              · simp only [Act.put, List.setIfInBounds_toArray, List.set_cons_zero, List.set_cons_succ, i64_w, i32_w]
                rfl
              refine pure_ (i := 4) (N := (some 51)) (v := ?_) (a' := ?_) #[true, true, false, true, true, false, false, false, false] rfl rfl (any_of HT_.out (by kernel_rfl)) (fun _ _ _ h => h) (Or.inl ⟨by rfl, ?_⟩) ?_ ?_
              rotate_left
              · intro w'
                go_simp
                first | with_reducible rfl | (simp; done) | rfl
              rotate_left
              · simp only [Act.put, List.setIfInBounds_toArray, List.set_cons_zero, List.set_cons_succ, i64_w, i32_w]
                rfl
              refine take_ (i := 2) (N := (some 49)) (v := ?_) (a' := ?_) #[true, true, true, true, true, false, false, false, false] rfl rfl (take_ofW HT_.out HW_.out (by kernel_rfl)) (fun _ _ _ h => h) (Or.inl ⟨by rfl, ?_⟩) hHeld ?_ ?_
              rotate_left
              · rintro w' ⟨s0, s1⟩
                go_simp
                with_reducible rfl
              rotate_left
              · simp only [Act.put, List.setIfInBounds_toArray, List.set_cons_zero, List.set_cons_succ, i64_w, i32_w]
                rfl
              refine take_ (i := 5) (N := (some 52)) (v := ?_) (a' := ?_) #[true, true, true, true, true, true, false, false, false] rfl rfl (take_ofW HT_.out HW_.out (by kernel_rfl)) (fun _ _ _ h => h) (Or.inl ⟨by rfl, ?_⟩) hHeld ?_ ?_
              rotate_left
              · rintro w' ⟨s0, s1⟩
                go_simp
                with_reducible rfl
              rotate_left
              · simp only [Act.put, List.setIfInBounds_toArray, List.set_cons_zero, List.set_cons_succ, i64_w, i32_w]
                rfl
              refine pure_ (i := 6) (N := (some 53)) (v := ?_) (a' := ?_) #[true, true, true, true, true, true, true, false, false] rfl rfl (any_of HT_.out (by kernel_rfl)) (fun _ _ _ h => h) (Or.inl ⟨by rfl, ?_⟩) ?_ ?_
              rotate_left
              · intro w'
                go_simp
                first | with_reducible rfl | (simp; done) | rfl
              rotate_left
              · simp only [Act.put, List.setIfInBounds_toArray, List.set_cons_zero, List.set_cons_succ, i64_w, i32_w]
                rfl
              refine pure_ (i := 7) (N := (some 54)) (v := ?_) (a' := ?_) #[true, true, true, true, true, true, true, true, false] rfl rfl (any_of HT_.out (by kernel_rfl)) (fun _ _ _ h => h) (Or.inl ⟨by rfl, ?_⟩) ?_ ?_
              rotate_left
              · intro w'
                go_simp
                first | with_reducible rfl | (simp; done) | rfl
              rotate_left
              · simp only [Act.put, List.setIfInBounds_toArray, List.set_cons_zero, List.set_cons_succ, i64_w, i32_w]
                rfl
              refine last_ (i := 8) (N := none) #[true, true, true, true, true, true, true, true, true] rfl rfl (one_of HT_.out (by kernel_rfl)) (by decide) (fun K hK => ?_)
              refine skip_ (w1 := ?_) (by rfl) rfl ?_ ?_
              rotate_left
              · go_simp
                rfl
              refine hK.out _ _ ?_
              clear hK K
              refine done_ (done_of HT_.out (by kernel_rfl)) ?_
              go_wp2
              refine ⟨⟨t + 1, by omega, by simp, ⟨?_⟩, ⟨?_⟩⟩, by simp [intOf]; omega⟩
              · exact (Below.heap_setCell _ ⟨g3, t, none⟩ _ g8 (Ne.symm N38.out)).trans (blk_drew B8.out)
              · rw [← outTo_set s v t ht8, EA.out, EX.out]
                have := (HI2.out.drew).put (t := t) (y := add32 a x)
                unfold add32 at this
                rw [IntKind.wrap_u32] at this
                unfold add32
                rw [IntKind.wrap_u32]
                exact this
            · obtain rfl : t = 8 := by omega
              have HI3 : Aside0 (SumInv g2 g3 g5 gp op mp cp W M (compress s b) (compress s b) (M.drop (64 * (k + 1))) wr) := ⟨by
                have h := HI2.out
                rw [← HCPR.out] at h
                have e1 : M.drop (64 * (k + 1)) = (M.drop (64 * k)).drop 64 := by rw [List.drop_drop]; congr 1
                have hl64 : 64 ≤ (M.drop (64 * k)).length := by rw [List.length_drop, HMP.out]; have := HM64.out; have := HAT.out; omega
                have h2 := h.eats.trans (.one hl64)
                rw [HBB.out, ← e1] at h2
                exact ⟨h.b2, h.b3, h.b5, h.q, h.hb, h2, h.h2, h.h3, h.n23, h.n53⟩⟩
              have hend : at64 + 64 ≤ mp := by have := HM64.out; have := HAT.out; omega
              have hat2 := HAT.out
              clear HI2
              go_wp2
              refine ⟨⟨k + 1, compress s b, by omega, by simp; omega, HI3⟩, by simp [intOf]; omega⟩
    · have hmk : M.drop (64 * k) = [] := List.drop_eq_nil_of_le (by rw [HMP.out]; omega)
      have HSO : Aside0 (shaOf l = bytes32 s) := ⟨sha_of_eats (by rw [HM.out, ← hmk]; exact HI1.out.eats)⟩
      have HSS : Aside0 (s.length = 8 ∧ ∀ x ∈ s, U32 x) := ⟨HI1.out.eats.state init8_ok.1 init8_ok.2⟩
      have B2 := Aside0.mk HI1.out.b2
      have B3 := Aside0.mk HI1.out.b3
      have HB := Aside0.mk HI1.out.hb
      clear hmk HI1
      go_wp2_with (
        first
        | ((with_reducible refine gate_dst (N := 11) rfl ?_); refine box_event ?hg (N := 11) ?hd (cs := arr (digTo s 0)) (t := 25) ?hr ?_; (case hd => rfl); (case hg => rfl); (case hr => first | (go_simp; done) | (go_simp; rfl));
                         intro g11 hg w1 hbox hb; have HI : Aside0 (w1.heap[g11]? = some (.cells (arr (digTo s (4 * 0))) 25 (0, 0)) ∧ w1.heap[g2]? = some (.cells (arr (List.replicate 32 0)) 25 (0, 0)) ∧ w1.heap[g3]? = some (.cells (arr32 s) 55 (0, 0)) ∧ Below W.heap.size W w1) := ⟨hbox, blk_below B2.out hb, blk_below B3.out hb, below_step HB.out hb⟩; have G11 := Aside0.mk (show W.heap.size ≤ g11 by rw [hg]; exact below_size HB.out); have N211 := Aside0.mk (show g2 ≠ g11 by rw [hg]; exact Nat.ne_of_lt (blk_lt B2.out)); have N311 := Aside0.mk (show g3 ≠ g11 by rw [hg]; exact Nat.ne_of_lt (blk_lt B3.out)); clear hbox hg hb B2 B3 HB))
      go_loopw [12, 13] (fun i _ wr => ∃ q : Nat, q ≤ 8 ∧ i = .int .i64 (q : Int) ∧ Aside0 (wr.heap[g11]? = some (.cells (arr (digTo s (4 * q))) 25 (0, 0)) ∧ wr.heap[g2]? = some (.cells (arr (List.replicate 32 0)) 25 (0, 0)) ∧ wr.heap[g3]? = some (.cells (arr32 s) 55 (0, 0)) ∧ Below W.heap.size W wr)) (fun i _ _ => 8 - (intOf i).toNat)
      case atStart => exact ⟨0, by omega, rfl, HI⟩
      case round =>
        obtain ⟨i, hi, rfl, HI1⟩ := hrel
        clear HI
        by_cases hi8 : i < 8
        · go_wp2
          go_loopw [13] (fun j wr => ∃ q : Nat, q ≤ 4 ∧ j = .int .i64 (q : Int) ∧ Aside0 (wr.heap[g11]? = some (.cells (arr (digTo s (4 * i + q))) 25 (0, 0)) ∧ wr.heap[g2]? = some (.cells (arr (List.replicate 32 0)) 25 (0, 0)) ∧ wr.heap[g3]? = some (.cells (arr32 s) 55 (0, 0)) ∧ Below W.heap.size W wr)) (fun j _ => 4 - (intOf j).toNat)
          case atStart => exact ⟨0, by omega, rfl, HI1⟩
          case round =>
            obtain ⟨j, hj, rfl, HI⟩ := hrel
            clear HI1
            by_cases hj4 : j < 4
            · obtain ⟨x, ex⟩ : ∃ x, at_ s i = x := ⟨_, rfl⟩
              obtain ⟨q, hq⟩ : ∃ q, 4 * i + j = q := ⟨_, rfl⟩
              have c3 : wr.cell? ⟨g3, i, none⟩ = some (.int .u32 x) := by rw [← ex]; exact cell_of_32 HI.out.2.2.1 i (by rw [HSS.out.1]; omega)
              have hfz : wr.frozen? ⟨g11, q, none⟩ = false := blk_frozen HI.out.1 q
              have cd : wr.cell? ⟨g11, q, none⟩ = some (.int .u8 (rd (digTo s q) (q : Int))) := (blk_cell (hq ▸ HI.out.1) q).trans (arr_get _ q (by rw [digTo_len s q (by omega)]; omega))
              have i3 := fun W => idx_arr Tryd.underlying55 (by kernel_rfl) (by kernel_rfl) g3 i hi8 W
              have hw4 : IntKind.i64.wrap (4 * (i : Int)) = 4 * (i : Int) := by rw [IntKind.wrap_i64]; omega
              have hwq : IntKind.i64.wrap (4 * (i : Int) + (j : Int)) = (q : Int) := by rw [IntKind.wrap_i64]; omega
              have hw8 : IntKind.i64.wrap (8 * (j : Int)) = 8 * (j : Int) := by rw [IntKind.wrap_i64]; omega
              have hw24 : IntKind.i64.wrap (24 - 8 * (j : Int)) = 24 - 8 * (j : Int) := by rw [IntKind.wrap_i64]; omega
              have hu24 : IntKind.u64.wrap (24 - 8 * (j : Int)) = 24 - 8 * (j : Int) := by rw [IntKind.wrap_u64]; omega
              have h24 : 0 ≤ 24 - 8 * (j : Int) := by omega
              have hid := fun W => idx_dig g11 q (by omega) W
              have EX := Aside0.mk ex
              have HQ := Aside0.mk hq
              clear ex hq
              go_wp2
              have hq := HQ.out
              refine ⟨⟨j + 1, by omega, by simp, ⟨?_, ?_, ?_, ?_⟩⟩, by simp [intOf]; omega⟩
              · have e := digTo_set s q (by omega)
                rw [show q / 4 = i by omega, show q % 4 = j by omega, EX.out] at e
                rw [show 4 * i + (j + 1) = q + 1 by omega, ← e]
                refine blk_put (hq ▸ HI.out.1) q _ ?_
                simp [arr, List.map_set]
              · exact (Below.heap_setCell _ ⟨g11, q, none⟩ _ g2 N211.out).trans HI.out.2.1
              · exact (Below.heap_setCell _ ⟨g11, q, none⟩ _ g3 N311.out).trans HI.out.2.2.1
              · exact HI.out.2.2.2.setCell (p := ⟨g11, q, none⟩) G11.out _
            · obtain rfl : j = 4 := by omega
              go_wp2
              refine ⟨⟨i + 1, by omega, by simp, ⟨HI.out⟩⟩, by simp [intOf]; omega⟩
        · obtain rfl : i = 8 := by omega
          have B11 : Aside0 (wr.heap[g11]? = some (.cells (arr (shaOf l)) 25 (0, 0))) := ⟨by rw [HSO.out, ← digTo_end s]; exact HI1.out.1⟩
          have B2 := Aside0.mk HI1.out.2.1
          have HB := Aside0.mk HI1.out.2.2.2
          clear HI1
          go_wp2_with (
            first
            | ((with_reducible refine gate_dst (N := 77) rfl ?_); refine wpList_load_row rfl 25 (.tmp 11) rfl g11 rfl 25 (arr (shaOf l)) (0, 0) _ B11.out Tryd.underlying25 rfl (by rw [arr_size, sha_len]; exact info_dig) ?_)
            | ((with_reducible refine gate_store (p := 2) rfl ?_); refine dig_store rfl (.tmp 2) (.tmp 77) rfl g2 (shaOf l) (List.replicate 32 0) rfl rfl B2.out (sha_len _) (by simp) ?_; intro w5 bk hoth hbel; have BD5 := Aside0.mk bk; have HB5 := Aside0.mk (hbel _ _ HB.out G2.out); clear bk hoth hbel))
          refine bodyPost_ret (results_c rfl _ _ g2 25 (arr (shaOf l)) (0, 0) _ rfl BD5.out Tryd.underlying25 rfl (by rw [arr_size, sha_len]; exact info_dig)) rfl ?_
          exact ⟨rfl, HB5.out⟩
end Go.Proofs.YtoaimcobcgomjaaDoor.Q
namespace Go.Proofs.YtoaimcobcgomjaaDoor.Q
open Go.RowKit Go.Proofs.YtoaimcobcgomjaaDoorW.PrintWords Go.Proofs.YtoaimcobcgomjaaDoorW.PrintLast Go.Proofs.YtoaimcobcgomjaaDoorW.PrintMore
attribute [local go_sem] max2_int min2_int max_two min_two max_three min_three max_four min_four   -- for this text's walks alone
set_option linter.unusedVariables false
set_option linter.unusedSimpArgs false
def slices_Reverse_bool_bool.l0 : Nat → List Bool → Int → Int → Option (List Bool)
  | 0, _, _, _ => none
  | k + 1, x0, x2, x3 => if x2 < x3 then (if 0 ≤ x3 then (if x3 < (x0.length : Int) then (if 0 ≤ x2 then (if x2 < (x0.length : Int) then (slices_Reverse_bool_bool.l0 k ((x0.set (x2 : Int).toNat (rdOf false x0 x3)).set (x3 : Int).toNat (rdOf false x0 x2)) (wrap64 (x2 + 1)) (wrap64 (x3 - 1))) else (none)) else (none)) else (none)) else (none)) else (some x0)
def slices_Reverse_bool_bool.f (k : Nat) (l0 : List Bool) : Option (List Bool) := slices_Reverse_bool_bool.l0 k l0 0 (wrap64 ((l0.length : Int) - 1))
theorem slices_Reverse_bool_bool.mono_l : ∀ k, (∀ y0 y1 y2, LeO (slices_Reverse_bool_bool.l0 k y0 y1 y2) (slices_Reverse_bool_bool.l0 (k + 1) y0 y1 y2))
  | 0 => fun _ _ _ r h => by simp [slices_Reverse_bool_bool.l0] at h
  | k + 1 => by
    have ih0 := slices_Reverse_bool_bool.mono_l k
    · intro y0 y1 y2
      unfold slices_Reverse_bool_bool.l0
      repeat' first
      | (with_reducible exact ih0 _ _ _)
      | (with_reducible exact LeO.refl _)
      | (with_reducible exact LeO.none _)
      | (with_reducible refine LeO.ite ?_ ?_)
      | (with_reducible refine LeO.bind ?_ (fun _ => ?_))
      | exact ih0 _ _ _
      | exact LeO.none _
      | refine LeO.ite ?_ ?_
      | refine LeO.bind ?_ (fun _ => ?_)
theorem slices_Reverse_bool_bool.mono : ∀ a0 k, LeO (slices_Reverse_bool_bool.f k a0) (slices_Reverse_bool_bool.f (k + 1) a0) := by
  intro a0 k
  have ih0 := slices_Reverse_bool_bool.mono_l k
  unfold slices_Reverse_bool_bool.f
  repeat' first
      | (with_reducible exact ih0 _ _ _)
      | (with_reducible exact LeO.refl _)
      | (with_reducible exact LeO.none _)
      | (with_reducible refine LeO.ite ?_ ?_)
      | (with_reducible refine LeO.bind ?_ (fun _ => ?_))
      | exact ih0 _ _ _
      | exact LeO.none _
      | refine LeO.ite ?_ ?_
      | refine LeO.bind ?_ (fun _ => ?_)
def slices_Reverse_bool_bool.T3 : Bool × List (List Nat × List Nat) := (true, [([], []), ([], []), ([], []), ([], []), ([], []), ([], []), ([4, 5], [4, 5]), ([6], [6]), ([], []), ([], []), ([8, 9], [8, 9]), ([10], [10]), ([0, 1, 0, 1, 4, 5, 6, 7, 11], [0, 1]), ([12, 7, 0, 1, 4, 5, 6, 7, 11], [7, 12]), ([2, 3, 0, 1, 2, 3, 4, 5, 6, 7, 8, 9, 10, 11, 12, 13], [2, 3]), ([14, 11, 13, 0, 1, 2, 3, 4, 5, 6, 7, 8, 9, 10, 11, 12, 13], [11, 14])])
def slices_Reverse_bool_bool.B3 : List Nat := [0, 0, 0, 0, 0, 0, 48, 112, 0, 0, 768, 1792, 4083, 8179, 16383, 32767]
theorem slices_Reverse_bool_bool.tab3 : rtab .any (opsOf Tryd.f59 3) = slices_Reverse_bool_bool.T3 := by kernel_rfl
theorem slices_Reverse_bool_bool.bits3 : waitsOk slices_Reverse_bool_bool.T3.2 slices_Reverse_bool_bool.B3 = true := by kernel_rfl
set_option maxHeartbeats 8000000 in
set_option maxRecDepth 100000 in
theorem slices_Reverse_bool_bool.calls (k : Nat) (P0_ : Nat → Prop) (u9000_ : Value) (l0 : List Bool) (r : List Bool) (w0 w : World) (hB : Below w0.heap.size w0 w) (ho0 : Kd.R Kd.bool 4 w w0.heap.size P0_ u9000_ l0) (h : slices_Reverse_bool_bool.f k l0 = some r) :
    Calls Tryd.prog 59 #[u9000_] w fun e w' => e = .returned (.tuple #[]) ∧ Kd.R Kd.bool 4 w' w0.heap.size (fun k_ => (P0_ k_ ∨ w.heap.size ≤ k_)) u9000_ r ∧ Below w0.heap.size w0 w' ∧ Kept w w' (fun k_ => P0_ k_) := by
  have HO0 := Aside0.mk (show Kd.R Kd.bool 4 w w0.heap.size (fun k_ => (P0_ k_ ∨ w.heap.size ≤ k_)) u9000_ l0 from Kd.R_mono ho0 (fun k_ hk => (.inl hk)))
  have HK := Aside0.mk (Kept.refl w (fun k_ => P0_ k_))
  have HW0 := Aside0.mk hB.size
  have HB := Aside0.mk hB
  clear hB
  have H : (slices_Reverse_bool_bool.l0 k l0 0 (wrap64 ((l0.length : Int) - 1))) = some r := h
  clear h
  have H' := Aside0.mk H
  clear H
  obtain ⟨Ao2, co2, eo2⟩ := Kd.R_slice HO0.out
  subst eo2
  go_enter Tryd.func59, Tryd.ntmps59
  go_wp2
  go_loopg [2, 3] k (fun kq v2 v3 w' => ∃ (x0_1 : List Bool) (x2_1 : Int) (x3_1 : Int), v2 = .int .i64 x2_1 ∧ v3 = .int .i64 x3_1 ∧ Aside0 (slices_Reverse_bool_bool.l0 kq x0_1 x2_1 x3_1 = some r) ∧ Aside0 (kq ≤ k) ∧ Aside0 (Kd.R Kd.bool 4 w' w0.heap.size (fun k_ => (P0_ k_ ∨ w.heap.size ≤ k_)) (.slice Ao2 l0.length co2) x0_1) ∧ Aside0 (Kept w w' (fun k_ => P0_ k_)) ∧ Aside0 (Below w0.heap.size w0 w'))
  case atStart => exact ⟨(l0), (0), (wrap64 ((l0.length : Int) - 1)), (by first | rfl | (simp; done) | (simp [*]; done)), (by first | rfl | (simp; done) | (simp [*]; done)), H', ⟨Nat.le_refl _⟩, ⟨by (with_reducible repeat (first | apply Kd.R_alloc | apply Kd.R_drewN | apply Kd.R_drew)); exact HO0.out⟩, ⟨by repeat (first | (with_reducible first | exact HK.out | apply Kept.alloc | apply Kept.drewN | apply Kept.drew) | exact HK.out)⟩, ⟨by repeat (first | (with_reducible first | exact HB.out | apply below_alloc | apply pw_below_drewN | apply below_drew1) | exact HB.out)⟩⟩
  case round =>
    clear H'
    try clear p2
    obtain ⟨x0_1, x2_1, x3_1, rfl, rfl, HA, HK1, HO_0, HK, HB⟩ := hrel
    have hl0_1 := (Kd.R_reads' HO_0.out).1
    rw [hl0_1] at HO_0
    (try simp only [hl0_1])
    cases gk with
    | zero => exact absurd HA.out (by simp [slices_Reverse_bool_bool.l0])
    | succ k1 =>
      have H := HA.out
      clear HA
      simp only [slices_Reverse_bool_bool.l0] at H
      by_cases c3 : x2_1 < x3_1
      · rw [if_pos c3] at H
        have c3b0 : decide (x2_1 < x3_1) = true := decide_eq_true c3
        clear c3
        by_cases c4 : 0 ≤ x3_1
        · rw [if_pos c4] at H
          have c4b0 : decide (0 ≤ x3_1) = true := decide_eq_true c4
          clear c4
          by_cases c5 : x3_1 < (x0_1.length : Int)
          · rw [if_pos c5] at H
            have c5b0 : decide (x3_1 < (x0_1.length : Int)) = true := decide_eq_true c5
            clear c5
            by_cases c6 : 0 ≤ x2_1
            · rw [if_pos c6] at H
              have c6b0 : decide (0 ≤ x2_1) = true := decide_eq_true c6
              clear c6
              by_cases c7 : x2_1 < (x0_1.length : Int)
              · rw [if_pos c7] at H
                have c7b0 : decide (x2_1 < (x0_1.length : Int)) = true := decide_eq_true c7
                clear c7
                obtain ⟨y147, hy147⟩ : ∃ y_ : List Bool, y_ = (x0_1.set (x2_1 : Int).toNat (rdOf false x0_1 x3_1)) := ⟨_, rfl⟩
                replace H : (slices_Reverse_bool_bool.l0 k1 (y147.set (x3_1 : Int).toNat (rdOf false x0_1 x2_1)) (wrap64 (x2_1 + 1)) (wrap64 (x3_1 - 1))) = some r := by first | (rw [hy147]; with_reducible exact H) | (have H2_ := (Option.bind_some _ _).symm.trans H; rw [hy147]; with_reducible exact H2_) | (have H2_ := (Option.bind_some _ _).symm.trans H; with_reducible exact H2_) | with_reducible exact H | (rw [hy147]; exact H) | exact H
                have Ny147 := Aside0.mk hy147
                clear hy147
                obtain ⟨y148, hy148⟩ : ∃ y_ : List Bool, y_ = (y147.set (x3_1 : Int).toNat (rdOf false x0_1 x2_1)) := ⟨_, rfl⟩
                replace H : (slices_Reverse_bool_bool.l0 k1 y148 (wrap64 (x2_1 + 1)) (wrap64 (x3_1 - 1))) = some r := by first | (rw [hy148]; with_reducible exact H) | (have H2_ := (Option.bind_some _ _).symm.trans H; rw [hy148]; with_reducible exact H2_) | (have H2_ := (Option.bind_some _ _).symm.trans H; with_reducible exact H2_) | with_reducible exact H | (rw [hy148]; exact H) | exact H
                have Ny148 := Aside0.mk hy148
                clear hy148
                have H' := Aside0.mk H
                clear H
                try go_wp2
                have n0_ := Aside0.mk (Kd.R_drew HO_0.out)
                have n1_ := Aside0.mk (Kept.drew HK.out)
                have n2_ := Aside0.mk (below_drew1 HB.out)
                clear HO_0
                clear HK
                clear HB
                have HO_0 := n0_
                have HK := n1_
                have HB := n2_
                clear n0_ n1_ n2_
                have p145 : 0 ≤ (x3_1 : Int) := of_decide_eq_true (by first | (with_reducible assumption) | assumption)
                have q145 : x3_1 < (x0_1.length : Int) := of_decide_eq_true (by first | (with_reducible assumption) | assumption)
                obtain ⟨ad145, e145, hx145_0⟩ := Kd.at_bool (Kd.R_reads' HO_0.out).2.2 x3_1 p145 q145
                cases e145
                replace p145 := eq_true p145
                replace q145 := eq_true q145
                have p146 : 0 ≤ (x2_1 : Int) := of_decide_eq_true (by first | (with_reducible assumption) | assumption)
                have q146 : x2_1 < (x0_1.length : Int) := of_decide_eq_true (by first | (with_reducible assumption) | assumption)
                obtain ⟨ad146, e146, hx146_0⟩ := Kd.at_bool (Kd.R_reads' HO_0.out).2.2 x2_1 p146 q146
                obtain rfl : ad145 = ad146 := (by injection e146)
                replace p146 := eq_true p146
                replace q146 := eq_true q146
                have p8 : 0 ≤ (x2_1 : Int) := of_decide_eq_true (by first | (with_reducible assumption) | assumption)
                have q8 : (x2_1 : Int) < ((x0_1.length : Int) : Int) := of_decide_eq_true (by first | (with_reducible assumption) | assumption)
                obtain ⟨go8, co8, eo8, gb8, gl8, cl8, HG8⟩ := Kd.R_form HO_0.out (by omega)
                (first | cases eo8 | (injection eo8 with ea_ en_ ec_; (first | subst ea_ | (injection ea_ with ea_; subst ea_)); subst ec_; clear en_))
                have GB8 := Aside0.mk gb8
                have GG8 := Aside0.mk HG8
                clear gb8 gl8 HG8
                have HMgo8 := Aside0.mk (show (P0_ go8 ∨ w.heap.size ≤ go8) from (HO_0.out.1 _ rfl))
                (first | simp only [add_plain] at hx145_0 | skip)
                (first | simp only [add_plain] at hx146_0 | skip)
                obtain ⟨hx8_0, hf8_0⟩ := Kd.R_celln false HO_0.out (x2_1 : Int) p8 q8
                replace p8 := eq_true p8
                replace q8 := eq_true q8
                have HP11 := Kd.R_putn HO_0.out (x2_1 : Int) (rdOf false x0_1 x3_1)
                rw [← Ny147.out] at HP11
                have HQ11 := Aside0.mk HP11
                clear HP11
                have p9 : 0 ≤ (x3_1 : Int) := of_decide_eq_true (by first | (with_reducible assumption) | assumption)
                have q9 : (x3_1 : Int) < ((x0_1.length : Int) : Int) := of_decide_eq_true (by first | (with_reducible assumption) | assumption)
                obtain ⟨hx9_0, hf9_0⟩ := Kd.R_celln false HQ11.out (x3_1 : Int) p9 q9
                replace p9 := eq_true p9
                replace q9 := eq_true q9
                have HP12 := Kd.R_putn HQ11.out (x3_1 : Int) (rdOf false x0_1 x2_1)
                rw [← Ny148.out] at HP12
                have HQ12 := Aside0.mk HP12
                clear HP12
                refine start_ (n := 16) (S := fun w' => w'.cell? ⟨go8, (x3_1).toNat, none⟩ = some (.bool (rdOf false x0_1 x3_1)) ∧ w'.cell? ⟨go8, (x2_1).toNat, none⟩ = some (.bool (rdOf false x0_1 x2_1))) (ds := [13, 15]) #[false, false, false, false, false, false, false, false, false, false, false, false, false, false, false, false] (by kernel_rfl) rfl rfl ⟨hx145_0, hx146_0⟩ (fun hHeld => ?_); refine with_tabW slices_Reverse_bool_bool.tab3 slices_Reverse_bool_bool.bits3 (fun HT_ HW_ => ?_)
                generalize wr.drew = w10 at HO_0 HK HB GG8 HQ11 HQ12 hf8_0 hf9_0 hx145_0 hx146_0 hx8_0 hx9_0 hHeld ⊢
                refine pure_ (i := 0) (N := some 14) (v := ?_) (a' := ?_) #[true, false, false, false, false, false, false, false, false, false, false, false, false, false, false, false] rfl rfl (any_of HT_.out (by kernel_rfl)) (fun _ _ _ h => h) (Or.inl ⟨by rfl, ?_⟩) ?_ ?_
                rotate_left
                · intro w'
                  go_simp
                  with_reducible rfl
                rotate_left
                · simp only [Act.put, List.setIfInBounds_toArray, List.set_cons_zero, List.set_cons_succ, i64_w, i32_w]
                  rfl
                refine pure_ (i := 1) (N := some 15) (v := ?_) (a' := ?_) #[true, true, false, false, false, false, false, false, false, false, false, false, false, false, false, false] rfl rfl (any_of HT_.out (by kernel_rfl)) (fun _ _ _ h => h) (Or.inl ⟨by rfl, ?_⟩) ?_ ?_
                rotate_left
                · intro w'
                  go_simp
                  with_reducible rfl
                rotate_left
                · simp only [Act.put, List.setIfInBounds_toArray, List.set_cons_zero, List.set_cons_succ, i64_w, i32_w]
                  rfl
                refine pure_ (i := 2) (N := some 16) (v := ?_) (a' := ?_) #[true, true, true, false, false, false, false, false, false, false, false, false, false, false, false, false] rfl rfl (any_of HT_.out (by kernel_rfl)) (fun _ _ _ h => h) (Or.inl ⟨by rfl, ?_⟩) ?_ ?_
                rotate_left
                · intro w'
                  go_simp
                  with_reducible rfl
                rotate_left
                · simp only [Act.put, List.setIfInBounds_toArray, List.set_cons_zero, List.set_cons_succ, i64_w, i32_w]
                  rfl
                refine pure_ (i := 3) (N := some 17) (v := ?_) (a' := ?_) #[true, true, true, true, false, false, false, false, false, false, false, false, false, false, false, false] rfl rfl (any_of HT_.out (by kernel_rfl)) (fun _ _ _ h => h) (Or.inl ⟨by rfl, ?_⟩) ?_ ?_
                rotate_left
                · intro w'
                  go_simp
                  with_reducible rfl
                rotate_left
                · simp only [Act.put, List.setIfInBounds_toArray, List.set_cons_zero, List.set_cons_succ, i64_w, i32_w]
                  rfl
                refine pure_ (i := 4) (N := some 18) (v := ?_) (a' := ?_) #[true, true, true, true, true, false, false, false, false, false, false, false, false, false, false, false] rfl rfl (any_of HT_.out (by kernel_rfl)) (fun _ _ _ h => h) (Or.inl ⟨by rfl, ?_⟩) ?_ ?_
                rotate_left
                · intro w'
                  go_simp
                  with_reducible rfl
                rotate_left
                · simp only [Act.put, List.setIfInBounds_toArray, List.set_cons_zero, List.set_cons_succ, i64_w, i32_w]
                  rfl
                refine pure_ (i := 5) (N := some 19) (v := ?_) (a' := ?_) #[true, true, true, true, true, true, false, false, false, false, false, false, false, false, false, false] rfl rfl (any_of HT_.out (by kernel_rfl)) (fun _ _ _ h => h) (Or.inl ⟨by rfl, ?_⟩) ?_ ?_
                rotate_left
                · intro w'
                  go_simp
                  with_reducible rfl
                rotate_left
                · simp only [Act.put, List.setIfInBounds_toArray, List.set_cons_zero, List.set_cons_succ, i64_w, i32_w]
                  rfl
                refine pure_ (i := 6) (N := some 20) (v := ?_) (a' := ?_) #[true, true, true, true, true, true, true, false, false, false, false, false, false, false, false, false] rfl rfl (any_of HT_.out (by kernel_rfl)) (fun _ _ _ h => h) (Or.inl ⟨by rfl, ?_⟩) ?_ ?_
                rotate_left
                · intro w'
                  go_simp
                  with_reducible rfl
                rotate_left
                · simp only [Act.put, List.setIfInBounds_toArray, List.set_cons_zero, List.set_cons_succ, i64_w, i32_w]
                  rfl
                refine pure_ (i := 8) (N := some 22) (v := ?_) (a' := ?_) #[true, true, true, true, true, true, true, false, true, false, false, false, false, false, false, false] rfl rfl (any_of HT_.out (by kernel_rfl)) (fun _ _ _ h => h) (Or.inl ⟨by rfl, ?_⟩) ?_ ?_
                rotate_left
                · intro w'
                  go_simp
                  with_reducible rfl
                rotate_left
                · simp only [Act.put, List.setIfInBounds_toArray, List.set_cons_zero, List.set_cons_succ, i64_w, i32_w]
                  rfl
                refine pure_ (i := 9) (N := some 23) (v := ?_) (a' := ?_) #[true, true, true, true, true, true, true, false, true, true, false, false, false, false, false, false] rfl rfl (any_of HT_.out (by kernel_rfl)) (fun _ _ _ h => h) (Or.inl ⟨by rfl, ?_⟩) ?_ ?_
                rotate_left
                · intro w'
                  go_simp
                  with_reducible rfl
                rotate_left
                · simp only [Act.put, List.setIfInBounds_toArray, List.set_cons_zero, List.set_cons_succ, i64_w, i32_w]
                  rfl
                refine pure_ (i := 10) (N := some 24) (v := ?_) (a' := ?_) #[true, true, true, true, true, true, true, false, true, true, true, false, false, false, false, false] rfl rfl (any_of HT_.out (by kernel_rfl)) (fun _ _ _ h => h) (Or.inl ⟨by rfl, ?_⟩) ?_ ?_
                rotate_left
                · intro w'
                  go_simp
                  with_reducible rfl
                rotate_left
                · simp only [Act.put, List.setIfInBounds_toArray, List.set_cons_zero, List.set_cons_succ, i64_w, i32_w]
                  rfl
                refine take_ (i := 7) (N := some 21) (v := ?_) (a' := ?_) #[true, true, true, true, true, true, true, true, true, true, true, false, false, false, false, false] rfl rfl (take_ofW HT_.out HW_.out (by kernel_rfl)) (fun _ _ _ h => h) (Or.inl ⟨by rfl, ?_⟩) hHeld ?_ ?_
                rotate_left
                · rintro w' ⟨s0, s1⟩
                  go_simp
                  with_reducible rfl
                rotate_left
                · simp only [Act.put, List.setIfInBounds_toArray, List.set_cons_zero, List.set_cons_succ, i64_w, i32_w]
                  rfl
                refine take_ (i := 11) (N := some 25) (v := ?_) (a' := ?_) #[true, true, true, true, true, true, true, true, true, true, true, true, false, false, false, false] rfl rfl (take_ofW HT_.out HW_.out (by kernel_rfl)) (fun _ _ _ h => h) (Or.inl ⟨by rfl, ?_⟩) hHeld ?_ ?_
                rotate_left
                · rintro w' ⟨s0, s1⟩
                  go_simp
                  with_reducible rfl
                rotate_left
                · simp only [Act.put, List.setIfInBounds_toArray, List.set_cons_zero, List.set_cons_succ, i64_w, i32_w]
                  rfl
                refine pure_ (i := 12) (N := some 26) (v := ?_) (a' := ?_) #[true, true, true, true, true, true, true, true, true, true, true, true, true, false, false, false] rfl rfl (any_of HT_.out (by kernel_rfl)) (fun _ _ _ h => h) (Or.inl ⟨by rfl, ?_⟩) ?_ ?_
                rotate_left
                · intro w'
                  go_simp
                  with_reducible rfl
                rotate_left
                · simp only [Act.put, List.setIfInBounds_toArray, List.set_cons_zero, List.set_cons_succ, i64_w, i32_w]
                  rfl
                refine last_ (i := 13) (N := none) #[true, true, true, true, true, true, true, true, true, true, true, true, true, true, false, false] rfl rfl (one_of HT_.out (by kernel_rfl)) (by decide) (fun K hK => ?_)
                refine skip_ (w1 := ?_) (by rfl) rfl ?_ ?_
                rotate_left
                · go_simp
                  rfl
                refine hK.out _ _ ?_
                clear hK K
                refine pure_ (i := 14) (N := some 27) (v := ?_) (a' := ?_) #[true, true, true, true, true, true, true, true, true, true, true, true, true, true, true, false] rfl rfl (any_of HT_.out (by kernel_rfl)) (fun _ _ _ h => h) (Or.inl ⟨by rfl, ?_⟩) ?_ ?_
                rotate_left
                · intro w'
                  go_simp
                  with_reducible rfl
                rotate_left
                · simp only [Act.put, List.setIfInBounds_toArray, List.set_cons_zero, List.set_cons_succ, i64_w, i32_w]
                  rfl
                refine last_ (i := 15) (N := none) #[true, true, true, true, true, true, true, true, true, true, true, true, true, true, true, true] rfl rfl (one_of HT_.out (by kernel_rfl)) (by decide) (fun K hK => ?_)
                refine skip_ (w1 := ?_) (by rfl) rfl ?_ ?_
                rotate_left
                · go_simp
                  rfl
                refine hK.out _ _ ?_
                clear hK K
                refine done_ (done_of HT_.out (by kernel_rfl)) ?_
                try go_wp2
                (try simp only [← hl0_1])
                go_roundg k1
                case measure => have := HK1.out; omega
                case rel => exact ⟨(y148), (wrap64 (x2_1 + 1)), (wrap64 (x3_1 - 1)), (by first | rfl | (simp; done) | (simp [*]; done)), (by first | rfl | (simp; done) | (simp [*]; done)), H', ⟨by have := HK1.out; omega⟩, ⟨by (try simp only [hl0_1]); (with_reducible repeat (first | apply Kd.R_alloc | apply Kd.R_drewN | apply Kd.R_drew)); exact HQ12.out⟩, ⟨by repeat (first | (with_reducible first | exact HK.out | apply Kept.alloc | apply Kept.drewN | apply Kept.drew | refine Kept.setCell ?_ HMgo8.out _ | refine Kept.setCell ?_ HMgo8.out _) | exact HK.out)⟩, ⟨by repeat (first | (with_reducible first | exact HB.out | apply below_alloc | apply pw_below_drewN | apply below_drew1 | refine below_set ?_ GB8.out | refine below_set ?_ GB8.out) | exact HB.out)⟩⟩
              · rw [if_neg c7] at H
                exact absurd H (by simp)
            · rw [if_neg c6] at H
              exact absurd H (by simp)
          · rw [if_neg c5] at H
            exact absurd H (by simp)
        · rw [if_neg c4] at H
          exact absurd H (by simp)
      · rw [if_neg c3] at H
        have c3b0 : decide (x2_1 < x3_1) = false := decide_eq_false c3
        clear c3
        obtain rfl := Option.some.inj H
        go_wp2
        first | go_end0 | ((try simp only [Exit.inBlock, Exit.then]); refine bodyPost_ret (results_none rfl _ _ _) rfl ?_)
        exact ⟨by first | rfl | (simp [errW_none, errW_some] <;> rfl) | (simp [*, errW_none, errW_some] <;> rfl), (by first | exact (by (with_reducible repeat (first | apply Kd.R_alloc | apply Kd.R_drewN | apply Kd.R_drew)); exact HO_0.out) | (simp only [hl0_1]; exact (by (with_reducible repeat (first | apply Kd.R_alloc | apply Kd.R_drewN | apply Kd.R_drew)); exact HO_0.out))), by repeat (first | (with_reducible first | exact HB.out | apply below_alloc | apply pw_below_drewN | apply below_drew1) | exact HB.out), by repeat (first | (with_reducible first | exact HK.out | apply Kept.alloc | apply Kept.drewN | apply Kept.drew) | exact HK.out)⟩
-- NOT PRINTED: function 20 (rows_Fits)
-- NOT PRINTED: function 23 (beadrolllaw13_leaf)
-- NOT PRINTED: function 24 (beadrolllaw13_fork)
-- NOT PRINTED: function 21 (beadrolllaw13_alive)
-- NOT PRINTED: function 22 (beadrollref06_SameDigests)
-- NOT PRINTED: function 4 (beadrolllaw13_RowsNames)
def beadrollref13_Great.l0 : Nat → List (List Int) → Int → Option (Bool)
  | 0, _, _ => none
  | k + 1, x0, x5 => if x5 < (x0.length : Int) then (if 0 ≤ x5 then (if ((rd_L1 x0 x5).length : Int) > 200 then (if ((rd_L1 x0 x5).length : Int) ≤ 4096 then (some true) else (if ((rd_L1 x0 x5).length : Int) > 5000 then (some true) else (beadrollref13_Great.l0 k x0 (wrap64 (x5 + 1))))) else (if ((rd_L1 x0 x5).length : Int) > 5000 then (some true) else (beadrollref13_Great.l0 k x0 (wrap64 (x5 + 1))))) else (none)) else (some false)
def beadrollref13_Great.f (k : Nat) (l0 : List (List Int)) (a1 : Int) : Option (Bool) := if (l0.length : Int) > a1 then (some true) else (beadrollref13_Great.l0 k l0 0)
theorem beadrollref13_Great.mono_l : ∀ k, (∀ y0 y1, LeO (beadrollref13_Great.l0 k y0 y1) (beadrollref13_Great.l0 (k + 1) y0 y1))
  | 0 => fun _ _ r h => by simp [beadrollref13_Great.l0] at h
  | k + 1 => by
    have ih0 := beadrollref13_Great.mono_l k
    · intro y0 y1
      unfold beadrollref13_Great.l0
      repeat' first
      | (with_reducible exact ih0 _ _)
      | (with_reducible exact LeO.refl _)
      | (with_reducible exact LeO.none _)
      | (with_reducible refine LeO.ite ?_ ?_)
      | (with_reducible refine LeO.bind ?_ (fun _ => ?_))
      | exact ih0 _ _
      | exact LeO.none _
      | refine LeO.ite ?_ ?_
      | refine LeO.bind ?_ (fun _ => ?_)
theorem beadrollref13_Great.mono : ∀ a0 a1 k, LeO (beadrollref13_Great.f k a0 a1) (beadrollref13_Great.f (k + 1) a0 a1) := by
  intro a0 a1 k
  have ih0 := beadrollref13_Great.mono_l k
  unfold beadrollref13_Great.f
  repeat' first
      | (with_reducible exact ih0 _ _)
      | (with_reducible exact LeO.refl _)
      | (with_reducible exact LeO.none _)
      | (with_reducible refine LeO.ite ?_ ?_)
      | (with_reducible refine LeO.bind ?_ (fun _ => ?_))
      | exact ih0 _ _
      | exact LeO.none _
      | refine LeO.ite ?_ ?_
      | refine LeO.bind ?_ (fun _ => ?_)
set_option maxHeartbeats 8000000 in
set_option maxRecDepth 100000 in
theorem beadrollref13_Great.calls (k : Nat) (A0 : Option Addr) (c0 : Nat) (l0 : List (List Int)) (a1 : Int) (r : Bool) (w : World) (hr0 : Kd.C (Kd.slice 5 (Kd.int .u8)) w A0 l0.length l0) (hc0 : l0.length ≤ c0) (h : beadrollref13_Great.f k l0 a1 = some r) :
    Calls Tryd.prog 25 #[.slice A0 l0.length c0, .int .i64 a1] w fun e w' => e = .returned (.bool r) ∧ Drawn0 w w' := by
  have HR0 := Aside0.mk hr0
  have HC0 := Aside0.mk hc0
  clear hr0 hc0
  have H : (if (l0.length : Int) > a1 then (some true) else (beadrollref13_Great.l0 k l0 0)) = some r := h
  clear h
  by_cases c3 : (l0.length : Int) > a1
  · rw [if_pos c3] at H
    have c3b0 : decide (a1 < (l0.length : Int)) = true := decide_eq_true c3
    clear c3
    obtain rfl := Option.some.inj H
    go_enter Tryd.func25, Tryd.ntmps25
    go_wp2
    go_ret
    exact ⟨by first | rfl | (simp; done) | (simp [*]; done), by repeat (first | exact Drawn0.refl _ | apply Drawn0.step)⟩
  · rw [if_neg c3] at H
    have c3b0 : decide (a1 < (l0.length : Int)) = false := decide_eq_false c3
    clear c3
    have H' := Aside0.mk H
    clear H
    go_enter Tryd.func25, Tryd.ntmps25
    go_wp2
    go_loopg [5] k (fun kq v5 w' => ∃ (x5_1 : Int), v5 = .int .i64 x5_1 ∧ Aside0 (beadrollref13_Great.l0 kq l0 x5_1 = some r) ∧ Aside0 (kq ≤ k) ∧ Drawn0 w w')
    case atStart => exact ⟨(0), (by first | rfl | (simp; done) | (simp [*]; done)), H', ⟨Nat.le_refl _⟩, by repeat (first | exact Drawn0.refl _ | apply Drawn0.step)⟩
    case round =>
      clear H'
      try clear c2
      try clear p2
      try clear c3
      try clear c3b0
      obtain ⟨x5_1, rfl, HA, HK1, ⟨m1, rfl⟩⟩ := hrel
      cases gk with
      | zero => exact absurd HA.out (by simp [beadrollref13_Great.l0])
      | succ k1 =>
        have H := HA.out
        clear HA
        simp only [beadrollref13_Great.l0] at H
        by_cases c4 : x5_1 < (l0.length : Int)
        · rw [if_pos c4] at H
          have c4b0 : decide (x5_1 < (l0.length : Int)) = true := decide_eq_true c4
          clear c4
          by_cases c5 : 0 ≤ x5_1
          · rw [if_pos c5] at H
            have c5b0 : decide (0 ≤ x5_1) = true := decide_eq_true c5
            clear c5
            by_cases c6 : ((rd_L1 l0 x5_1).length : Int) > 200
            · rw [if_pos c6] at H
              have c6b0 : decide (200 < ((rd_L1 l0 x5_1).length : Int)) = true := decide_eq_true c6
              have c6b1 : decide (200 < (rd_L1 l0 x5_1).length) = true := decide_eq_true (by omega)
              clear c6
              by_cases c7 : ((rd_L1 l0 x5_1).length : Int) ≤ 4096
              · rw [if_pos c7] at H
                have c7b0 : decide (((rd_L1 l0 x5_1).length : Int) ≤ 4096) = true := decide_eq_true c7
                have c7b1 : decide ((rd_L1 l0 x5_1).length ≤ 4096) = true := decide_eq_true (by omega)
                clear c7
                obtain rfl := Option.some.inj H
                have p149 : 0 ≤ (x5_1 : Int) := of_decide_eq_true (by first | (with_reducible assumption) | assumption)
                have q149 : x5_1 < (l0.length : Int) := of_decide_eq_true (by first | (with_reducible assumption) | assumption)
                obtain ⟨ad149, A149_0, c149_0, e149, hx149_0, hl149_0, hi149_0⟩ := at_L1 HR0.out x5_1 p149 q149
                cases e149
                have HR149_0 := Aside0.mk hi149_0
                have HC149_0 := Aside0.mk hl149_0
                clear hi149_0 hl149_0
                replace p149 := eq_true p149
                replace q149 := eq_true q149
                have p150 : 0 ≤ (x5_1 : Int) := of_decide_eq_true (by first | (with_reducible assumption) | assumption)
                have q150 : x5_1 < (l0.length : Int) := of_decide_eq_true (by first | (with_reducible assumption) | assumption)
                obtain ⟨ad150, A150_0, c150_0, e150, hx150_0, hl150_0, hi150_0⟩ := at_L1 HR0.out x5_1 p150 q150
                obtain rfl : ad149 = ad150 := (by injection e150)
                have HR150_0 := Aside0.mk hi150_0
                have HC150_0 := Aside0.mk hl150_0
                clear hi150_0 hl150_0
                replace p150 := eq_true p150
                replace q150 := eq_true q150
                have ea_ := Option.some.inj (hx149_0.symm.trans hx150_0)
                injection ea_ with ea_ en_ ec_
                subst ea_
                subst ec_
                clear en_
                go_wp2
                go_ret
                exact ⟨by first | rfl | (simp; done) | (simp [*]; done), by repeat (first | exact Drawn0.refl _ | apply Drawn0.step)⟩
              · rw [if_neg c7] at H
                have c7b0 : decide (((rd_L1 l0 x5_1).length : Int) ≤ 4096) = false := decide_eq_false c7
                have c7b1 : decide ((rd_L1 l0 x5_1).length ≤ 4096) = false := decide_eq_false (by omega)
                clear c7
                by_cases c8 : ((rd_L1 l0 x5_1).length : Int) > 5000
                · rw [if_pos c8] at H
                  have c8b0 : decide (5000 < ((rd_L1 l0 x5_1).length : Int)) = true := decide_eq_true c8
                  have c8b1 : decide (5000 < (rd_L1 l0 x5_1).length) = true := decide_eq_true (by omega)
                  clear c8
                  obtain rfl := Option.some.inj H
                  have p149 : 0 ≤ (x5_1 : Int) := of_decide_eq_true (by first | (with_reducible assumption) | assumption)
                  have q149 : x5_1 < (l0.length : Int) := of_decide_eq_true (by first | (with_reducible assumption) | assumption)
                  obtain ⟨ad149, A149_0, c149_0, e149, hx149_0, hl149_0, hi149_0⟩ := at_L1 HR0.out x5_1 p149 q149
                  cases e149
                  have HR149_0 := Aside0.mk hi149_0
                  have HC149_0 := Aside0.mk hl149_0
                  clear hi149_0 hl149_0
                  replace p149 := eq_true p149
                  replace q149 := eq_true q149
                  have p150 : 0 ≤ (x5_1 : Int) := of_decide_eq_true (by first | (with_reducible assumption) | assumption)
                  have q150 : x5_1 < (l0.length : Int) := of_decide_eq_true (by first | (with_reducible assumption) | assumption)
                  obtain ⟨ad150, A150_0, c150_0, e150, hx150_0, hl150_0, hi150_0⟩ := at_L1 HR0.out x5_1 p150 q150
                  obtain rfl : ad149 = ad150 := (by injection e150)
                  have HR150_0 := Aside0.mk hi150_0
                  have HC150_0 := Aside0.mk hl150_0
                  clear hi150_0 hl150_0
                  replace p150 := eq_true p150
                  replace q150 := eq_true q150
                  have ea_ := Option.some.inj (hx149_0.symm.trans hx150_0)
                  injection ea_ with ea_ en_ ec_
                  subst ea_
                  subst ec_
                  clear en_
                  have p151 : 0 ≤ (x5_1 : Int) := of_decide_eq_true (by first | (with_reducible assumption) | assumption)
                  have q151 : x5_1 < (l0.length : Int) := of_decide_eq_true (by first | (with_reducible assumption) | assumption)
                  obtain ⟨ad151, A151_0, c151_0, e151, hx151_0, hl151_0, hi151_0⟩ := at_L1 HR0.out x5_1 p151 q151
                  obtain rfl : ad149 = ad151 := (by injection e151)
                  have HR151_0 := Aside0.mk hi151_0
                  have HC151_0 := Aside0.mk hl151_0
                  clear hi151_0 hl151_0
                  replace p151 := eq_true p151
                  replace q151 := eq_true q151
                  have ea_ := Option.some.inj (hx149_0.symm.trans hx151_0)
                  injection ea_ with ea_ en_ ec_
                  subst ea_
                  subst ec_
                  clear en_
                  go_wp2
                  go_ret
                  exact ⟨by first | rfl | (simp; done) | (simp [*]; done), by repeat (first | exact Drawn0.refl _ | apply Drawn0.step)⟩
                · rw [if_neg c8] at H
                  have c8b0 : decide (5000 < ((rd_L1 l0 x5_1).length : Int)) = false := decide_eq_false c8
                  have c8b1 : decide (5000 < (rd_L1 l0 x5_1).length) = false := decide_eq_false (by omega)
                  clear c8
                  have H' := Aside0.mk H
                  clear H
                  have p149 : 0 ≤ (x5_1 : Int) := of_decide_eq_true (by first | (with_reducible assumption) | assumption)
                  have q149 : x5_1 < (l0.length : Int) := of_decide_eq_true (by first | (with_reducible assumption) | assumption)
                  obtain ⟨ad149, A149_0, c149_0, e149, hx149_0, hl149_0, hi149_0⟩ := at_L1 HR0.out x5_1 p149 q149
                  cases e149
                  have HR149_0 := Aside0.mk hi149_0
                  have HC149_0 := Aside0.mk hl149_0
                  clear hi149_0 hl149_0
                  replace p149 := eq_true p149
                  replace q149 := eq_true q149
                  have p150 : 0 ≤ (x5_1 : Int) := of_decide_eq_true (by first | (with_reducible assumption) | assumption)
                  have q150 : x5_1 < (l0.length : Int) := of_decide_eq_true (by first | (with_reducible assumption) | assumption)
                  obtain ⟨ad150, A150_0, c150_0, e150, hx150_0, hl150_0, hi150_0⟩ := at_L1 HR0.out x5_1 p150 q150
                  obtain rfl : ad149 = ad150 := (by injection e150)
                  have HR150_0 := Aside0.mk hi150_0
                  have HC150_0 := Aside0.mk hl150_0
                  clear hi150_0 hl150_0
                  replace p150 := eq_true p150
                  replace q150 := eq_true q150
                  have ea_ := Option.some.inj (hx149_0.symm.trans hx150_0)
                  injection ea_ with ea_ en_ ec_
                  subst ea_
                  subst ec_
                  clear en_
                  have p151 : 0 ≤ (x5_1 : Int) := of_decide_eq_true (by first | (with_reducible assumption) | assumption)
                  have q151 : x5_1 < (l0.length : Int) := of_decide_eq_true (by first | (with_reducible assumption) | assumption)
                  obtain ⟨ad151, A151_0, c151_0, e151, hx151_0, hl151_0, hi151_0⟩ := at_L1 HR0.out x5_1 p151 q151
                  obtain rfl : ad149 = ad151 := (by injection e151)
                  have HR151_0 := Aside0.mk hi151_0
                  have HC151_0 := Aside0.mk hl151_0
                  clear hi151_0 hl151_0
                  replace p151 := eq_true p151
                  replace q151 := eq_true q151
                  have ea_ := Option.some.inj (hx149_0.symm.trans hx151_0)
                  injection ea_ with ea_ en_ ec_
                  subst ea_
                  subst ec_
                  clear en_
                  go_wp2
                  go_roundg k1
                  case measure => have := HK1.out; omega
                  case rel => exact ⟨(wrap64 (x5_1 + 1)), (by first | rfl | (simp; done) | (simp [*]; done)), H', ⟨by have := HK1.out; omega⟩, by repeat (first | exact Drawn0.refl _ | apply Drawn0.step)⟩
            · rw [if_neg c6] at H
              have c6b0 : decide (200 < ((rd_L1 l0 x5_1).length : Int)) = false := decide_eq_false c6
              have c6b1 : decide (200 < (rd_L1 l0 x5_1).length) = false := decide_eq_false (by omega)
              clear c6
              by_cases c9 : ((rd_L1 l0 x5_1).length : Int) > 5000
              · rw [if_pos c9] at H
                have c9b0 : decide (5000 < ((rd_L1 l0 x5_1).length : Int)) = true := decide_eq_true c9
                have c9b1 : decide (5000 < (rd_L1 l0 x5_1).length) = true := decide_eq_true (by omega)
                clear c9
                obtain rfl := Option.some.inj H
                have p149 : 0 ≤ (x5_1 : Int) := of_decide_eq_true (by first | (with_reducible assumption) | assumption)
                have q149 : x5_1 < (l0.length : Int) := of_decide_eq_true (by first | (with_reducible assumption) | assumption)
                obtain ⟨ad149, A149_0, c149_0, e149, hx149_0, hl149_0, hi149_0⟩ := at_L1 HR0.out x5_1 p149 q149
                cases e149
                have HR149_0 := Aside0.mk hi149_0
                have HC149_0 := Aside0.mk hl149_0
                clear hi149_0 hl149_0
                replace p149 := eq_true p149
                replace q149 := eq_true q149
                have p152 : 0 ≤ (x5_1 : Int) := of_decide_eq_true (by first | (with_reducible assumption) | assumption)
                have q152 : x5_1 < (l0.length : Int) := of_decide_eq_true (by first | (with_reducible assumption) | assumption)
                obtain ⟨ad152, A152_0, c152_0, e152, hx152_0, hl152_0, hi152_0⟩ := at_L1 HR0.out x5_1 p152 q152
                obtain rfl : ad149 = ad152 := (by injection e152)
                have HR152_0 := Aside0.mk hi152_0
                have HC152_0 := Aside0.mk hl152_0
                clear hi152_0 hl152_0
                replace p152 := eq_true p152
                replace q152 := eq_true q152
                have ea_ := Option.some.inj (hx149_0.symm.trans hx152_0)
                injection ea_ with ea_ en_ ec_
                subst ea_
                subst ec_
                clear en_
                go_wp2
                go_ret
                exact ⟨by first | rfl | (simp; done) | (simp [*]; done), by repeat (first | exact Drawn0.refl _ | apply Drawn0.step)⟩
              · rw [if_neg c9] at H
                have c9b0 : decide (5000 < ((rd_L1 l0 x5_1).length : Int)) = false := decide_eq_false c9
                have c9b1 : decide (5000 < (rd_L1 l0 x5_1).length) = false := decide_eq_false (by omega)
                clear c9
                have H' := Aside0.mk H
                clear H
                have p149 : 0 ≤ (x5_1 : Int) := of_decide_eq_true (by first | (with_reducible assumption) | assumption)
                have q149 : x5_1 < (l0.length : Int) := of_decide_eq_true (by first | (with_reducible assumption) | assumption)
                obtain ⟨ad149, A149_0, c149_0, e149, hx149_0, hl149_0, hi149_0⟩ := at_L1 HR0.out x5_1 p149 q149
                cases e149
                have HR149_0 := Aside0.mk hi149_0
                have HC149_0 := Aside0.mk hl149_0
                clear hi149_0 hl149_0
                replace p149 := eq_true p149
                replace q149 := eq_true q149
                have p152 : 0 ≤ (x5_1 : Int) := of_decide_eq_true (by first | (with_reducible assumption) | assumption)
                have q152 : x5_1 < (l0.length : Int) := of_decide_eq_true (by first | (with_reducible assumption) | assumption)
                obtain ⟨ad152, A152_0, c152_0, e152, hx152_0, hl152_0, hi152_0⟩ := at_L1 HR0.out x5_1 p152 q152
                obtain rfl : ad149 = ad152 := (by injection e152)
                have HR152_0 := Aside0.mk hi152_0
                have HC152_0 := Aside0.mk hl152_0
                clear hi152_0 hl152_0
                replace p152 := eq_true p152
                replace q152 := eq_true q152
                have ea_ := Option.some.inj (hx149_0.symm.trans hx152_0)
                injection ea_ with ea_ en_ ec_
                subst ea_
                subst ec_
                clear en_
                go_wp2
                go_roundg k1
                case measure => have := HK1.out; omega
                case rel => exact ⟨(wrap64 (x5_1 + 1)), (by first | rfl | (simp; done) | (simp [*]; done)), H', ⟨by have := HK1.out; omega⟩, by repeat (first | exact Drawn0.refl _ | apply Drawn0.step)⟩
          · rw [if_neg c5] at H
            exact absurd H (by simp)
        · rw [if_neg c4] at H
          have c4b0 : decide (x5_1 < (l0.length : Int)) = false := decide_eq_false c4
          clear c4
          obtain rfl := Option.some.inj H
          go_wp2
          go_ret
          exact ⟨by first | rfl | (simp; done) | (simp [*]; done), by repeat (first | exact Drawn0.refl _ | apply Drawn0.step)⟩
-- NOT PRINTED: function 5 (beadrolllaw13_RowsTrue)
-- NOT PRINTED: function 74 (abi_NoEscape)
-- NOT PRINTED: function 62 (strings_Builder_copyCheck)
-- NOT PRINTED: function 47 (strings_Builder_WriteByte)
-- NOT PRINTED: function 48 (strings_Builder_String)
-- NOT PRINTED: function 28 (sha_Hex)
-- NOT PRINTED: function 26 (beadrolllaw02_alive)
-- NOT PRINTED: function 6 (beadrolllaw02_ShaParts)
-- NOT PRINTED: function 73 (bytealg_IndexByteString)
-- NOT PRINTED: function 61 (stringslite_IndexByte)
-- NOT PRINTED: function 46 (strings_IndexByte)
-- NOT PRINTED: function 27 (sha_Read)
-- NOT PRINTED: function 7 (beadrolllaw02_ShaNames)
-- NOT PRINTED: function 8 (beadrolllaw02_ShaBack)
def beadrollref01_Digits.l0 : Nat → Int → List Int → Int → Option (List Int × Bool)
  | 0, _, _, _ => none
  | k + 1, x0, x6, x7 => if x7 ≥ 0 then (if 0 ≤ x7 then (if x7 < (x6.length : Int) then (beadrollref01_Digits.l0 k (IntKind.u64.wrap (Int.tdiv x0 256)) (x6.set (x7 : Int).toNat ((Int.tmod x0 256) % 256)) (wrap64 (x7 - 1))) else (none)) else (none)) else (some (x6, (x0 == 0)))
def beadrollref01_Digits.f (k : Nat) (a0 : Int) (a1 : Int) : Option (List Int × Bool) := if 0 ≤ a1 then (if (a1 : Int).toNat ≤ 281474976710656 then (beadrollref01_Digits.l0 k a0 (List.replicate (a1 : Int).toNat 0) (wrap64 (a1 - 1))) else (none)) else (none)
theorem beadrollref01_Digits.mono_l : ∀ k, (∀ y0 y1 y2, LeO (beadrollref01_Digits.l0 k y0 y1 y2) (beadrollref01_Digits.l0 (k + 1) y0 y1 y2))
  | 0 => fun _ _ _ r h => by simp [beadrollref01_Digits.l0] at h
  | k + 1 => by
    have ih0 := beadrollref01_Digits.mono_l k
    · intro y0 y1 y2
      unfold beadrollref01_Digits.l0
      repeat' first
      | (with_reducible exact ih0 _ _ _)
      | (with_reducible exact LeO.refl _)
      | (with_reducible exact LeO.none _)
      | (with_reducible refine LeO.ite ?_ ?_)
      | (with_reducible refine LeO.bind ?_ (fun _ => ?_))
      | exact ih0 _ _ _
      | exact LeO.none _
      | refine LeO.ite ?_ ?_
      | refine LeO.bind ?_ (fun _ => ?_)
theorem beadrollref01_Digits.mono : ∀ a0 a1 k, LeO (beadrollref01_Digits.f k a0 a1) (beadrollref01_Digits.f (k + 1) a0 a1) := by
  intro a0 a1 k
  have ih0 := beadrollref01_Digits.mono_l k
  unfold beadrollref01_Digits.f
  repeat' first
      | (with_reducible exact ih0 _ _ _)
      | (with_reducible exact LeO.refl _)
      | (with_reducible exact LeO.none _)
      | (with_reducible refine LeO.ite ?_ ?_)
      | (with_reducible refine LeO.bind ?_ (fun _ => ?_))
      | exact ih0 _ _ _
      | exact LeO.none _
      | refine LeO.ite ?_ ?_
      | refine LeO.bind ?_ (fun _ => ?_)
set_option maxHeartbeats 8000000 in
set_option maxRecDepth 100000 in
theorem beadrollref01_Digits.calls (k : Nat) (a0 : Int) (a1 : Int) (r1 : List Int) (r2 : Bool) (w : World) (h : beadrollref01_Digits.f k a0 a1 = some (r1, r2)) :
    Calls Tryd.prog 77 #[.int .u64 a0, .int .i64 a1] w fun e w' => ∃ v0_ : Value, e = .returned (.tuple #[v0_, .bool r2]) ∧ Kd.R (Kd.int .u8) 5 w' w.heap.size (fun _ => True) v0_ r1 ∧ Below w.heap.size w w' := by
  have HB := Aside0.mk (Below.refl w.heap.size w)
  have H : (if 0 ≤ a1 then (if (a1 : Int).toNat ≤ 281474976710656 then (beadrollref01_Digits.l0 k a0 (List.replicate (a1 : Int).toNat 0) (wrap64 (a1 - 1))) else (none)) else (none)) = some (r1, r2) := h
  clear h
  by_cases c3 : 0 ≤ a1
  · rw [if_pos c3] at H
    have c3b0 := eq_true c3
    have c3b1 : decide (0 ≤ a1) = true := decide_eq_true c3
    clear c3
    by_cases c4 : (a1 : Int).toNat ≤ 281474976710656
    · rw [if_pos c4] at H
      have c4b0 := eq_true c4
      have c4b1 : decide ((a1 : Int).toNat ≤ 281474976710656) = true := decide_eq_true c4
      clear c4
      obtain ⟨y159, hy159⟩ : ∃ y_ : List Int, y_ = (List.replicate (a1 : Int).toNat 0) := ⟨_, rfl⟩
      replace H : (beadrollref01_Digits.l0 k a0 y159 (wrap64 (a1 - 1))) = some (r1, r2) := by first | (rw [hy159]; with_reducible exact H) | (have H2_ := (Option.bind_some _ _).symm.trans H; rw [hy159]; with_reducible exact H2_) | (have H2_ := (Option.bind_some _ _).symm.trans H; with_reducible exact H2_) | with_reducible exact H | (rw [hy159]; exact H) | exact H
      have Ny159 := Aside0.mk hy159
      clear hy159
      have H' := Aside0.mk H
      clear H
      go_enter Tryd.func77, Tryd.ntmps77
      go_wp2_with (first | ((with_reducible refine gate_dst (N := 9) rfl ?_); refine Kd.R_make (Kd.int .u8) _ 5 rfl (N := 9) rfl 22 _ _ rfl a1 rfl rfl Tryd.underlying22 (.int .u8 0) 1 info5 rfl (by decide) (by omega) 0 (ok := fun _ => True) (okp := fun _ => True) rfl (fun _ hk => hk) trivial (of_decide_eq_true (by first | (with_reducible assumption) | assumption)) (Nat.le_trans (Nat.mul_le_mul_right _ (of_decide_eq_true (by first | (with_reducible assumption) | assumption) : a1.toNat ≤ 281474976710656)) (by omega)) (Below.refl _ _) (Nat.le_refl _) ?_; intro v160 w5 ho6 hb hg_ hnew_; clear hg_ hnew_; (first | rw [← Ny159.out] at ho6 | (simp only [Int.reduceToNat] at ho6; rw [← Ny159.out] at ho6)); have n0_ := Aside0.mk (Kd.R_lower ho6 (below_size (by repeat (first | (with_reducible first | exact HB.out | apply below_alloc | apply pw_below_drewN | apply below_drew1) | exact HB.out)))); have n1_ := Aside0.mk (below_step (by repeat (first | (with_reducible first | exact HB.out | apply below_alloc | apply pw_below_drewN | apply below_drew1) | exact HB.out)) hb); clear HB; have HO161 := n0_; have HB := n1_; clear n0_ n1_; clear hb ho6))
      go_loopg [0, 7] k (fun kq v0 v7 w' => ∃ (x0_1 : Int) (x6_1 : List Int) (x7_1 : Int), v0 = .int .u64 x0_1 ∧ v7 = .int .i64 x7_1 ∧ Aside0 (beadrollref01_Digits.l0 kq x0_1 x6_1 x7_1 = some (r1, r2)) ∧ Aside0 (kq ≤ k) ∧ Aside0 (Kd.R (Kd.int .u8) 5 w' w.heap.size (fun _ => True) v160 x6_1) ∧ Aside0 (Below w.heap.size w w'))
      case atStart => exact ⟨(a0), (y159), (wrap64 (a1 - 1)), (by first | rfl | (simp; done) | (simp [*]; done)), (by first | rfl | (simp; done) | (simp [*]; done)), H', ⟨Nat.le_refl _⟩, ⟨by (with_reducible repeat (first | apply Kd.R_alloc | apply Kd.R_drewN | apply Kd.R_drew)); exact HO161.out⟩, ⟨by repeat (first | (with_reducible first | exact HB.out | apply below_alloc | apply pw_below_drewN | apply below_drew1) | exact HB.out)⟩⟩
      case round =>
        clear H'
        try clear p2
        try clear c3
        try clear c3b0
        try clear c3b1
        try clear c4
        try clear c4b0
        try clear c4b1
        try clear p6
        obtain ⟨x0_1, x6_1, x7_1, rfl, rfl, HA, HK1, HO_6, HB⟩ := hrel
        cases gk with
        | zero => exact absurd HA.out (by simp [beadrollref01_Digits.l0])
        | succ k1 =>
          have H := HA.out
          clear HA
          simp only [beadrollref01_Digits.l0] at H
          by_cases c7 : x7_1 ≥ 0
          · rw [if_pos c7] at H
            have c7b0 : decide (0 ≤ x7_1) = true := decide_eq_true c7
            clear c7
            by_cases c8 : 0 ≤ x7_1
            · rw [if_pos c8] at H
              have c8b0 : decide (0 ≤ x7_1) = true := decide_eq_true c8
              clear c8
              by_cases c9 : x7_1 < (x6_1.length : Int)
              · rw [if_pos c9] at H
                have c9b0 : decide (x7_1 < (x6_1.length : Int)) = true := decide_eq_true c9
                clear c9
                obtain ⟨y162, hy162⟩ : ∃ y_ : List Int, y_ = (x6_1.set (x7_1 : Int).toNat ((Int.tmod x0_1 256) % 256)) := ⟨_, rfl⟩
                replace H : (beadrollref01_Digits.l0 k1 (IntKind.u64.wrap (Int.tdiv x0_1 256)) y162 (wrap64 (x7_1 - 1))) = some (r1, r2) := by first | (rw [hy162]; with_reducible exact H) | (have H2_ := (Option.bind_some _ _).symm.trans H; rw [hy162]; with_reducible exact H2_) | (have H2_ := (Option.bind_some _ _).symm.trans H; with_reducible exact H2_) | with_reducible exact H | (rw [hy162]; exact H) | exact H
                have Ny162 := Aside0.mk hy162
                clear hy162
                have H' := Aside0.mk H
                clear H
                have p10 : 0 ≤ (x7_1 : Int) := of_decide_eq_true (by first | (with_reducible assumption) | assumption)
                have q10 : (x7_1 : Int) < ((x6_1.length : Int) : Int) := of_decide_eq_true (by first | (with_reducible assumption) | assumption)
                obtain ⟨go10, co10, eo10, gb10, gl10, cl10, HG10⟩ := Kd.R_form HO_6.out (by omega)
                (first | cases eo10 | (injection eo10 with ea_ en_ ec_; (first | subst ea_ | (injection ea_ with ea_; subst ea_)); subst ec_; clear en_))
                have GB10 := Aside0.mk gb10
                have GG10 := Aside0.mk HG10
                clear gb10 gl10 HG10
                obtain ⟨hx10_0, hf10_0⟩ := Kd.R_celln 0 HO_6.out (x7_1 : Int) p10 q10
                replace p10 := eq_true p10
                replace q10 := eq_true q10
                have HP11 := Kd.R_putg HO_6.out (x7_1 : Int) ((Int.tmod x0_1 256) % 256)
                go_wp2_with (first | ((with_reducible refine gate_store (t := 5) (p := 21) rfl ?_); refine store_event (t := 5) (p := 21) (v := ?vo_w12) (w1 := (wr.setCell ⟨go10, (x7_1 : Int).toNat, none⟩ (.int .u8 ((Int.tmod x0_1 256) % 256)))) ?hg ?ho ?hn ?hr ?_; (case ho => rfl); (case hg => rfl); (case hn => rfl); (case hr => first | (go_simp; done) | (go_simp; rfl)); intro w12 hw; have hg : wr.grownBy w12 (some go10) := (by rw [hw]; exact HP11.2); have hp_ : Kd.R (Kd.int .u8) 5 w12 w.heap.size (fun _ => True) (.slice (some ⟨go10, 0, none⟩) x6_1.length co10) y162 := (by rw [hw, Ny162.out]; exact HP11.1); clear HP11; have n0_ := Aside0.mk (hp_); have n1_ := Aside0.mk ((by rw [hw]; exact below_set (HB.out) GB10.out : Below w.heap.size w w12)); clear HO_6; clear HB; have HO_6 := n0_; have HB := n1_; clear n0_ n1_; clear hg hw hp_))
                go_roundg k1
                case measure => have := HK1.out; omega
                case rel => exact ⟨(IntKind.u64.wrap (Int.tdiv x0_1 256)), (y162), (wrap64 (x7_1 - 1)), (by first | rfl | (simp; done) | (simp [*]; done)), (by first | rfl | (simp; done) | (simp [*]; done)), H', ⟨by have := HK1.out; omega⟩, ⟨by (with_reducible repeat (first | apply Kd.R_alloc | apply Kd.R_drewN | apply Kd.R_drew)); exact HO_6.out⟩, ⟨by repeat (first | (with_reducible first | exact HB.out | apply below_alloc | apply pw_below_drewN | apply below_drew1) | exact HB.out)⟩⟩
              · rw [if_neg c9] at H
                exact absurd H (by simp)
            · rw [if_neg c8] at H
              exact absurd H (by simp)
          · rw [if_neg c7] at H
            have c7b0 : decide (0 ≤ x7_1) = false := decide_eq_false c7
            clear c7
            simp only [Option.some.injEq, Prod.mk.injEq] at H
            obtain ⟨rfl, rfl⟩ := H
            go_wp2
            go_ret2
            exact ⟨_, by first | rfl | (simp [errW_none, errW_some] <;> rfl) | (simp [*, errW_none, errW_some] <;> rfl), by (with_reducible repeat (first | apply Kd.R_alloc | apply Kd.R_drewN | apply Kd.R_drew)); exact HO_6.out, by repeat (first | (with_reducible first | exact HB.out | apply below_alloc | apply pw_below_drewN | apply below_drew1) | exact HB.out)⟩
    · rw [if_neg c4] at H
      exact absurd H (by simp)
  · rw [if_neg c3] at H
    exact absurd H (by simp)
def beadrollref03_Bytes.l0 : Nat → List (List Int) → List Int → Int → Option (List Int)
  | 0, _, _, _ => none
  | k + 1, x1, x5, x6 => if x6 < (x1.length : Int) then (if 0 ≤ x6 then ((beadrollref01_Digits.f k (Int.tmod (IntKind.u64.wrap (((rd_L1 x1 x6).length : Int))) 4294967296) 4).bind fun bt167 => (if x5.length + bt167.1.length < 140737488355328 then ((some (x5 ++ bt167.1 : List Int)).bind fun y171 => (if y171.length + (rd_L1 x1 x6).length < 140737488355328 then (beadrollref03_Bytes.l0 k x1 (y171 ++ (rd_L1 x1 x6)) (wrap64 (x6 + 1))) else (none))) else (none))) else (none)) else (some x5)
def beadrollref03_Bytes.f (k : Nat) (a0 : Int) (l1 : List (List Int)) : Option (List Int) := beadrollref03_Bytes.l0 k l1 (([a0] : List Int)) 0
theorem beadrollref03_Bytes.mono_l : ∀ k, (∀ y0 y1 y2, LeO (beadrollref03_Bytes.l0 k y0 y1 y2) (beadrollref03_Bytes.l0 (k + 1) y0 y1 y2))
  | 0 => fun _ _ _ r h => by simp [beadrollref03_Bytes.l0] at h
  | k + 1 => by
    have ih0 := beadrollref03_Bytes.mono_l k
    · intro y0 y1 y2
      unfold beadrollref03_Bytes.l0
      repeat' first
      | (with_reducible exact ih0 _ _ _)
      | (with_reducible exact beadrollref01_Digits.mono _ _ _)
      | (with_reducible exact LeO.refl _)
      | (with_reducible exact LeO.none _)
      | (with_reducible refine LeO.ite ?_ ?_)
      | (with_reducible refine LeO.bind ?_ (fun _ => ?_))
      | exact ih0 _ _ _
      | exact beadrollref01_Digits.mono _ _ _
      | exact LeO.none _
      | refine LeO.ite ?_ ?_
      | refine LeO.bind ?_ (fun _ => ?_)
theorem beadrollref03_Bytes.mono : ∀ a0 a1 k, LeO (beadrollref03_Bytes.f k a0 a1) (beadrollref03_Bytes.f (k + 1) a0 a1) := by
  intro a0 a1 k
  have ih0 := beadrollref03_Bytes.mono_l k
  unfold beadrollref03_Bytes.f
  repeat' first
      | (with_reducible exact ih0 _ _ _)
      | (with_reducible exact beadrollref01_Digits.mono _ _ _)
      | (with_reducible exact LeO.refl _)
      | (with_reducible exact LeO.none _)
      | (with_reducible refine LeO.ite ?_ ?_)
      | (with_reducible refine LeO.bind ?_ (fun _ => ?_))
      | exact ih0 _ _ _
      | exact beadrollref01_Digits.mono _ _ _
      | exact LeO.none _
      | refine LeO.ite ?_ ?_
      | refine LeO.bind ?_ (fun _ => ?_)
set_option maxHeartbeats 8000000 in
set_option maxRecDepth 100000 in
theorem beadrollref03_Bytes.calls (k : Nat) (a0 : Int) (A1 : Option Addr) (c1 : Nat) (l1 : List (List Int)) (r : List Int) (w : World) (hr1 : Kd.C (Kd.slice 5 (Kd.int .u8)) w A1 l1.length l1) (hc1 : l1.length ≤ c1) (h : beadrollref03_Bytes.f k a0 l1 = some r) :
    Calls Tryd.prog 76 #[.int .u8 a0, .slice A1 l1.length c1] w fun e w' => ∃ v0_ : Value, e = .returned (v0_) ∧ Kd.R (Kd.int .u8) 5 w' w.heap.size (fun _ => True) v0_ r ∧ Below w.heap.size w w' := by
  have HR1 := Aside0.mk hr1
  have HC1 := Aside0.mk hc1
  clear hr1 hc1
  have HB := Aside0.mk (Below.refl w.heap.size w)
  have H : (beadrollref03_Bytes.l0 k l1 (([a0] : List Int)) 0) = some r := h
  clear h
  obtain ⟨y163, hy163⟩ : ∃ y_ : List Int, y_ = (([a0] : List Int)) := ⟨_, rfl⟩
  replace H : (beadrollref03_Bytes.l0 k l1 y163 0) = some r := by first | (rw [hy163]; with_reducible exact H) | (have H2_ := (Option.bind_some _ _).symm.trans H; rw [hy163]; with_reducible exact H2_) | (have H2_ := (Option.bind_some _ _).symm.trans H; with_reducible exact H2_) | with_reducible exact H | (rw [hy163]; exact H) | exact H
  have Ny163 := Aside0.mk hy163
  clear hy163
  have H' := Aside0.mk H
  clear H
  go_enter Tryd.func76, Tryd.ntmps76
  go_wp2_with (first | ((with_reducible refine gate_dst (N := 10) rfl ?_); refine Kd.R_lit (Kd.int .u8) _ 5 ?hg (N := 10) ?hd (xs := ([a0] : List Int)) (inner := [.int .u8 a0]) (ok := fun _ => True) (okp := fun _ => True) ?hr ?hp (fun _ hk => hk) trivial (Below.refl _ _) (Nat.le_refl _) (by simp) ?_; (case hd => rfl); (case hg => rfl); (case hr => first | (go_simp; done) | (go_simp; rfl)); (case hp => exact (Reps.one (show Kd.M (Kd.int .u8) _ _ _ a0 [.int .u8 a0] from rfl) (Reps.none _ _))); intro v164 w3 ho4 hb hg_ hnew_; clear hg_ hnew_; (first | rw [← Ny163.out] at ho4 | (simp only [Int.reduceToNat] at ho4; rw [← Ny163.out] at ho4)); have n0_ := Aside0.mk (Kd.R_lower ho4 (below_size (by repeat (first | (with_reducible first | exact HB.out | apply below_alloc | apply pw_below_drewN | apply below_drew1) | exact HB.out)))); have n1_ := Aside0.mk (below_step (by repeat (first | (with_reducible first | exact HB.out | apply below_alloc | apply pw_below_drewN | apply below_drew1) | exact HB.out)) hb); clear HB; have HO165 := n0_; have HB := n1_; clear n0_ n1_; clear hb ho4))
  go_loopg [5, 6] k (fun kq v5 v6 w' => ∃ (x5_1 : List Int) (x6_1 : Int), v6 = .int .i64 x6_1 ∧ Aside0 (beadrollref03_Bytes.l0 kq l1 x5_1 x6_1 = some r) ∧ Aside0 (kq ≤ k) ∧ Aside0 (Kd.R (Kd.int .u8) 5 w' w.heap.size (fun _ => True) v5 x5_1) ∧ Aside0 (Below w.heap.size w w'))
  case atStart => exact ⟨(y163), (0), (by first | rfl | (simp; done) | (simp [*]; done)), H', ⟨Nat.le_refl _⟩, ⟨by (with_reducible repeat (first | apply Kd.R_alloc | apply Kd.R_drewN | apply Kd.R_drew)); exact HO165.out⟩, ⟨by repeat (first | (with_reducible first | exact HB.out | apply below_alloc | apply pw_below_drewN | apply below_drew1) | exact HB.out)⟩⟩
  case round =>
    clear H'
    try clear c1
    try clear p2
    obtain ⟨x5_1, x6_1, rfl, HA, HK1, HO_5, HB⟩ := hrel
    cases gk with
    | zero => exact absurd HA.out (by simp [beadrollref03_Bytes.l0])
    | succ k1 =>
      have H := HA.out
      clear HA
      simp only [beadrollref03_Bytes.l0] at H
      by_cases c5 : x6_1 < (l1.length : Int)
      · rw [if_pos c5] at H
        have c5b0 : decide (x6_1 < (l1.length : Int)) = true := decide_eq_true c5
        clear c5
        by_cases c6 : 0 ≤ x6_1
        · rw [if_pos c6] at H
          have c6b0 : decide (0 ≤ x6_1) = true := decide_eq_true c6
          clear c6
          replace H := Option.bind_eq_some_iff.mp H
          obtain ⟨⟨t167, t168⟩, A70, H⟩ := H
          replace H : (if x5_1.length + t167.length < 140737488355328 then ((some (x5_1 ++ t167 : List Int)).bind fun y171 => (if y171.length + (rd_L1 l1 x6_1).length < 140737488355328 then (beadrollref03_Bytes.l0 k1 l1 (y171 ++ (rd_L1 l1 x6_1)) (wrap64 (x6_1 + 1))) else (none))) else (none)) = some r := H
          have A7 := Aside0.mk A70
          clear A70
          by_cases c8 : x5_1.length + t167.length < 140737488355328
          · rw [if_pos c8] at H
            have LMc8 := Aside0.mk c8
            clear c8
            obtain ⟨y171, hy171⟩ : ∃ y_ : List Int, y_ = (x5_1 ++ t167) := ⟨_, rfl⟩
            replace H : (if y171.length + (rd_L1 l1 x6_1).length < 140737488355328 then (beadrollref03_Bytes.l0 k1 l1 (y171 ++ (rd_L1 l1 x6_1)) (wrap64 (x6_1 + 1))) else (none)) = some r := by first | (rw [hy171]; with_reducible exact H) | (have H2_ := (Option.bind_some _ _).symm.trans H; rw [hy171]; with_reducible exact H2_) | (have H2_ := (Option.bind_some _ _).symm.trans H; with_reducible exact H2_) | with_reducible exact H | (rw [hy171]; exact H) | exact H
            have Ny171 := Aside0.mk hy171
            clear hy171
            by_cases c9 : y171.length + (rd_L1 l1 x6_1).length < 140737488355328
            · rw [if_pos c9] at H
              have LMc9 := Aside0.mk c9
              clear c9
              obtain ⟨y175, hy175⟩ : ∃ y_ : List Int, y_ = (y171 ++ (rd_L1 l1 x6_1)) := ⟨_, rfl⟩
              replace H : (beadrollref03_Bytes.l0 k1 l1 y175 (wrap64 (x6_1 + 1))) = some r := by first | (rw [hy175]; with_reducible exact H) | (have H2_ := (Option.bind_some _ _).symm.trans H; rw [hy175]; with_reducible exact H2_) | (have H2_ := (Option.bind_some _ _).symm.trans H; with_reducible exact H2_) | with_reducible exact H | (rw [hy175]; exact H) | exact H
              have Ny175 := Aside0.mk hy175
              clear hy175
              have H' := Aside0.mk H
              clear H
              have p166 : 0 ≤ (x6_1 : Int) := of_decide_eq_true (by first | (with_reducible assumption) | assumption)
              have q166 : x6_1 < (l1.length : Int) := of_decide_eq_true (by first | (with_reducible assumption) | assumption)
              obtain ⟨ad166, A166_0, c166_0, e166, hx166_0, hl166_0, hi166_0⟩ := at_L1 HR1.out x6_1 p166 q166
              cases e166
              replace hx166_0 := (HB.out.cell (World.block_lt_of_cell? w _ hx166_0)).trans hx166_0
              have HR166_0 := Aside0.mk hi166_0
              have HC166_0 := Aside0.mk hl166_0
              clear hi166_0 hl166_0
              replace p166 := eq_true p166
              replace q166 := eq_true q166
              go_wp2_with (first | ((with_reducible refine gate_callee (f := 77) rfl ?_); refine goesL_ (some 25) rfl rfl Tryd.func77 (by kernel_rfl) rfl #[.int .u64 (Int.tmod (IntKind.u64.wrap (((rd_L1 l1 x6_1).length : Int))) 4294967296), .int .i64 4] rfl (by (try simp only [List.map_toArray, List.map_cons, List.map_nil]); first | done | rfl | (simp only [List.length_drop, List.length_take]; rfl)) ?_; (with_reducible refine (beadrollref01_Digits.calls k1 (Int.tmod (IntKind.u64.wrap (((rd_L1 l1 x6_1).length : Int))) 4294967296) 4 t167 t168 _ A7.out).mono ?_); rintro e w10 ⟨v169, rfl, ho0, hb⟩; refine ⟨_, rfl, ?_⟩; have n0_ := Aside0.mk (Kd.R_elder' (by (with_reducible repeat (first | apply Kd.R_alloc | apply Kd.R_drewN | apply Kd.R_drew)); exact HO_5.out) (Kd.R_base ho0) hb); have n1_ := Aside0.mk (Kd.R_lower (Kd.R_new' ho0 (Kd.R_lt (by (with_reducible repeat (first | apply Kd.R_alloc | apply Kd.R_drewN | apply Kd.R_drew)); exact HO_5.out))) (below_size (by repeat (first | (with_reducible first | exact HB.out | apply below_alloc | apply pw_below_drewN | apply below_drew1) | exact HB.out)))); have n2_ := Aside0.mk (below_step (by repeat (first | (with_reducible first | exact HB.out | apply below_alloc | apply pw_below_drewN | apply below_drew1) | exact HB.out)) hb); clear HO_5; clear HB; have HO_5 := n0_; have HO170 := n1_; have HB := n2_; clear n0_ n1_ n2_; (try clear hb); (try clear hb2); (try clear hk); (try clear hi); (try clear ho0); obtain ⟨Ao12, co12, eo12⟩ := Kd.R_slice HO170.out; subst eo12) | ((with_reducible refine gate_builtin (b := .append) (xs := #[.tmp 28, .tmp 29]) rfl ?_); at_builtin; refine Kd.R_append_rows (Kd.int .u8) (w0 := w) w.heap.size rfl (.tmp 28) (.tmp 29) 22 5 (.int .u8 0) 1 rfl Tryd.underlying22 info5 rfl (by decide) (by omega) u5 x5_1 t167 _ _ _ (fun k_ => some k_ ≠ (.slice Ao12 t167.length co12 : Value).ownBlock) (fun _ => False) rfl rfl ?aO ?aR (fun _ _ h => h) (fun _ h => h.elim) ?aF ?aB ?aS ?aL ?_; (case aR => repeat (first | exact (Kd.R_reads' HO170.out).2.2 | (with_reducible refine Kd.C_alloc ?_ _) | (with_reducible refine Kd.C_drewN ?_ _) | (with_reducible refine Kd.C_drew ?_))); (case aB => exact (by repeat (first | (with_reducible first | exact HB.out | apply below_alloc | apply pw_below_drewN | apply below_drew1) | exact HB.out))); (case aF => exact (fun k_ hk => Kd.fresh' (Kd.R_lt (by (with_reducible repeat (first | apply Kd.R_alloc | apply Kd.R_drewN | apply Kd.R_drew)); exact HO170.out)) k_ hk)); (case aO => exact (by (with_reducible repeat (first | apply Kd.R_alloc | apply Kd.R_drewN | apply Kd.R_drew)); exact Kd.R_mono HO_5.out (fun _ hk => hk.2))); (case aS => exact (below_size (by repeat (first | (with_reducible first | exact HB.out | apply below_alloc | apply pw_below_drewN | apply below_drew1) | exact HB.out)))); (case aL => have := LMc8.out; omega); intro v172 w11 ho hb hg hat; rw [← Ny171.out] at ho; have n0_ := Aside0.mk (Kd.R_after (ok := (fun _ => True)) (by (with_reducible repeat (first | apply Kd.R_alloc | apply Kd.R_drewN | apply Kd.R_drew)); exact HO170.out) hg hat); have n1_ := Aside0.mk (hb); have n2_ := Aside0.mk (ho); clear HO170; clear HB; clear HO_5; have HO170 := n0_; have HB := n1_; have HO173 := n2_; clear n0_ n1_ n2_; clear ho hb hg hat; have p174 : 0 ≤ (x6_1 : Int) := of_decide_eq_true (by first | (with_reducible assumption) | assumption); have q174 : x6_1 < (l1.length : Int) := of_decide_eq_true (by first | (with_reducible assumption) | assumption); obtain ⟨ad174, A174_0, c174_0, e174, hx174_0, hl174_0, hi174_0⟩ := at_L1 HR1.out x6_1 p174 q174; obtain rfl : ad166 = ad174 := (by injection e174); replace hx174_0 := (HB.out.cell (World.block_lt_of_cell? w _ hx174_0)).trans hx174_0; have HR174_0 := Aside0.mk hi174_0; have HC174_0 := Aside0.mk hl174_0; clear hi174_0 hl174_0; replace p174 := eq_true p174; replace q174 := eq_true q174) | ((with_reducible refine gate_builtin (b := .append) (xs := #[.tmp 31, .tmp 35]) rfl ?_); at_builtin; refine Kd.R_append_rows (Kd.int .u8) (w0 := w) w.heap.size rfl (.tmp 31) (.tmp 35) 22 5 (.int .u8 0) 1 rfl Tryd.underlying22 info5 rfl (by decide) (by omega) v172 y171 (rd_L1 l1 x6_1) _ _ _ (fun k_ => some k_ ≠ (.slice Ao12 t167.length co12 : Value).ownBlock) (fun _ => False) rfl rfl ?aO ?aR (fun _ _ h => h) (fun _ h => h.elim) ?aF ?aB ?aS ?aL ?_; (case aR => repeat (first | exact (Kd.C_below HR174_0.out HB.out) | (with_reducible refine Kd.C_alloc ?_ _) | (with_reducible refine Kd.C_drewN ?_ _) | (with_reducible refine Kd.C_drew ?_))); (case aB => exact (by repeat (first | (with_reducible first | exact HB.out | apply below_alloc | apply pw_below_drewN | apply below_drew1) | exact HB.out))); (case aF => exact (fun k_ hk => Kd.fresh' (Kd.R_lt (by (with_reducible repeat (first | apply Kd.R_alloc | apply Kd.R_drewN | apply Kd.R_drew)); exact HO170.out)) k_ hk)); (case aO => exact (by (with_reducible repeat (first | apply Kd.R_alloc | apply Kd.R_drewN | apply Kd.R_drew)); exact HO173.out)); (case aS => exact (below_size (by repeat (first | (with_reducible first | exact HB.out | apply below_alloc | apply pw_below_drewN | apply below_drew1) | exact HB.out)))); (case aL => have := LMc9.out; omega); intro v176 w13 ho hb hg hat; rw [← Ny175.out] at ho; have n0_ := Aside0.mk (Kd.R_after (ok := (fun _ => True)) (by (with_reducible repeat (first | apply Kd.R_alloc | apply Kd.R_drewN | apply Kd.R_drew)); exact HO170.out) hg hat); have n1_ := Aside0.mk (hb); have n2_ := Aside0.mk (ho); clear HO170; clear HB; clear HO173; have HO170 := n0_; have HB := n1_; have HO177 := n2_; clear n0_ n1_ n2_; clear ho hb hg hat))
              go_roundg k1
              case measure => have := HK1.out; omega
              case rel => exact ⟨(y175), (wrap64 (x6_1 + 1)), (by first | rfl | (simp; done) | (simp [*]; done)), H', ⟨by have := HK1.out; omega⟩, ⟨by (with_reducible repeat (first | apply Kd.R_alloc | apply Kd.R_drewN | apply Kd.R_drew)); exact Kd.R_mono HO177.out (fun _ hk => trivial)⟩, ⟨by repeat (first | (with_reducible first | exact HB.out | apply below_alloc | apply pw_below_drewN | apply below_drew1) | exact HB.out)⟩⟩
            · rw [if_neg c9] at H
              exact absurd H (by simp)
          · rw [if_neg c8] at H
            exact absurd H (by simp)
        · rw [if_neg c6] at H
          exact absurd H (by simp)
      · rw [if_neg c5] at H
        have c5b0 : decide (x6_1 < (l1.length : Int)) = false := decide_eq_false c5
        clear c5
        obtain rfl := Option.some.inj H
        go_wp2
        go_ret
        exact ⟨_, by first | rfl | (simp [errW_none, errW_some] <;> rfl) | (simp [*, errW_none, errW_some] <;> rfl), by (with_reducible repeat (first | apply Kd.R_alloc | apply Kd.R_drewN | apply Kd.R_drew)); exact HO_5.out, by repeat (first | (with_reducible first | exact HB.out | apply below_alloc | apply pw_below_drewN | apply below_drew1) | exact HB.out)⟩
-- NOT PRINTED: function 75 (beadrollref03_Of)
-- NOT PRINTED: function 63 (beadrollref03_One)
end Go.Proofs.YtoaimcobcgomjaaDoor.Q
namespace Go.Proofs.YtoaimcobcgomjaaDoor.Q
open Go.RowKit Go.Proofs.YtoaimcobcgomjaaDoorW.PrintWords Go.Proofs.YtoaimcobcgomjaaDoorW.PrintLast Go.Proofs.YtoaimcobcgomjaaDoorW.PrintMore
attribute [local go_sem] max2_int min2_int max_two min_two max_three min_three max_four min_four   -- for this text's walks alone
set_option linter.unusedVariables false
set_option linter.unusedSimpArgs false
def beadrollref13_First.l0 : Nat → Int → Int → Option (Int)
  | 0, _, _ => none
  | k + 1, x0, x3 => if (wrap64 (2 * x3)) < x0 then (beadrollref13_First.l0 k x0 (wrap64 (2 * x3))) else (some x3)
def beadrollref13_First.f (k : Nat) (a0 : Int) : Option (Int) := beadrollref13_First.l0 k a0 1
theorem beadrollref13_First.mono_l : ∀ k, (∀ y0 y1, LeO (beadrollref13_First.l0 k y0 y1) (beadrollref13_First.l0 (k + 1) y0 y1))
  | 0 => fun _ _ r h => by simp [beadrollref13_First.l0] at h
  | k + 1 => by
    have ih0 := beadrollref13_First.mono_l k
    · intro y0 y1
      unfold beadrollref13_First.l0
      repeat' first
      | (with_reducible exact ih0 _ _)
      | (with_reducible exact LeO.refl _)
      | (with_reducible exact LeO.none _)
      | (with_reducible refine LeO.ite ?_ ?_)
      | (with_reducible refine LeO.bind ?_ (fun _ => ?_))
      | exact ih0 _ _
      | exact LeO.none _
      | refine LeO.ite ?_ ?_
      | refine LeO.bind ?_ (fun _ => ?_)
theorem beadrollref13_First.mono : ∀ a0 k, LeO (beadrollref13_First.f k a0) (beadrollref13_First.f (k + 1) a0) := by
  intro a0 k
  have ih0 := beadrollref13_First.mono_l k
  unfold beadrollref13_First.f
  repeat' first
      | (with_reducible exact ih0 _ _)
      | (with_reducible exact LeO.refl _)
      | (with_reducible exact LeO.none _)
      | (with_reducible refine LeO.ite ?_ ?_)
      | (with_reducible refine LeO.bind ?_ (fun _ => ?_))
      | exact ih0 _ _
      | exact LeO.none _
      | refine LeO.ite ?_ ?_
      | refine LeO.bind ?_ (fun _ => ?_)
set_option maxHeartbeats 8000000 in
set_option maxRecDepth 100000 in
theorem beadrollref13_First.calls (k : Nat) (a0 : Int) (r : Int) (w : World) (h : beadrollref13_First.f k a0 = some r) :
    Calls Tryd.prog 64 #[.int .i64 a0] w fun e w' => e = .returned (.int .i64 r) ∧ Drawn0 w w' := by
  have H : (beadrollref13_First.l0 k a0 1) = some r := h
  clear h
  have H' := Aside0.mk H
  clear H
  go_enter Tryd.func64, Tryd.ntmps64
  go_wp2
  go_loopg [3] k (fun kq v3 w' => ∃ (x3_1 : Int), v3 = .int .i64 x3_1 ∧ Aside0 (beadrollref13_First.l0 kq a0 x3_1 = some r) ∧ Aside0 (kq ≤ k) ∧ Drawn0 w w')
  case atStart => exact ⟨(1), (by first | rfl | (simp; done) | (simp [*]; done)), H', ⟨Nat.le_refl _⟩, by repeat (first | exact Drawn0.refl _ | apply Drawn0.step)⟩
  case round =>
    clear H'
    obtain ⟨x3_1, rfl, HA, HK1, ⟨m1, rfl⟩⟩ := hrel
    cases gk with
    | zero => exact absurd HA.out (by simp [beadrollref13_First.l0])
    | succ k1 =>
      have H := HA.out
      clear HA
      simp only [beadrollref13_First.l0] at H
      by_cases c2 : (wrap64 (2 * x3_1)) < a0
      · rw [if_pos c2] at H
        have c2b0 : decide ((wrap64 (2 * x3_1)) < a0) = true := decide_eq_true c2
        clear c2
        have H' := Aside0.mk H
        clear H
        go_wp2
        go_roundg k1
        case measure => have := HK1.out; omega
        case rel => exact ⟨(wrap64 (2 * x3_1)), (by first | rfl | (simp; done) | (simp [*]; done)), H', ⟨by have := HK1.out; omega⟩, by repeat (first | exact Drawn0.refl _ | apply Drawn0.step)⟩
      · rw [if_neg c2] at H
        have c2b0 : decide ((wrap64 (2 * x3_1)) < a0) = false := decide_eq_false c2
        clear c2
        obtain rfl := Option.some.inj H
        go_wp2
        go_ret
        exact ⟨by first | rfl | (simp; done) | (simp [*]; done), by repeat (first | exact Drawn0.refl _ | apply Drawn0.step)⟩
-- NOT PRINTED: function 65 (beadrollref03_Two)
-- NOT PRINTED: function 49 (beadrollref13_made)
-- NOT PRINTED: function 29 (beadrollref13_Fits)
-- NOT PRINTED: function 9 (beadrolllaw13_RowsFit)
-- NOT PRINTED: function 10 (beadrolllaw13_RowsJoin)
def beadrollref13_Twin.l0 : Nat → List (List Int) → List (List Int) → Int → Option ((List (List Int)))
  | 0, _, _, _ => none
  | k + 1, x0, x3, x4 => if x4 < (x0.length : Int) then (if 0 ≤ x4 then (if ([] : List Int).length + (rd_L1 x0 x4).length < 140737488355328 then (if x3.length < 5864062014805 then (beadrollref13_Twin.l0 k x0 (x3 ++ [(([] : List Int) ++ (rd_L1 x0 x4))]) (wrap64 (x4 + 1))) else (none)) else (none)) else (none)) else (some x3)
def beadrollref13_Twin.f (k : Nat) (l0 : List (List Int)) : Option ((List (List Int))) := beadrollref13_Twin.l0 k l0 ([] : List (List Int)) 0
theorem beadrollref13_Twin.mono_l : ∀ k, (∀ y0 y1 y2, LeO (beadrollref13_Twin.l0 k y0 y1 y2) (beadrollref13_Twin.l0 (k + 1) y0 y1 y2))
  | 0 => fun _ _ _ r h => by simp [beadrollref13_Twin.l0] at h
  | k + 1 => by
    have ih0 := beadrollref13_Twin.mono_l k
    · intro y0 y1 y2
      unfold beadrollref13_Twin.l0
      repeat' first
      | (with_reducible exact ih0 _ _ _)
      | (with_reducible exact LeO.refl _)
      | (with_reducible exact LeO.none _)
      | (with_reducible refine LeO.ite ?_ ?_)
      | (with_reducible refine LeO.bind ?_ (fun _ => ?_))
      | exact ih0 _ _ _
      | exact LeO.none _
      | refine LeO.ite ?_ ?_
      | refine LeO.bind ?_ (fun _ => ?_)
theorem beadrollref13_Twin.mono : ∀ a0 k, LeO (beadrollref13_Twin.f k a0) (beadrollref13_Twin.f (k + 1) a0) := by
  intro a0 k
  have ih0 := beadrollref13_Twin.mono_l k
  unfold beadrollref13_Twin.f
  repeat' first
      | (with_reducible exact ih0 _ _ _)
      | (with_reducible exact LeO.refl _)
      | (with_reducible exact LeO.none _)
      | (with_reducible refine LeO.ite ?_ ?_)
      | (with_reducible refine LeO.bind ?_ (fun _ => ?_))
      | exact ih0 _ _ _
      | exact LeO.none _
      | refine LeO.ite ?_ ?_
      | refine LeO.bind ?_ (fun _ => ?_)
set_option maxHeartbeats 8000000 in
set_option maxRecDepth 100000 in
theorem beadrollref13_Twin.calls (k : Nat) (A0 : Option Addr) (c0 : Nat) (l0 : List (List Int)) (r : List (List Int)) (w : World) (hr0 : Kd.C (Kd.slice 5 (Kd.int .u8)) w A0 l0.length l0) (hc0 : l0.length ≤ c0) (h : beadrollref13_Twin.f k l0 = some r) :
    Calls Tryd.prog 30 #[.slice A0 l0.length c0] w fun e w' => ∃ v0_ : Value, e = .returned (v0_) ∧ Kd.S (Kd.slice 5 (Kd.int .u8)) 22 w' w.heap.size (fun _ => True) v0_ r ∧ Below w.heap.size w w' := by
  have HR0 := Aside0.mk hr0
  have HC0 := Aside0.mk hc0
  clear hr0 hc0
  have HB := Aside0.mk (Below.refl w.heap.size w)
  have H : (beadrollref13_Twin.l0 k l0 ([] : List (List Int)) 0) = some r := h
  clear h
  have H' := Aside0.mk H
  clear H
  go_enter Tryd.func30, Tryd.ntmps30
  go_wp2
  go_loopg [3, 4] k (fun kq v3 v4 w' => ∃ (x3_1 : List (List Int)) (x4_1 : Int), v4 = .int .i64 x4_1 ∧ Aside0 (beadrollref13_Twin.l0 kq l0 x3_1 x4_1 = some r) ∧ Aside0 (kq ≤ k) ∧ Aside0 (Kd.S (Kd.slice 5 (Kd.int .u8)) 22 w' w.heap.size (fun _ => True) v3 x3_1) ∧ Aside0 (Below w.heap.size w w'))
  case atStart => exact ⟨(([] : List (List Int))), (0), (by first | rfl | (simp; done) | (simp [*]; done)), H', ⟨Nat.le_refl _⟩, ⟨by first | exact Kd.S_nil _ _ _ _ _ | exact Kd.N_nil _ _ _ _ _ | exact Kd.V_nil _ _ _ _ _ | exact Kd.Q_nil _ _ _ _ _ | exact Kd.R_nil _ _ _ _ _⟩, ⟨by repeat (first | (with_reducible first | exact HB.out | apply below_alloc | apply pw_below_drewN | apply below_drew1) | exact HB.out)⟩⟩
  case round =>
    clear H'
    obtain ⟨x3_1, x4_1, rfl, HA, HK1, HO_3, HB⟩ := hrel
    cases gk with
    | zero => exact absurd HA.out (by simp [beadrollref13_Twin.l0])
    | succ k1 =>
      have H := HA.out
      clear HA
      simp only [beadrollref13_Twin.l0] at H
      by_cases c2 : x4_1 < (l0.length : Int)
      · rw [if_pos c2] at H
        have c2b0 : decide (x4_1 < (l0.length : Int)) = true := decide_eq_true c2
        clear c2
        by_cases c3 : 0 ≤ x4_1
        · rw [if_pos c3] at H
          have c3b0 : decide (0 ≤ x4_1) = true := decide_eq_true c3
          clear c3
          by_cases c4 : ([] : List Int).length + (rd_L1 l0 x4_1).length < 140737488355328
          · rw [if_pos c4] at H
            have LMc4 := Aside0.mk c4
            clear c4
            obtain ⟨y179, hy179⟩ : ∃ y_ : List Int, y_ = (([] : List Int) ++ (rd_L1 l0 x4_1)) := ⟨_, rfl⟩
            replace H : (if x3_1.length < 5864062014805 then (beadrollref13_Twin.l0 k1 l0 (x3_1 ++ [y179]) (wrap64 (x4_1 + 1))) else (none)) = some r := by first | (rw [hy179]; with_reducible exact H) | (have H2_ := (Option.bind_some _ _).symm.trans H; rw [hy179]; with_reducible exact H2_) | (have H2_ := (Option.bind_some _ _).symm.trans H; with_reducible exact H2_) | with_reducible exact H | (rw [hy179]; exact H) | exact H
            have Ny179 := Aside0.mk hy179
            clear hy179
            by_cases c5 : x3_1.length < 5864062014805
            · rw [if_pos c5] at H
              have LMc5 := Aside0.mk c5
              clear c5
              obtain ⟨y182, hy182⟩ : ∃ y_ : List (List Int), y_ = (x3_1 ++ [y179]) := ⟨_, rfl⟩
              replace H : (beadrollref13_Twin.l0 k1 l0 y182 (wrap64 (x4_1 + 1))) = some r := by first | (rw [hy182]; with_reducible exact H) | (have H2_ := (Option.bind_some _ _).symm.trans H; rw [hy182]; with_reducible exact H2_) | (have H2_ := (Option.bind_some _ _).symm.trans H; with_reducible exact H2_) | with_reducible exact H | (rw [hy182]; exact H) | exact H
              have Ny182 := Aside0.mk hy182
              clear hy182
              have H' := Aside0.mk H
              clear H
              have p178 : 0 ≤ (x4_1 : Int) := of_decide_eq_true (by first | (with_reducible assumption) | assumption)
              have q178 : x4_1 < (l0.length : Int) := of_decide_eq_true (by first | (with_reducible assumption) | assumption)
              obtain ⟨ad178, A178_0, c178_0, e178, hx178_0, hl178_0, hi178_0⟩ := at_L1 HR0.out x4_1 p178 q178
              cases e178
              replace hx178_0 := (HB.out.cell (World.block_lt_of_cell? w _ hx178_0)).trans hx178_0
              have HR178_0 := Aside0.mk hi178_0
              have HC178_0 := Aside0.mk hl178_0
              clear hi178_0 hl178_0
              replace p178 := eq_true p178
              replace q178 := eq_true q178
              go_wp2_with (first | ((with_reducible refine gate_builtin (b := .append) (xs := #[.tmp 13, .tmp 17]) rfl ?_); at_builtin; refine Kd.R_append_rows (Kd.int .u8) (w0 := w) w.heap.size rfl (.tmp 13) (.tmp 17) 22 5 (.int .u8 0) 1 rfl Tryd.underlying22 info5 rfl (by decide) (by omega) (.slice none 0 0) ([] : List Int) (rd_L1 l0 x4_1) _ _ _ (fun _ => True) (fun _ => False) rfl rfl ?aO ?aR (fun _ _ h => h) (fun _ h => h.elim) ?aF ?aB ?aS ?aL ?_; (case aR => repeat (first | exact (Kd.C_below HR178_0.out HB.out) | (with_reducible refine Kd.C_alloc ?_ _) | (with_reducible refine Kd.C_drewN ?_ _) | (with_reducible refine Kd.C_drew ?_))); (case aB => exact (by repeat (first | (with_reducible first | exact HB.out | apply below_alloc | apply pw_below_drewN | apply below_drew1) | exact HB.out))); (case aF => exact (fun _ _ => trivial)); (case aO => exact ((Kd.R_nil _ _ _ _ (fun _ => True)))); (case aS => exact (below_size (by repeat (first | (with_reducible first | exact HB.out | apply below_alloc | apply pw_below_drewN | apply below_drew1) | exact HB.out)))); (case aL => have := LMc4.out; omega); intro v180 w6 ho hb hg hat; rw [← Ny179.out] at ho; have n0_ := Aside0.mk (Kd.S_after (Kd.S_apart_nil (by (with_reducible repeat (first | apply Kd.S_alloc | apply Kd.S_drewN | apply Kd.S_drew)); exact HO_3.out)) hg hat); have n1_ := Aside0.mk (hb); have n2_ := Aside0.mk (ho); clear HO_3; clear HB; have HO_3 := n0_; have HB := n1_; have HO181 := n2_; clear n0_ n1_ n2_; clear ho hb hg hat; obtain ⟨Ao8, co8, eo8⟩ := Kd.R_slice HO181.out; subst eo8) | ((with_reducible refine gate_builtin (b := .append) (xs := #[.tmp 12, .tmp 19]) rfl ?_); at_builtin; refine Kd.S_append (Kd.slice 5 (Kd.int .u8)) (w0 := w) w.heap.size rfl (.tmp 12) (.tmp 19) 29 22 (.slice none 0 0) 24 rfl Tryd.underlying29 info22 rfl (by decide) (by omega) u3 x3_1 y179 [.slice Ao8 y179.length co8] (fun _ => True) (fun k_ => some k_ = (.slice Ao8 y179.length co8 : Value).ownBlock) rfl rfl ?aP (fun k_ hk_ => ((Kd.R_mono (ok' := fun k_ => ((fun _ => True)) k_ ∧ some k_ ≠ (u3 : Value).ownBlock) (Kd.R_apart' (HO181.out) (Kd.S_typed HO_3.out) (by decide)) (fun k_ hk => ⟨trivial, hk.2⟩))).1 k_ hk_.symm) ?aF ?aO ?aB ?aS ?aL ?_; (case aP => exact Kd.M_row (Kd.R_mono (Kd.R_tight rfl (Kd.R_mono (ok' := fun k_ => ((fun _ => True)) k_ ∧ some k_ ≠ (u3 : Value).ownBlock) (Kd.R_apart' (HO181.out) (Kd.S_typed HO_3.out) (by decide)) (fun k_ hk => ⟨trivial, hk.2⟩))) (fun _ h_ => h_))); (case aB => exact (by repeat (first | (with_reducible first | exact HB.out | apply below_alloc | apply pw_below_drewN | apply below_drew1) | exact HB.out))); (case aF => exact (fun _ _ => trivial)); (case aO => exact (by (with_reducible repeat (first | apply Kd.S_alloc | apply Kd.S_drewN | apply Kd.S_drew)); exact Kd.S_mono HO_3.out (fun k_ hk => ⟨trivial, fun e_ => hk.2 e_⟩))); (case aS => exact (below_size (by repeat (first | (with_reducible first | exact HB.out | apply below_alloc | apply pw_below_drewN | apply below_drew1) | exact HB.out)))); (case aL => have := LMc5.out; omega); intro v183 w7 ho hb hg hat; rw [← Ny182.out] at ho; have n0_ := Aside0.mk (hb); have n1_ := Aside0.mk (ho); clear HB; clear HO_3; clear HO181; have HB := n0_; have HO184 := n1_; clear n0_ n1_; clear ho hb hg hat))
              go_roundg k1
              case measure => have := HK1.out; omega
              case rel => exact ⟨(y182), (wrap64 (x4_1 + 1)), (by first | rfl | (simp; done) | (simp [*]; done)), H', ⟨by have := HK1.out; omega⟩, ⟨by (with_reducible repeat (first | apply Kd.S_alloc | apply Kd.S_drewN | apply Kd.S_drew)); exact HO184.out⟩, ⟨by repeat (first | (with_reducible first | exact HB.out | apply below_alloc | apply pw_below_drewN | apply below_drew1) | exact HB.out)⟩⟩
            · rw [if_neg c5] at H
              exact absurd H (by simp)
          · rw [if_neg c4] at H
            exact absurd H (by simp)
        · rw [if_neg c3] at H
          exact absurd H (by simp)
      · rw [if_neg c2] at H
        have c2b0 : decide (x4_1 < (l0.length : Int)) = false := decide_eq_false c2
        clear c2
        obtain rfl := Option.some.inj H
        go_wp2
        go_ret
        exact ⟨_, by first | rfl | (simp [errW_none, errW_some] <;> rfl) | (simp [*, errW_none, errW_some] <;> rfl), by (with_reducible repeat (first | apply Kd.S_alloc | apply Kd.S_drewN | apply Kd.S_drew)); exact HO_3.out, by repeat (first | (with_reducible first | exact HB.out | apply below_alloc | apply pw_below_drewN | apply below_drew1) | exact HB.out)⟩
def beadrollref13_May.l0 : Nat → List (List Int) → Int → Option (Bool)
  | 0, _, _ => none
  | k + 1, x0, x3 => if x3 < (x0.length : Int) then (if 0 ≤ x3 then (if ((rd_L1 x0 x3).length : Int) > 4096 then (some false) else (beadrollref13_May.l0 k x0 (wrap64 (x3 + 1)))) else (none)) else (some true)
def beadrollref13_May.f (k : Nat) (l0 : List (List Int)) : Option (Bool) := if (l0.length : Int) > 256 then (some false) else (beadrollref13_May.l0 k l0 0)
theorem beadrollref13_May.mono_l : ∀ k, (∀ y0 y1, LeO (beadrollref13_May.l0 k y0 y1) (beadrollref13_May.l0 (k + 1) y0 y1))
  | 0 => fun _ _ r h => by simp [beadrollref13_May.l0] at h
  | k + 1 => by
    have ih0 := beadrollref13_May.mono_l k
    · intro y0 y1
      unfold beadrollref13_May.l0
      repeat' first
      | (with_reducible exact ih0 _ _)
      | (with_reducible exact LeO.refl _)
      | (with_reducible exact LeO.none _)
      | (with_reducible refine LeO.ite ?_ ?_)
      | (with_reducible refine LeO.bind ?_ (fun _ => ?_))
      | exact ih0 _ _
      | exact LeO.none _
      | refine LeO.ite ?_ ?_
      | refine LeO.bind ?_ (fun _ => ?_)
theorem beadrollref13_May.mono : ∀ a0 k, LeO (beadrollref13_May.f k a0) (beadrollref13_May.f (k + 1) a0) := by
  intro a0 k
  have ih0 := beadrollref13_May.mono_l k
  unfold beadrollref13_May.f
  repeat' first
      | (with_reducible exact ih0 _ _)
      | (with_reducible exact LeO.refl _)
      | (with_reducible exact LeO.none _)
      | (with_reducible refine LeO.ite ?_ ?_)
      | (with_reducible refine LeO.bind ?_ (fun _ => ?_))
      | exact ih0 _ _
      | exact LeO.none _
      | refine LeO.ite ?_ ?_
      | refine LeO.bind ?_ (fun _ => ?_)
set_option maxHeartbeats 8000000 in
set_option maxRecDepth 100000 in
theorem beadrollref13_May.calls (k : Nat) (A0 : Option Addr) (c0 : Nat) (l0 : List (List Int)) (r : Bool) (w : World) (hr0 : Kd.C (Kd.slice 5 (Kd.int .u8)) w A0 l0.length l0) (hc0 : l0.length ≤ c0) (h : beadrollref13_May.f k l0 = some r) :
    Calls Tryd.prog 50 #[.slice A0 l0.length c0] w fun e w' => e = .returned (.bool r) ∧ Drawn0 w w' := by
  have HR0 := Aside0.mk hr0
  have HC0 := Aside0.mk hc0
  clear hr0 hc0
  have H : (if (l0.length : Int) > 256 then (some false) else (beadrollref13_May.l0 k l0 0)) = some r := h
  clear h
  by_cases c2 : (l0.length : Int) > 256
  · rw [if_pos c2] at H
    have c2b0 : decide (256 < (l0.length : Int)) = true := decide_eq_true c2
    have c2b1 : decide (256 < l0.length) = true := decide_eq_true (by omega)
    clear c2
    obtain rfl := Option.some.inj H
    go_enter Tryd.func50, Tryd.ntmps50
    go_wp2
    go_ret
    exact ⟨by first | rfl | (simp; done) | (simp [*]; done), by repeat (first | exact Drawn0.refl _ | apply Drawn0.step)⟩
  · rw [if_neg c2] at H
    have c2b0 : decide (256 < (l0.length : Int)) = false := decide_eq_false c2
    have c2b1 : decide (256 < l0.length) = false := decide_eq_false (by omega)
    clear c2
    have H' := Aside0.mk H
    clear H
    go_enter Tryd.func50, Tryd.ntmps50
    go_wp2
    go_loopg [3] k (fun kq v3 w' => ∃ (x3_1 : Int), v3 = .int .i64 x3_1 ∧ Aside0 (beadrollref13_May.l0 kq l0 x3_1 = some r) ∧ Aside0 (kq ≤ k) ∧ Drawn0 w w')
    case atStart => exact ⟨(0), (by first | rfl | (simp; done) | (simp [*]; done)), H', ⟨Nat.le_refl _⟩, by repeat (first | exact Drawn0.refl _ | apply Drawn0.step)⟩
    case round =>
      clear H'
      try clear c2
      try clear c2b0
      try clear c2b1
      try clear p2
      obtain ⟨x3_1, rfl, HA, HK1, ⟨m1, rfl⟩⟩ := hrel
      cases gk with
      | zero => exact absurd HA.out (by simp [beadrollref13_May.l0])
      | succ k1 =>
        have H := HA.out
        clear HA
        simp only [beadrollref13_May.l0] at H
        by_cases c3 : x3_1 < (l0.length : Int)
        · rw [if_pos c3] at H
          have c3b0 : decide (x3_1 < (l0.length : Int)) = true := decide_eq_true c3
          clear c3
          by_cases c4 : 0 ≤ x3_1
          · rw [if_pos c4] at H
            have c4b0 : decide (0 ≤ x3_1) = true := decide_eq_true c4
            clear c4
            by_cases c5 : ((rd_L1 l0 x3_1).length : Int) > 4096
            · rw [if_pos c5] at H
              have c5b0 : decide (4096 < ((rd_L1 l0 x3_1).length : Int)) = true := decide_eq_true c5
              have c5b1 : decide (4096 < (rd_L1 l0 x3_1).length) = true := decide_eq_true (by omega)
              clear c5
              obtain rfl := Option.some.inj H
              have p185 : 0 ≤ (x3_1 : Int) := of_decide_eq_true (by first | (with_reducible assumption) | assumption)
              have q185 : x3_1 < (l0.length : Int) := of_decide_eq_true (by first | (with_reducible assumption) | assumption)
              obtain ⟨ad185, A185_0, c185_0, e185, hx185_0, hl185_0, hi185_0⟩ := at_L1 HR0.out x3_1 p185 q185
              cases e185
              have HR185_0 := Aside0.mk hi185_0
              have HC185_0 := Aside0.mk hl185_0
              clear hi185_0 hl185_0
              replace p185 := eq_true p185
              replace q185 := eq_true q185
              go_wp2
              go_ret
              exact ⟨by first | rfl | (simp; done) | (simp [*]; done), by repeat (first | exact Drawn0.refl _ | apply Drawn0.step)⟩
            · rw [if_neg c5] at H
              have c5b0 : decide (4096 < ((rd_L1 l0 x3_1).length : Int)) = false := decide_eq_false c5
              have c5b1 : decide (4096 < (rd_L1 l0 x3_1).length) = false := decide_eq_false (by omega)
              clear c5
              have H' := Aside0.mk H
              clear H
              have p185 : 0 ≤ (x3_1 : Int) := of_decide_eq_true (by first | (with_reducible assumption) | assumption)
              have q185 : x3_1 < (l0.length : Int) := of_decide_eq_true (by first | (with_reducible assumption) | assumption)
              obtain ⟨ad185, A185_0, c185_0, e185, hx185_0, hl185_0, hi185_0⟩ := at_L1 HR0.out x3_1 p185 q185
              cases e185
              have HR185_0 := Aside0.mk hi185_0
              have HC185_0 := Aside0.mk hl185_0
              clear hi185_0 hl185_0
              replace p185 := eq_true p185
              replace q185 := eq_true q185
              go_wp2
              go_roundg k1
              case measure => have := HK1.out; omega
              case rel => exact ⟨(wrap64 (x3_1 + 1)), (by first | rfl | (simp; done) | (simp [*]; done)), H', ⟨by have := HK1.out; omega⟩, by repeat (first | exact Drawn0.refl _ | apply Drawn0.step)⟩
          · rw [if_neg c4] at H
            exact absurd H (by simp)
        · rw [if_neg c3] at H
          have c3b0 : decide (x3_1 < (l0.length : Int)) = false := decide_eq_false c3
          clear c3
          obtain rfl := Option.some.inj H
          go_wp2
          go_ret
          exact ⟨by first | rfl | (simp; done) | (simp [*]; done), by repeat (first | exact Drawn0.refl _ | apply Drawn0.step)⟩
-- NOT PRINTED: function 66 (beadrollref03_None)
-- NOT PRINTED: function 51 (beadrollref13_Of)
-- NOT PRINTED: function 31 (beadrollref13_Root)
-- NOT PRINTED: function 52 (beadrollref13_Beside)
-- NOT PRINTED: function 32 (beadrollref13_Sides)
def beadrollref03_Same.l0 : Nat → List (List Int) → List (List Int) → Int → Option (Bool)
  | 0, _, _, _ => none
  | k + 1, x0, x1, x5 => if x5 < (x0.length : Int) then (if 0 ≤ x5 then (if x5 < (x1.length : Int) then ((beadrollref01_Same.f (rd_L1 x0 x5) (rd_L1 x1 x5)).bind fun t188 => (if t188 = true then (beadrollref03_Same.l0 k x0 x1 (wrap64 (x5 + 1))) else (some false))) else (none)) else (none)) else (some true)
def beadrollref03_Same.f (k : Nat) (l0 : List (List Int)) (l1 : List (List Int)) : Option (Bool) := if (l0.length : Int) = (l1.length : Int) then (beadrollref03_Same.l0 k l0 l1 0) else (some false)
theorem beadrollref03_Same.mono_l : ∀ k, (∀ y0 y1 y2, LeO (beadrollref03_Same.l0 k y0 y1 y2) (beadrollref03_Same.l0 (k + 1) y0 y1 y2))
  | 0 => fun _ _ _ r h => by simp [beadrollref03_Same.l0] at h
  | k + 1 => by
    have ih0 := beadrollref03_Same.mono_l k
    · intro y0 y1 y2
      unfold beadrollref03_Same.l0
      repeat' first
      | (with_reducible exact ih0 _ _ _)
      | (with_reducible exact LeO.refl _)
      | (with_reducible exact LeO.none _)
      | (with_reducible refine LeO.ite ?_ ?_)
      | (with_reducible refine LeO.bind ?_ (fun _ => ?_))
      | exact ih0 _ _ _
      | exact LeO.none _
      | refine LeO.ite ?_ ?_
      | refine LeO.bind ?_ (fun _ => ?_)
theorem beadrollref03_Same.mono : ∀ a0 a1 k, LeO (beadrollref03_Same.f k a0 a1) (beadrollref03_Same.f (k + 1) a0 a1) := by
  intro a0 a1 k
  have ih0 := beadrollref03_Same.mono_l k
  unfold beadrollref03_Same.f
  repeat' first
      | (with_reducible exact ih0 _ _ _)
      | (with_reducible exact LeO.refl _)
      | (with_reducible exact LeO.none _)
      | (with_reducible refine LeO.ite ?_ ?_)
      | (with_reducible refine LeO.bind ?_ (fun _ => ?_))
      | exact ih0 _ _ _
      | exact LeO.none _
      | refine LeO.ite ?_ ?_
      | refine LeO.bind ?_ (fun _ => ?_)
set_option maxHeartbeats 8000000 in
set_option maxRecDepth 100000 in
theorem beadrollref03_Same.calls (k : Nat) (A0 : Option Addr) (c0 : Nat) (l0 : List (List Int)) (A1 : Option Addr) (c1 : Nat) (l1 : List (List Int)) (r : Bool) (w : World) (hr0 : Kd.C (Kd.slice 5 (Kd.int .u8)) w A0 l0.length l0) (hc0 : l0.length ≤ c0) (hr1 : Kd.C (Kd.slice 5 (Kd.int .u8)) w A1 l1.length l1) (hc1 : l1.length ≤ c1) (h : beadrollref03_Same.f k l0 l1 = some r) :
    Calls Tryd.prog 33 #[.slice A0 l0.length c0, .slice A1 l1.length c1] w fun e w' => e = .returned (.bool r) ∧ Drawn0 w w' := by
  have HR0 := Aside0.mk hr0
  have HC0 := Aside0.mk hc0
  clear hr0 hc0
  have HR1 := Aside0.mk hr1
  have HC1 := Aside0.mk hc1
  clear hr1 hc1
  have H : (if (l0.length : Int) = (l1.length : Int) then (beadrollref03_Same.l0 k l0 l1 0) else (some false)) = some r := h
  clear h
  by_cases c3 : (l0.length : Int) = (l1.length : Int)
  · rw [if_pos c3] at H
    have c3b0 : ((l0.length : Int) == (l1.length : Int)) = true := beq_iff_eq.mpr c3
    have c3b1 : ((l0.length : Int) != (l1.length : Int)) = false := bne_eq_false_iff_eq.mpr c3
    have c3b2 : (l0.length == l1.length) = true := by first | simpa using c3 | (simp at c3 ⊢; omega)
    clear c3
    have H' := Aside0.mk H
    clear H
    go_enter Tryd.func33, Tryd.ntmps33
    go_wp2
    repeat (go_quiet (fail); try go_wp2)
    go_loopg [5] k (fun kq v5 w' => ∃ (x5_1 : Int), v5 = .int .i64 x5_1 ∧ Aside0 (beadrollref03_Same.l0 kq l0 l1 x5_1 = some r) ∧ Aside0 (kq ≤ k) ∧ Drawn0 w w')
    case atStart => exact ⟨(0), (by first | rfl | (simp; done) | (simp [*]; done)), H', ⟨Nat.le_refl _⟩, by repeat (first | exact Drawn0.refl _ | apply Drawn0.step)⟩
    case round =>
      clear H'
      try clear c1
      try clear p2
      try clear c3
      try clear c3b0
      try clear c3b1
      try clear c3b2
      obtain ⟨x5_1, rfl, HA, HK1, ⟨m1, rfl⟩⟩ := hrel
      cases gk with
      | zero => exact absurd HA.out (by simp [beadrollref03_Same.l0])
      | succ k1 =>
        have H := HA.out
        clear HA
        simp only [beadrollref03_Same.l0] at H
        by_cases c4 : x5_1 < (l0.length : Int)
        · rw [if_pos c4] at H
          have c4b0 : decide (x5_1 < (l0.length : Int)) = true := decide_eq_true c4
          clear c4
          by_cases c5 : 0 ≤ x5_1
          · rw [if_pos c5] at H
            have c5b0 : decide (0 ≤ x5_1) = true := decide_eq_true c5
            clear c5
            by_cases c6 : x5_1 < (l1.length : Int)
            · rw [if_pos c6] at H
              have c6b0 : decide (x5_1 < (l1.length : Int)) = true := decide_eq_true c6
              clear c6
              replace H := Option.bind_eq_some_iff.mp H
              obtain ⟨t188, A70, H⟩ := H
              replace H : (if t188 = true then (beadrollref03_Same.l0 k1 l0 l1 (wrap64 (x5_1 + 1))) else (some false)) = some r := H
              have A7 := Aside0.mk A70
              clear A70
              by_cases c8 : t188 = true
              · subst c8
                have H1 : (beadrollref03_Same.l0 k1 l0 l1 (wrap64 (x5_1 + 1))) = some r := by rw [if_pos rfl] at H; exact H
                clear H
                have H := H1
                clear H1
                have H' := Aside0.mk H
                clear H
                have p186 : 0 ≤ (x5_1 : Int) := of_decide_eq_true (by first | (with_reducible assumption) | assumption)
                have q186 : x5_1 < (l0.length : Int) := of_decide_eq_true (by first | (with_reducible assumption) | assumption)
                obtain ⟨ad186, A186_0, c186_0, e186, hx186_0, hl186_0, hi186_0⟩ := at_L1 HR0.out x5_1 p186 q186
                cases e186
                have HR186_0 := Aside0.mk hi186_0
                have HC186_0 := Aside0.mk hl186_0
                clear hi186_0 hl186_0
                replace p186 := eq_true p186
                replace q186 := eq_true q186
                have p187 : 0 ≤ (x5_1 : Int) := of_decide_eq_true (by first | (with_reducible assumption) | assumption)
                have q187 : x5_1 < (l1.length : Int) := of_decide_eq_true (by first | (with_reducible assumption) | assumption)
                obtain ⟨ad187, A187_0, c187_0, e187, hx187_0, hl187_0, hi187_0⟩ := at_L1 HR1.out x5_1 p187 q187
                cases e187
                have HR187_0 := Aside0.mk hi187_0
                have HC187_0 := Aside0.mk hl187_0
                clear hi187_0 hl187_0
                replace p187 := eq_true p187
                replace q187 := eq_true q187
                go_wp2_with (first | (go_at_call 16; (with_reducible refine (beadrollref01_Same.calls _ _ (rd_L1 l0 x5_1) _ _ (rd_L1 l1 x5_1) true _ ?side1 ?side2 ?side3 ?side4 A7.out).mono ?_); (case side1 => repeat (first | exact HR186_0.out | (with_reducible refine Kd.C_alloc ?_ _) | (with_reducible refine Kd.C_drewN ?_ _) | (with_reducible refine Kd.C_drew ?_))); (case side2 => exact HC186_0.out); (case side3 => repeat (first | exact HR187_0.out | (with_reducible refine Kd.C_alloc ?_ _) | (with_reducible refine Kd.C_drewN ?_ _) | (with_reducible refine Kd.C_drew ?_))); (case side4 => exact HC187_0.out); rintro e w' ⟨rfl, ⟨nd, rfl⟩⟩; (try first | exact ⟨rfl, _, World.drewN_drewN _ _ _⟩ | exact ⟨rfl, _, Eq.trans (World.drewN_drewN _ _ _) (congrArg (World.drewN _) (Nat.add_assoc _ _ _))⟩)))
                repeat (go_quiet (first | (go_at_call 16; (with_reducible refine (beadrollref01_Same.calls _ _ (rd_L1 l0 x5_1) _ _ (rd_L1 l1 x5_1) true _ ?side1 ?side2 ?side3 ?side4 A7.out).mono ?_); (case side1 => repeat (first | exact HR186_0.out | (with_reducible refine Kd.C_alloc ?_ _) | (with_reducible refine Kd.C_drewN ?_ _) | (with_reducible refine Kd.C_drew ?_))); (case side2 => exact HC186_0.out); (case side3 => repeat (first | exact HR187_0.out | (with_reducible refine Kd.C_alloc ?_ _) | (with_reducible refine Kd.C_drewN ?_ _) | (with_reducible refine Kd.C_drew ?_))); (case side4 => exact HC187_0.out); rintro e w' ⟨rfl, ⟨nd, rfl⟩⟩; (try first | exact ⟨rfl, _, World.drewN_drewN _ _ _⟩ | exact ⟨rfl, _, Eq.trans (World.drewN_drewN _ _ _) (congrArg (World.drewN _) (Nat.add_assoc _ _ _))⟩))); try go_wp2_with (first | (go_at_call 16; (with_reducible refine (beadrollref01_Same.calls _ _ (rd_L1 l0 x5_1) _ _ (rd_L1 l1 x5_1) true _ ?side1 ?side2 ?side3 ?side4 A7.out).mono ?_); (case side1 => repeat (first | exact HR186_0.out | (with_reducible refine Kd.C_alloc ?_ _) | (with_reducible refine Kd.C_drewN ?_ _) | (with_reducible refine Kd.C_drew ?_))); (case side2 => exact HC186_0.out); (case side3 => repeat (first | exact HR187_0.out | (with_reducible refine Kd.C_alloc ?_ _) | (with_reducible refine Kd.C_drewN ?_ _) | (with_reducible refine Kd.C_drew ?_))); (case side4 => exact HC187_0.out); rintro e w' ⟨rfl, ⟨nd, rfl⟩⟩; (try first | exact ⟨rfl, _, World.drewN_drewN _ _ _⟩ | exact ⟨rfl, _, Eq.trans (World.drewN_drewN _ _ _) (congrArg (World.drewN _) (Nat.add_assoc _ _ _))⟩))))
                go_roundg k1
                case measure => have := HK1.out; omega
                case rel => exact ⟨(wrap64 (x5_1 + 1)), (by first | rfl | (simp; done) | (simp [*]; done)), H', ⟨by have := HK1.out; omega⟩, by repeat (first | exact Drawn0.refl _ | apply Drawn0.step)⟩
              · replace c8 := Bool.eq_false_iff.mpr c8
                subst c8
                have H1 : (some false) = some r := by rw [if_neg (show ¬ (false = true) by decide)] at H; exact H
                clear H
                have H := H1
                clear H1
                obtain rfl := Option.some.inj H
                have p186 : 0 ≤ (x5_1 : Int) := of_decide_eq_true (by first | (with_reducible assumption) | assumption)
                have q186 : x5_1 < (l0.length : Int) := of_decide_eq_true (by first | (with_reducible assumption) | assumption)
                obtain ⟨ad186, A186_0, c186_0, e186, hx186_0, hl186_0, hi186_0⟩ := at_L1 HR0.out x5_1 p186 q186
                cases e186
                have HR186_0 := Aside0.mk hi186_0
                have HC186_0 := Aside0.mk hl186_0
                clear hi186_0 hl186_0
                replace p186 := eq_true p186
                replace q186 := eq_true q186
                have p187 : 0 ≤ (x5_1 : Int) := of_decide_eq_true (by first | (with_reducible assumption) | assumption)
                have q187 : x5_1 < (l1.length : Int) := of_decide_eq_true (by first | (with_reducible assumption) | assumption)
                obtain ⟨ad187, A187_0, c187_0, e187, hx187_0, hl187_0, hi187_0⟩ := at_L1 HR1.out x5_1 p187 q187
                cases e187
                have HR187_0 := Aside0.mk hi187_0
                have HC187_0 := Aside0.mk hl187_0
                clear hi187_0 hl187_0
                replace p187 := eq_true p187
                replace q187 := eq_true q187
                go_wp2_with (first | (go_at_call 16; (with_reducible refine (beadrollref01_Same.calls _ _ (rd_L1 l0 x5_1) _ _ (rd_L1 l1 x5_1) false _ ?side1 ?side2 ?side3 ?side4 A7.out).mono ?_); (case side1 => repeat (first | exact HR186_0.out | (with_reducible refine Kd.C_alloc ?_ _) | (with_reducible refine Kd.C_drewN ?_ _) | (with_reducible refine Kd.C_drew ?_))); (case side2 => exact HC186_0.out); (case side3 => repeat (first | exact HR187_0.out | (with_reducible refine Kd.C_alloc ?_ _) | (with_reducible refine Kd.C_drewN ?_ _) | (with_reducible refine Kd.C_drew ?_))); (case side4 => exact HC187_0.out); rintro e w' ⟨rfl, ⟨nd, rfl⟩⟩; (try first | exact ⟨rfl, _, World.drewN_drewN _ _ _⟩ | exact ⟨rfl, _, Eq.trans (World.drewN_drewN _ _ _) (congrArg (World.drewN _) (Nat.add_assoc _ _ _))⟩)))
                repeat (go_quiet (first | (go_at_call 16; (with_reducible refine (beadrollref01_Same.calls _ _ (rd_L1 l0 x5_1) _ _ (rd_L1 l1 x5_1) false _ ?side1 ?side2 ?side3 ?side4 A7.out).mono ?_); (case side1 => repeat (first | exact HR186_0.out | (with_reducible refine Kd.C_alloc ?_ _) | (with_reducible refine Kd.C_drewN ?_ _) | (with_reducible refine Kd.C_drew ?_))); (case side2 => exact HC186_0.out); (case side3 => repeat (first | exact HR187_0.out | (with_reducible refine Kd.C_alloc ?_ _) | (with_reducible refine Kd.C_drewN ?_ _) | (with_reducible refine Kd.C_drew ?_))); (case side4 => exact HC187_0.out); rintro e w' ⟨rfl, ⟨nd, rfl⟩⟩; (try first | exact ⟨rfl, _, World.drewN_drewN _ _ _⟩ | exact ⟨rfl, _, Eq.trans (World.drewN_drewN _ _ _) (congrArg (World.drewN _) (Nat.add_assoc _ _ _))⟩))); try go_wp2_with (first | (go_at_call 16; (with_reducible refine (beadrollref01_Same.calls _ _ (rd_L1 l0 x5_1) _ _ (rd_L1 l1 x5_1) false _ ?side1 ?side2 ?side3 ?side4 A7.out).mono ?_); (case side1 => repeat (first | exact HR186_0.out | (with_reducible refine Kd.C_alloc ?_ _) | (with_reducible refine Kd.C_drewN ?_ _) | (with_reducible refine Kd.C_drew ?_))); (case side2 => exact HC186_0.out); (case side3 => repeat (first | exact HR187_0.out | (with_reducible refine Kd.C_alloc ?_ _) | (with_reducible refine Kd.C_drewN ?_ _) | (with_reducible refine Kd.C_drew ?_))); (case side4 => exact HC187_0.out); rintro e w' ⟨rfl, ⟨nd, rfl⟩⟩; (try first | exact ⟨rfl, _, World.drewN_drewN _ _ _⟩ | exact ⟨rfl, _, Eq.trans (World.drewN_drewN _ _ _) (congrArg (World.drewN _) (Nat.add_assoc _ _ _))⟩))))
                go_ret
                exact ⟨by first | rfl | (simp; done) | (simp [*]; done), by repeat (first | exact Drawn0.refl _ | apply Drawn0.step)⟩
            · rw [if_neg c6] at H
              exact absurd H (by simp)
          · rw [if_neg c5] at H
            exact absurd H (by simp)
        · rw [if_neg c4] at H
          have c4b0 : decide (x5_1 < (l0.length : Int)) = false := decide_eq_false c4
          clear c4
          obtain rfl := Option.some.inj H
          go_wp2
          repeat (go_quiet (fail); try go_wp2)
          go_ret
          exact ⟨by first | rfl | (simp; done) | (simp [*]; done), by repeat (first | exact Drawn0.refl _ | apply Drawn0.step)⟩
  · rw [if_neg c3] at H
    have c3b0 : ((l0.length : Int) == (l1.length : Int)) = false := beq_eq_false_iff_ne.mpr c3
    have c3b1 : ((l0.length : Int) != (l1.length : Int)) = true := bne_iff_ne.mpr c3
    have c3b2 : (l0.length == l1.length) = false := by first | simpa using c3 | (simp at c3 ⊢; omega)
    obtain rfl := Option.some.inj H
    go_enter Tryd.func33, Tryd.ntmps33
    go_wp2
    repeat (go_quiet (fail); try go_wp2)
    go_ret
    exact ⟨by first | rfl | (simp; done) | (simp [*]; done), by repeat (first | exact Drawn0.refl _ | apply Drawn0.step)⟩
-- NOT PRINTED: function 11 (beadrolllaw13_RowsTell)
end Go.Proofs.YtoaimcobcgomjaaDoor.Q
