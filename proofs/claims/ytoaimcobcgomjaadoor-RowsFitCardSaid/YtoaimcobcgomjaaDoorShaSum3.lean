/-
  beadrollref02.padded: the contract, by hand (written by wip/tools/gen_sum.py).
-/
import Derived.Test.YtoaimcobcgomjaaDoorShaSum2
import Derived.Test.YtoaimcobcgomjaaDoorShaPartsWalk
namespace Go.Proofs.YtoaimcobcgomjaaDoor.Q
open Go.RowKit Go.Proofs.YtoaimcobcgomjaaDoorW.PrintWords Go.Proofs.YtoaimcobcgomjaaDoorW.PrintLast Go.Proofs.YtoaimcobcgomjaaDoorW.PrintMore
set_option linter.unusedVariables false
set_option linter.unusedSimpArgs false

theorem idx_u8 {t n : Nat} (ht : Tryd.prog.underlying t = some (.array n 5)) (he : Tryd.prog.elem t = 5) (hn : Tryd.prog.arrayLen t = n) (g i : Nat) (hi : i < n) (W : World) : (Instr.indexAt t (.pointer (some ⟨g, 0, none⟩)) (.int .i64 (i : Int))).run Tryd.prog W = .ok (.pointer (some ⟨g, i, none⟩)) W := by
  have hs : (sizeOf 5).run Tryd.prog W = .ok 1 W := by
    obtain ⟨j, hj, h1⟩ := Option.map_eq_some_iff.1 (show (Tryd.prog.info? 5).map (·.size) = some 1 by kernel_rfl)
    simp [sizeOf, typeInfo, hj, h1]
  rw [run_indexAt_array W t _ _ _ (by rw [hn, he]; exact ht)]
  simp [hi, he, hn, hs, Result.andThen, add_zero_plain]
/-- The eight bytes of a number, the last q of them. -/
def tailTo (X q : Nat) : List Int := List.replicate (8 - q) 0 ++ (len8 (X : Int)).drop (8 - q)
theorem tailTo_len (X q : Nat) (hq : q ≤ 8) : (tailTo X q).length = 8 := by simp [tailTo, len8_len, hq]
theorem tailTo_zero (X : Nat) : tailTo X 0 = List.replicate 8 0 := by simp [tailTo, len8]
theorem tailTo_end (X : Nat) : tailTo X 8 = len8 (X : Int) := by simp [tailTo]
theorem tailTo_set (X q : Nat) (hq : q < 8) : (tailTo X q).set (7 - q) (((X / 256 ^ q : Nat) : Int) % 256) = tailTo X (q + 1) := by
  unfold tailTo
  have h1 : 8 - q = (7 - q) + 1 := by omega
  rw [show 8 - (q + 1) = 7 - q by omega, h1, List.replicate_succ', List.append_assoc, List.set_append_right _ _ (by simp), List.length_replicate, Nat.sub_self]
  rw [List.drop_eq_getElem_cons (i := 7 - q) (by rw [len8_len]; omega)]
  show List.replicate (7 - q) 0 ++ (_ :: _) = _
  congr 2
  simp only [len8, List.getElem_map, List.getElem_range]
  rw [show 56 - 8 * (7 - q) = 8 * q by omega, show (256 : Nat) ^ q = 2 ^ (8 * q) by rw [Nat.pow_mul], Int.natCast_ediv, Int.natCast_pow]
  rfl
structure PadInv (W : World) (l : List Int) (v : Value) (w : World) : Prop where
  q : (Kd.int .u8).Q 5 w W.heap.size (fun _ => True) v l
  hb : Below W.heap.size W w

set_option maxHeartbeats 16000000 in
set_option maxRecDepth 100000 in
theorem padded_walk (A : Option Addr) (n c : Nat) (l : List Int) (W : World) (hb : Bts W A n c l) (hl : l.length < 1099511627776) :
    Calls Tryd.prog 35 #[.slice A n c] W fun e W' => ∃ v, e = .returned v ∧ (Kd.int .u8).Q 5 W' W.heap.size (fun _ => True) v (padTo l ++ len8 (8 * l.length)) ∧ Below W.heap.size W W' := by
  have HA := Aside0.mk hb
  obtain ⟨L, hL⟩ : ∃ k, l.length = k := ⟨_, rfl⟩
  have hn : n = L := by rw [← hL]; exact hb.len.symm
  subst hn
  have HL := Aside0.mk hL
  rw [hL] at hl ⊢
  clear hb hL
  have HI : Aside0 (PadInv W [] (.slice none 0 0) W) := ⟨⟨Kd.Q_nil _ _ _ _ _, Below.refl _ _⟩⟩
  go_enter Tryd.func35, Tryd.ntmps35
  go_wp2_with (
    first
    | ((with_reducible refine gate_builtin (b := .append) (xs := #[.tmp 7, .tmp 8]) rfl ?_); at_builtin;
       refine Q_app (w0 := W) W.heap.size rfl (.tmp 7) (.tmp 8) rfl _ ([] : List Int) l A n c rfl rfl HI.out.q HA.out HI.out.hb (Nat.le_refl _) ?hl ?_;
       (case hl => simp only [List.length_nil]; omega);
       intro v1 w1 hq hb hg; obtain ⟨A0, m0, c0, rfl, hm0⟩ := Q_form' hq; have HI1 : Aside0 (PadInv W l (.slice A0 m0 c0) w1) := ⟨⟨hq, hb⟩⟩; clear hq hb hg hm0 HI; have HI := HI1; clear HI1)
    | ((with_reducible refine gate_builtin (b := .append) (xs := #[.tmp 10, .tmp 11]) rfl ?_); at_builtin;
       refine Kd.Q_append (Kd.int .u8) (w0 := W) W.heap.size rfl (.tmp 10) (.tmp 11) 22 5 (.int .u8 0) 1 rfl Tryd.underlying22 info5 rfl (by decide) (by decide) _ l 128 [.int .u8 128] (fun _ => True) (fun _ => False) rfl rfl rfl (fun _ hk => hk.elim) (fun _ _ => trivial) HI.out.q HI.out.hb (below_size HI.out.hb) ?hl2 ?_;
       (case hl2 => rw [HL.out]; omega);
       intro v1 w1 hq hb hg hat; have HI1 : Aside0 (PadInv W (l ++ [128]) v1 w1) := ⟨⟨hq, hb⟩⟩; clear hq hb hg hat HI; have HI := HI1; clear HI1))
  go_loopw [3] (fun r wr => ∃ (k : Nat), k ≤ (119 - n % 64) % 64 ∧ Aside0 (PadInv W (l ++ [128] ++ List.replicate k 0) r wr)) (fun r _ => n + 200 - lenV r)
  case atStart => exact ⟨0, by omega, ⟨by simpa using HI.out⟩⟩
  case round =>
    obtain ⟨k, hk, HI1⟩ := hrel
    clear HI
    obtain ⟨B, cb, rfl, hle⟩ := Kd.Q_slice HI1.out.q
    obtain ⟨M, hM⟩ : ∃ m : Nat, (l ++ [128] ++ List.replicate k 0).length = m := ⟨_, rfl⟩
    have hM2 : M = n + 1 + k := by rw [← hM, List.length_append, List.length_append, HL.out, List.length_replicate]; rfl
    have HM := Aside0.mk hM
    rw [hM] at hle ⊢
    clear hM
    have hMb : M < 1099511628000 := by omega
    by_cases hz : k < (119 - n % 64) % 64
    · have hm : (M : Int) % 64 ≠ 56 := by omega
      have HM2 := Aside0.mk hM2
      clear hM2
      go_wp2_with (
        first
        | ((with_reducible refine gate_builtin (b := .append) (xs := #[.tmp 17, .tmp 18]) rfl ?_); at_builtin;
           refine Kd.Q_append (Kd.int .u8) (w0 := W) W.heap.size rfl (.tmp 17) (.tmp 18) 22 5 (.int .u8 0) 1 rfl Tryd.underlying22 info5 rfl (by decide) (by decide) _ (l ++ [128] ++ List.replicate k 0) 0 [.int .u8 0] (fun _ => True) (fun _ => False) (by rw [HM.out]; rfl) rfl rfl (fun _ hk => hk.elim) (fun _ _ => trivial) HI1.out.q HI1.out.hb (below_size HI1.out.hb) ?hl3 ?_;
           (case hl3 => have := HM.out; omega);
           intro v1 w1 hq hb hg hat; have HI2 : Aside0 (PadInv W (l ++ [128] ++ List.replicate (k + 1) 0) v1 w1) := ⟨⟨by rw [List.replicate_succ', ← List.append_assoc]; exact hq, hb⟩⟩; clear hq hb hg hat HI1))
      refine ⟨⟨k + 1, by omega, HI2⟩, ?_⟩
      obtain ⟨B2, c2, rfl, _⟩ := Kd.Q_slice HI2.out.q
      have e1 : (l ++ [128] ++ List.replicate (k + 1) 0).length = n + 1 + (k + 1) := by rw [List.length_append, List.length_append, HL.out, List.length_replicate]; rfl
      have e2 := HM2.out
      show n + 200 - (l ++ [128] ++ List.replicate (k + 1) 0).length < n + 200 - M
      rw [e1, e2]
      omega
    · have hm : (M : Int) % 64 = 56 := by omega
      have hk2 : k = (119 - n % 64) % 64 := by omega
      have HI2 : Aside0 (PadInv W (padTo l) (.slice B M cb) wr) := ⟨by
        have := HI1.out
        rw [hk2, ← HL.out] at this
        have e : (l ++ [128] ++ List.replicate ((119 - l.length % 64) % 64) 0).length = M := by rw [HL.out, ← hk2]; exact HM.out
        rw [e] at this
        exact this⟩
      clear hk2 HI1 HM hM2
      have hw0 : IntKind.u64.wrap (n : Int) = (n : Int) := by rw [IntKind.wrap_u64]; omega
      have hw8 : IntKind.u64.wrap (8 * (n : Int)) = 8 * (n : Int) := by rw [IntKind.wrap_u64]; omega
      go_wp2_with (
        first
        | ((with_reducible refine gate_dst (N := 5) rfl ?_); refine box_event ?hg (N := 5) ?hd (cs := arr (List.replicate 8 0)) (t := 85) ?hr ?_; (case hd => rfl); (case hg => rfl); (case hr => first | (go_simp; done) | (go_simp; rfl));
           intro g5 hg w1 hbox hb; have B5 : Aside0 (w1.heap[g5]? = some (.cells (arr (tailTo (8 * n) 0)) 85 (0, 0))) := ⟨by rw [tailTo_zero]; exact hbox⟩; have G5 := Aside0.mk (show W.heap.size ≤ g5 by rw [hg]; exact below_size HI2.out.hb); have HQ : Aside0 (PadInv W (padTo l) (.slice B M cb) w1) := ⟨⟨Kd.Q_below HI2.out.q hb, below_step HI2.out.hb hb⟩⟩; clear hb hbox hg HI2))
      clear hm
      go_loopw [4, 6] (fun x i wr => ∃ q : Nat, q ≤ 8 ∧ i = .int .i64 (7 - (q : Int)) ∧ x = .int .u64 ((8 * n / 256 ^ q : Nat) : Int) ∧ Aside0 (wr.heap[g5]? = some (.cells (arr (tailTo (8 * n) q)) 85 (0, 0)) ∧ PadInv W (padTo l) (.slice B M cb) wr)) (fun _ i _ => (8 + intOf i).toNat)
      case atStart => exact ⟨0, by omega, rfl, by simp, ⟨B5.out, HQ.out⟩⟩
      case round =>
        obtain ⟨q, hq, rfl, rfl, HI3⟩ := hrel
        clear B5 HQ
        by_cases hq8 : q < 8
        · have hge : 0 ≤ 7 - (q : Int) := by omega
          have hs1 : IntKind.i64.wrap (7 - (q : Int) - 1) = 7 - (q : Int) - 1 := by rw [IntKind.wrap_i64]; omega
          have hxb : 8 * n / 256 ^ q ≤ 8 * n := Nat.div_le_self _ _
          have hxn : 8 * n / 256 ^ (q + 1) = 8 * n / 256 ^ q / 256 := by rw [Nat.pow_succ, Nat.div_div_eq_div_mul]
          have HXN := Aside0.mk hxn
          obtain ⟨x, hx⟩ : ∃ x : Nat, 8 * n / 256 ^ q = x := ⟨_, rfl⟩
          have HX := Aside0.mk hx
          rw [hx] at hxb ⊢
          clear hx hxn
          have hx1 : (x : Int) ≤ 9000000000000 := by omega
          have hfz : wr.frozen? ⟨g5, 7 - q, none⟩ = false := blk_frozen HI3.out.1 (7 - q)
          have cd : wr.cell? ⟨g5, 7 - q, none⟩ = some (.int .u8 (rd (tailTo (8 * n) q) ((7 - q : Nat) : Int))) := (blk_cell HI3.out.1 (7 - q)).trans (arr_get _ (7 - q) (by rw [tailTo_len _ q hq]; omega))
          have hid : ∀ W, (Instr.indexAt 85 (.pointer (some ⟨g5, 0, none⟩)) (.int .i64 (7 - (q : Int)))).run Tryd.prog W = .ok (.pointer (some ⟨g5, 7 - q, none⟩)) W := fun W => by
            have := idx_u8 Tryd.underlying85 (by kernel_rfl) (by kernel_rfl) g5 (7 - q) (by omega) W
            rwa [show ((7 - q : Nat) : Int) = 7 - (q : Int) by omega] at this
          go_wp2
          refine ⟨⟨q + 1, by omega, ?_, ?_, ⟨?_, ?_⟩⟩, by simp [intOf]; omega⟩
          · simp; omega
          · rw [HXN.out, HX.out]; simp
          · rw [← tailTo_set (8 * n) q hq8, HX.out]
            refine blk_put HI3.out.1 (7 - q) _ ?_
            simp [arr, List.map_set]
          · exact ⟨Kd.Q_set HI3.out.2.q HI3.out.1 (by decide) (7 - q) _, HI3.out.2.hb.setCell (p := ⟨g5, 7 - q, none⟩) G5.out _⟩
        · have hge : 7 - (q : Int) < 0 := by omega
          have hq2 : q = 8 := by omega
          have B8 : Aside0 (Bts wr (some ⟨g5, 0, none⟩) 8 8 (len8 (8 * (n : Int)))) := ⟨by
            have h1 := HI3.out.1
            rw [hq2, tailTo_end] at h1
            have h2 := bytes_C h1 (by rw [len8_len]; omega)
            rw [len8_len] at h2
            exact ⟨h2, Nat.le_refl _, len8_mem _⟩⟩
          have HQ := Aside0.mk HI3.out.2
          clear HI3 hq2
          go_wp2_with (
            first
            | ((with_reducible refine gate_builtin (b := .append) (xs := #[.tmp 35, .tmp 36]) rfl ?_); at_builtin;
               refine Q_app (w0 := W) W.heap.size rfl (.tmp 35) (.tmp 36) rfl _ (padTo l) (len8 (8 * (n : Int))) (some ⟨g5, 0, none⟩) 8 8 rfl rfl HQ.out.q B8.out HQ.out.hb (below_size HQ.out.hb) ?hl5 ?_;
               (case hl5 => rw [pad_len, HL.out]; omega);
               intro v1 w1 hq hb hg; have HF : Aside0 ((Kd.int .u8).Q 5 w1 W.heap.size (fun _ => True) v1 (padTo l ++ len8 (8 * (n : Int))) ∧ Below W.heap.size W w1) := ⟨⟨hq, hb⟩⟩; clear hq hb hg HQ))
          go_ret
          exact ⟨_, rfl, HF.out⟩

end Go.Proofs.YtoaimcobcgomjaaDoor.Q
