/-
  sha.Hex, beadrollref02.Hex: a digest's text: the contracts, by hand.
-/
import Derived.Test.YtoaimcobcgomjaaDoorShaText
import Derived.Laws.CopyOwn
namespace Go.Proofs.YtoaimcobcgomjaaDoor.Q
open Go.RowKit Go.Proofs.YtoaimcobcgomjaaDoorW.PrintWords Go.Proofs.YtoaimcobcgomjaaDoorW.PrintLast Go.Proofs.YtoaimcobcgomjaaDoorW.PrintMore
set_option linter.unusedVariables false
set_option linter.unusedSimpArgs false

/-- An array of bytes, as a value's cells. -/
def arr (ds : List Int) : Array Value := (ds.map (Value.int .u8)).toArray
theorem arr_size (ds : List Int) : (arr ds).size = ds.length := by simp [arr]
theorem arr_get (ds : List Int) (k : Nat) (h : k < ds.length) : (arr ds)[k]? = some (.int .u8 (rd ds (k : Int))) := by simp [arr, rd, h]
/-- A digest: 32 bytes. -/
def Dig (ds : List Int) : Prop := ds.length = 32 ∧ ∀ x ∈ ds, 0 ≤ x ∧ x < 256
def hexL : List UInt8 := [48, 49, 50, 51, 52, 53, 54, 55, 56, 57, 97, 98, 99, 100, 101, 102]
def hx (n : Int) : UInt8 := hexL.getD n.toNat 0
/-- A digest's text. -/
def hexOf (ds : List Int) : List UInt8 := ds.flatMap fun d => [hx (d / 16), hx (d % 16)]
theorem hexOf_take (ds : List Int) (k : Nat) (h : k < ds.length) : hexOf (ds.take (k + 1)) = hexOf (ds.take k) ++ [hx (rd ds (k : Int) / 16)] ++ [hx (rd ds (k : Int) % 16)] := by
  unfold hexOf
  rw [List.take_succ_eq_append_getElem h, List.flatMap_append]
  simp [rd, h]
theorem hexOf_length (ds : List Int) : (hexOf ds).length = 2 * ds.length := by
  induction ds with
  | nil => rfl
  | cons d ds ih =>
    have : hexOf (d :: ds) = hx (d / 16) :: hx (d % 16) :: hexOf ds := by simp [hexOf]
    rw [this]; simp [ih]; omega
theorem ints_snoc (l : List UInt8) (b : UInt8) : ints (l ++ [b]) = ints l ++ [(b.toNat : Int)] := by simp [ints]
theorem info_dig : (Tryd.prog.info? 25).map (·.size) = some 32 := by kernel_rfl

theorem arr_one (ds : List Int) : (arr ds).all (·.oneCell') = true := by simp [arr, Value.oneCell']
/-- A whole digest, stored. -/
theorem dig_store {ops : Array Oper} {rest : List Oper} {o : Oper} {a : Act} {W : World} {Q : Exit → Act → World → Prop} (hgd : o.guard = none) (x y : Operand) (ho : o.op = .store 25 x y) (g : Nat) (ds old : List Int) (hx : a.eval x = .pointer (some ⟨g, 0, none⟩)) (hy : a.eval y = .agg (arr ds))
    (hg : W.heap[g]? = some (.cells (arr old) 25 (0, 0))) (hl : ds.length = 32) (hold : old.length = 32)
    (h : ∀ w1, w1.heap[g]? = some (.cells (arr ds) 25 (0, 0)) → (∀ k, k ≠ g → w1.heap[k]? = W.heap[k]?) → (∀ (B : Nat) (w0 : World), Below B w0 W → B ≤ g → Below B w0 w1) → wpList Tryd.prog ops Q rest (a.put o.dst undef) w1) : wpList Tryd.prog ops Q (o :: rest) a W :=
  wpList_store_row hgd 25 x y ho g (arr ds) hx hy 25 (arr old) hg (by rw [arr_size, hl]; exact info_dig) (by rw [arr_size, arr_size, hl, hold]) (arr_one ds)
    (h _ (setRow_heap W g _ _ _ _ hg) (fun k hk => setRow_other W g k _ hk) (fun B w0 hb hB => below_setRow hb hB _))
theorem run_index_dig (ds : List Int) (k : Nat) (hl : ds.length = 32) (h : k < 32) (W : World) : (Instr.index 25 (.agg (arr ds)) (.int .i64 (k : Int))).run Tryd.prog W = .ok (.int .u8 (rd ds (k : Int))) W := by
  have hget := arr_get ds k (by omega)
  obtain ⟨i, hi, h1, h2, h3⟩ := info_parts info5
  simp [Instr.index, asIntOf, run_underlying Tryd.underlying25, sizeOf, typeInfo, hi, h2, h, part, hget, Result.andThen]
theorem run_index_hex (n : Int) (h0 : 0 ≤ n) (h1 : n < 16) (kd : IntKind) (W : World) : (Instr.index 9 (.string ⟨#[48, 49, 50, 51, 52, 53, 54, 55, 56, 57, 97, 98, 99, 100, 101, 102]⟩) (.int kd n)).run Tryd.prog W = .ok (.int .u8 ((hx n).toNat : Int)) W := by
  rw [run_index_string W 9 _ kd n Tryd.underlying9, dif_pos ⟨h0, h1⟩]
  obtain ⟨m, rfl⟩ := Int.eq_ofNat_of_zero_le h0
  have hm : m < 16 := by omega
  have : ∀ m : Fin 16, (⟨#[48, 49, 50, 51, 52, 53, 54, 55, 56, 57, 97, 98, 99, 100, 101, 102]⟩ : ByteArray)[m.1]'(m.2) = hx (m.1 : Int) := by decide
  rw [← this ⟨m, hm⟩]
  rfl

set_option maxHeartbeats 4000000 in
set_option maxRecDepth 100000 in
theorem hex_walk (ds : List Int) (hd : Dig ds) (w : World) :
    Calls Tryd.prog 28 #[.agg (arr ds)] w fun e W' => e = .returned (.string ⟨(hexOf ds).toArray⟩) ∧ Below w.heap.size w W' := by
  have HD := Aside0.mk hd
  have HB := Aside0.mk (Below.refl w.heap.size w)
  clear hd
  go_enter Tryd.func28, Tryd.ntmps28
  go_wp2_with (
    first
    | ((with_reducible refine gate_dst (N := 1) rfl ?_); refine box_event ?hg (N := 1) ?hd (cs := arr ds) (t := 25) ?hr ?_; (case hd => rfl); (case hg => rfl); (case hr => first | (go_simp; done) | (go_simp; rfl));
       intro g1 hg w1 hbox hb; have BK1 := Aside0.mk hbox; have GE1 := Aside0.mk (show w.heap.size ≤ g1 by rw [hg]; exact Nat.le_refl _); have HB1 := Aside0.mk (below_step HB.out hb); clear HB; have HB := HB1; clear HB1 hb hbox hg)
    | ((with_reducible refine gate_dst (N := 3) rfl ?_); refine box_event ?hg (N := 3) ?hd (cs := #[.pointer none, .slice none 0 0]) (t := 75) ?hr ?_; (case hd => rfl); (case hg => rfl); (case hr => first | (go_simp; done) | (go_simp; rfl));
       intro g2 hg w2 hbox hb; have BK2 := Aside0.mk hbox; have GE2 := Aside0.mk (show w.heap.size ≤ g2 by rw [hg]; exact below_size HB.out);
       have bk1 := Aside0.mk (blk_below BK1.out hb); have HB1 := Aside0.mk (below_step HB.out hb); clear HB BK1; have HB := HB1; have BK1 := bk1; clear HB1 bk1 hb hbox hg)
    | ((with_reducible refine gate_dst (N := 6) rfl ?_); refine wpList_load_row rfl 25 (.tmp 1) rfl g1 rfl 25 (arr ds) (0, 0) _ BK1.out Tryd.underlying25 rfl (by rw [arr_size, HD.out.1]; exact info_dig) ?_))
  go_loopw [5, 7] (fun _ i wr => ∃ k : Nat, k ≤ 32 ∧ i = .int .i64 (k : Int) ∧ Aside0 (∃ p v, (p = .pointer none ∨ p = .pointer (some ⟨g2, 0, none⟩)) ∧ wr.heap[g2]? = some (.cells #[p, v] 75 (0, 0)) ∧ Kd.R (Kd.int .u8) 5 wr w.heap.size (fun _ => True) v (ints (hexOf (ds.take k))) ∧ Below w.heap.size w wr)) (fun _ i _ => 32 - (intOf i).toNat)
  case atStart => exact ⟨0, by omega, rfl, ⟨_, _, .inl rfl, BK2.out, Kd.R_nil _ _ _ _ _, HB.out⟩⟩
  case round =>
    obtain ⟨k, hk, rfl, HI⟩ := hrel
    by_cases hlt : k < 32
    · have hkl : k < ds.length := by rw [HD.out.1]; exact hlt
      obtain ⟨d, hd⟩ : ∃ d, rd ds (k : Int) = d := ⟨_, rfl⟩
      have hix : ∀ W : World, (Instr.index 25 (.agg (arr ds)) (.int .i64 (k : Int))).run Tryd.prog W = .ok (.int .u8 d) W := fun W => by rw [← hd]; exact run_index_dig ds k HD.out.1 hlt W
      have hd2 : 0 ≤ d ∧ d < 256 := by
        rw [← hd]; exact HD.out.2 _ (by simp [rd, hkl])
      have hs1 := fun W => run_index_hex (d / 16) (by omega) (by omega) .u8 W
      have hs2 := fun W => run_index_hex (d % 16) (by omega) (by omega) .u8 W
      clear BK2 HB
      obtain ⟨p, v, hp, bk, ho, hb⟩ := HI.out
      have BK := Aside0.mk bk
      have HO := Aside0.mk ho
      have HB := Aside0.mk hb
      have HP := Aside0.mk hp
      clear bk ho hb hp HI
      have HS := Aside0.mk (below_size HB.out)
      have HL : Aside0 ((ints (hexOf (ds.take k))).length < 100000) := ⟨by rw [ints_length, hexOf_length, List.length_take]; omega⟩
      have HL2 : Aside0 ((ints (hexOf (ds.take k)) ++ [((hx (d / 16)).toNat : Int)]).length < 100000) := ⟨by rw [List.length_append, ints_length, hexOf_length, List.length_take]; simp; omega⟩
      go_wp2_with (
        first
        | (go_at_call 47; (with_reducible refine (write_walk g2 p v (ints (hexOf (ds.take k))) ((hx (d / 16)).toNat : Int) w.heap.size w _ HP.out BK HB HS GE2 HO HL).mono ?_); rintro e w3 ⟨rfl, v3, bk, ho, hb, hs, _⟩;
           have BK3 := Aside0.mk bk; have HO3 := Aside0.mk ho; have HB3 := Aside0.mk hb; have HS3 := Aside0.mk hs; clear bk ho hb hs)
        | (go_at_call 47; (with_reducible refine (write_walk g2 _ v3 (ints (hexOf (ds.take k)) ++ [((hx (d / 16)).toNat : Int)]) ((hx (d % 16)).toNat : Int) w.heap.size w _ (.inr rfl) BK3 HB3 HS3 GE2 HO3 HL2).mono ?_); rintro e w4 ⟨rfl, v4, bk, ho, hb, hs, _⟩;
           have BK4 := Aside0.mk bk; have HO4 := Aside0.mk ho; have HB4 := Aside0.mk hb; clear bk ho hb hs))
      go_roundw
      case rel =>
        refine ⟨k + 1, by omega, by go_num, ⟨_, v4, .inr rfl, BK4.out, ?_, HB4.out⟩⟩
        have := HO4.out
        rwa [← ints_snoc, ← ints_snoc, ← hd, ← hexOf_take ds k hkl] at this
      case measure => simp [intOf]; omega
    · obtain rfl : k = 32 := by omega
      obtain ⟨p, v, hp, bk, ho, hb⟩ := HI.out
      rw [List.take_of_length_le (by rw [HD.out.1]; omega)] at ho
      have BK := Aside0.mk bk
      have HO := Aside0.mk ho
      have HB2 := Aside0.mk hb
      have hne : hexOf ds ≠ [] := by
        intro e
        have := hexOf_length ds
        rw [e, HD.out.1] at this
        simp at this
      clear bk ho hb hp HI BK2 HB
      go_wp2_with (
        first
        | (go_at_call 48; (with_reducible refine (string_walk g2 p v (hexOf ds) w.heap.size w _ BK HB2 HO hne).mono ?_); rintro e w5 ⟨rfl, hb⟩; have HB5 := Aside0.mk hb; clear hb))
      go_ret
      exact ⟨rfl, HB5.out⟩
end Go.Proofs.YtoaimcobcgomjaaDoor.Q
