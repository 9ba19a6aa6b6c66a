/-
  Digests compared; a digest read from its text and back: plainly.
-/
import Derived.Test.YtoaimcobcgomjaaDoorShaRead
import Derived.Test.YtoaimcobcgomjaaDoorShaAlive
import Derived.Stop.BytesEq
namespace Go.Proofs.YtoaimcobcgomjaaDoor.Q
open Go.RowKit Go.Proofs.YtoaimcobcgomjaaDoorW.PrintWords Go.Proofs.YtoaimcobcgomjaaDoorW.PrintLast Go.Proofs.YtoaimcobcgomjaaDoorW.PrintMore
set_option linter.unusedVariables false
set_option linter.unusedSimpArgs false

theorem dig_load {o : Oper} {a : Act} {W : World} {x : Operand} {g : Nat} {ds : List Int} (ho : o.op = .load 25 x) (hx : a.eval x = .pointer (some ⟨g, 0, none⟩)) (hg : W.heap[g]? = some (.cells (arr ds) 25 (0, 0))) (hl : ds.length = 32) :
    (execOp a.eval o).run Tryd.prog W = .ok (.value (.agg (arr ds))) W := by
  unfold execOp
  simp only [ho, hx, Instr.loadAt, Instr.sureAddr, Sem.run_bind, Sem.run_pure, Result.andThen_ok, run_loadVar_row W g 25 25 (arr ds) (0, 0) _ hg Tryd.underlying25 rfl (by rw [arr_size, hl]; exact info_dig)]
theorem arr_cells (ds : List Int) (h : Dig ds) : arr ds = ((ds.map fun x => x.toNat.toUInt8).map Extern.Stop.cell).toArray := by
  unfold arr
  congr 1
  rw [List.map_map]
  apply List.map_congr_left
  intro x hx
  obtain ⟨h0, h1⟩ := h.2 x hx
  obtain ⟨n, rfl⟩ := Int.eq_ofNat_of_zero_le h0
  have hn : n < 256 := by omega
  simp [Function.comp, Extern.Stop.cell, Nat.mod_eq_of_lt hn]
set_option maxRecDepth 100000 in
theorem run_eql_dig (x y : List Int) (hx : Dig x) (hy : Dig y) (W : World) : (binOp .eql 25 (.agg (arr x)) (.agg (arr y))).run Tryd.prog W = .ok (.bool (decide (x = y))) W := by
  obtain ⟨i, hi, h1, h2, h3⟩ := info_parts info5
  rw [arr_cells x hx, arr_cells y hy, run_eql_bytes W 25 5 32 Tryd.underlying25 Tryd.underlying5 (fun w => by simp [sizeOf, typeInfo, hi, h2]) _ _ (by rw [List.length_map]; exact hx.1) (by rw [List.length_map]; exact hy.1)]
  congr 2
  rw [Bool.eq_iff_iff]
  simp only [beq_iff_eq, decide_eq_true_eq]
  constructor
  · intro h
    apply List.ext_getElem (by rw [hx.1, hy.1])
    intro j h1 h2
    have hj := congrArg (fun l => l[j]?) h
    simp only [List.getElem?_map, List.getElem?_eq_getElem h1, List.getElem?_eq_getElem h2, Option.map_some, Option.some.injEq] at hj
    have hxr := hx.2 _ (List.getElem_mem h1)
    have hyr := hy.2 _ (List.getElem_mem h2)
    have := congrArg UInt8.toNat hj
    simp at this
    omega
  · rintro rfl; rfl
theorem run_eql_same (x : List Int) (hx : Dig x) (W : World) : (binOp .eql 25 (.agg (arr x)) (.agg (arr x))).run Tryd.prog W = .ok (.bool true) W := by
  rw [run_eql_dig x x hx hx W]; simp
theorem eqg_dig : Tryd.prog.eqGuardType Tryd.prog.depth 25 = false := by kernel_rfl
theorem dig_eqb {o : Oper} {a : Act} {W : World} {x y : Operand} {ds es : List Int} (ho : o.op = .binOp .eql 25 x y 25) (hx : a.eval x = .agg (arr ds)) (hy : a.eval y = .agg (arr es)) (hd : Dig ds) (he : Dig es) :
    (execOp a.eval o).run Tryd.prog W = .ok (.value (.bool (decide (ds = es)))) W := by
  have := run_eql_dig ds es hd he W
  unfold execOp
  simp only [ho, hx, hy]
  have hg := run_eqGuard_agg W .eql 25 x y (arr ds) (arr es) eqg_dig
  simp [this, hg, Sem.run_bind, Result.andThen]
theorem dig_eql {o : Oper} {a : Act} {W : World} {x y : Operand} {ds : List Int} (ho : o.op = .binOp .eql 25 x y 25) (hx : a.eval x = .agg (arr ds)) (hy : a.eval y = .agg (arr ds)) (hd : Dig ds) :
    (execOp a.eval o).run Tryd.prog W = .ok (.value (.bool true)) W := by
  have := run_eql_dig ds ds hd hd W
  unfold execOp
  simp only [ho, hx, hy]
  have hm : Tryd.prog.eqGuardType Tryd.prog.depth 25 = false := by kernel_rfl
  have hg := run_eqGuard_agg W .eql 25 x y (arr ds) (arr ds) hm
  simp [this, hg, Sem.run_bind, Result.andThen]
theorem zeros32_dig : Dig zeros32 := ⟨rfl, fun x hx => by have := List.eq_of_mem_replicate hx; omega⟩
theorem readOf_dig (s : ByteArray) : Dig (readOf s).1 := by
  unfold readOf
  split
  · rename_i h
    have ha := h.2
    unfold allDig at ha
    rw [List.all_eq_true] at ha
    have hd : ∀ j, j < 64 → 0 ≤ h16 (chr s j) ∧ h16 (chr s j) < 16 := fun j hj => ⟨of_decide_eq_true (ha j (List.mem_range.2 hj)), (h16_range _).2⟩
    refine ⟨curD_length s 64, fun x hx => ?_⟩
    simp only [curD, List.mem_map, List.mem_range] at hx
    obtain ⟨j, hj, rfl⟩ := hx
    rw [if_pos (by omega)]
    have h1 := hd (2 * j) (by omega)
    have h2 := hd (2 * j + 1) (by omega)
    omega
  · exact zeros32_dig


/-! ### Hex and Read undo each other -/
theorem hexOf_get (ds : List Int) : ∀ (j : Nat) (d : Int), ds[j]? = some d → (hexOf ds)[2 * j]? = some (hx (d / 16)) ∧ (hexOf ds)[2 * j + 1]? = some (hx (d % 16)) := by
  induction ds with
  | nil => intro j d h; simp at h
  | cons x ds ih =>
    intro j d h
    have e : hexOf (x :: ds) = hx (x / 16) :: hx (x % 16) :: hexOf ds := by simp [hexOf]
    rw [e]
    cases j with
    | zero =>
      obtain rfl : x = d := by simpa using h
      simp
    | succ j =>
      have h2 := ih j d (by simpa using h)
      rw [show 2 * (j + 1) = 2 * j + 1 + 1 by omega, show 2 * j + 1 + 1 + 1 = (2 * j + 1) + 1 + 1 by omega]
      simpa using h2
theorem h16_hx (n : Int) (h0 : 0 ≤ n) (h1 : n < 16) : h16 ((hx n).toNat : Int) = n := by
  have : ∀ m : Fin 16, h16 ((hx ((m.1 : Nat) : Int)).toNat : Int) = ((m.1 : Nat) : Int) := by decide +kernel
  obtain ⟨m, rfl⟩ := Int.eq_ofNat_of_zero_le h0
  exact this ⟨m, by omega⟩
theorem hx_h16 (c : UInt8) (h : 0 ≤ h16 (c.toNat : Int)) : hx (h16 (c.toNat : Int)) = c := by
  have : ∀ m : Fin 256, 0 ≤ h16 ((m.1 : Nat) : Int) → (hx (h16 ((m.1 : Nat) : Int))).toNat = m.1 := by decide +kernel
  have h2 := this ⟨c.toNat, c.toNat_lt⟩ h
  exact UInt8.toNat_inj.1 h2
theorem chr_get (s : ByteArray) (i : Nat) (b : UInt8) (h : s.data.toList[i]? = some b) : chr s i = (b.toNat : Int) := by
  unfold chr
  rw [h]
  rfl
theorem read_hex (ds : List Int) (hd : Dig ds) : readOf ⟨(hexOf ds).toArray⟩ = (ds, 0) := by
  have hg : ∀ (j : Nat) (hj : j < 32), (hexOf ds)[2 * j]? = some (hx (ds[j]'(by rw [hd.1]; exact hj) / 16)) ∧ (hexOf ds)[2 * j + 1]? = some (hx (ds[j]'(by rw [hd.1]; exact hj) % 16)) := fun j hj => hexOf_get ds j _ (List.getElem?_eq_getElem (by rw [hd.1]; exact hj))
  have hb : ∀ (j : Nat) (hj : j < 32), (0 : Int) ≤ ds[j]'(by rw [hd.1]; exact hj) ∧ ds[j]'(by rw [hd.1]; exact hj) < 256 := fun j hj => hd.2 (ds[j]'(by rw [hd.1]; exact hj)) (List.getElem_mem _)
  have hc : ∀ (j : Nat) (hj : j < 32), h16 (chr ⟨(hexOf ds).toArray⟩ (2 * j)) = ds[j]'(by rw [hd.1]; exact hj) / 16 ∧ h16 (chr ⟨(hexOf ds).toArray⟩ (2 * j + 1)) = ds[j]'(by rw [hd.1]; exact hj) % 16 := fun j hj => by
    have h1 := hg j hj
    have h2 := hb j hj
    rw [chr_get _ _ _ (by simpa using h1.1), chr_get _ _ _ (by simpa using h1.2), h16_hx _ (by omega) (by omega), h16_hx _ (by omega) (by omega)]
    exact ⟨rfl, rfl⟩
  have hall : allDig ⟨(hexOf ds).toArray⟩ = true := by
    unfold allDig
    rw [List.all_eq_true]
    intro i hi
    have hi := List.mem_range.1 hi
    apply decide_eq_true
    have h1 := hc (i / 2) (by omega)
    have h2 := hb (i / 2) (by omega)
    rcases Nat.mod_two_eq_zero_or_one i with hp | hp
    · rw [show i = 2 * (i / 2) by omega, h1.1]; omega
    · rw [show i = 2 * (i / 2) + 1 by omega, h1.2]; omega
  have hsz : (⟨(hexOf ds).toArray⟩ : ByteArray).size = 64 := by
    show (hexOf ds).toArray.size = 64
    rw [List.size_toArray, hexOf_length, hd.1]
  unfold readOf
  rw [if_pos ⟨hsz, hall⟩]
  congr 1
  apply List.ext_getElem (by rw [curD_length, hd.1])
  intro j h1 h2
  have hj : j < 32 := by rw [hd.1] at h2; exact h2
  simp only [curD, List.getElem_map, List.getElem_range]
  rw [if_pos (by omega), (hc j hj).1, (hc j hj).2]
  omega
theorem hex_read (s : ByteArray) (h : s.size = 64 ∧ allDig s = true) : (⟨(hexOf (curD s 64)).toArray⟩ : ByteArray) = s := by
  have hl : s.data.toList.length = 64 := by rw [Array.length_toList]; exact h.1
  have ha : ∀ j, j < 64 → 0 ≤ h16 (chr s j) ∧ h16 (chr s j) < 16 := fun j hj => by
    have h2 := h.2
    unfold allDig at h2
    rw [List.all_eq_true] at h2
    exact ⟨of_decide_eq_true (h2 j (List.mem_range.2 hj)), (h16_range _).2⟩
  have e : hexOf (curD s 64) = s.data.toList := by
    apply List.ext_getElem?
    intro i
    rcases Nat.lt_or_ge i 64 with hi | hi
    · have hj : i / 2 < 32 := by omega
      have hg := hexOf_get (curD s 64) (i / 2) (16 * h16 (chr s (2 * (i / 2))) + h16 (chr s (2 * (i / 2) + 1))) (by
        simp only [curD, List.getElem?_map]
        rw [List.getElem?_range hj]
        simp only [Option.map_some]
        rw [if_pos (by omega)])
      have h1 := ha (2 * (i / 2)) (by omega)
      have h2 := ha (2 * (i / 2) + 1) (by omega)
      have hs : s.data.toList[i]? = some (s.data.toList[i]'(by omega)) := List.getElem?_eq_getElem (by omega)
      have hc := chr_get s i _ hs
      have hx1 := hx_h16 (s.data.toList[i]'(by omega)) (by rw [← hc]; exact (ha i hi).1)
      rw [hs]
      rcases Nat.mod_two_eq_zero_or_one i with hp | hp
      · have e1 : 2 * (i / 2) = i := by omega
        rw [e1] at hg h1 h2
        rw [hg.1, show (16 * h16 (chr s i) + h16 (chr s (i + 1))) / 16 = h16 (chr s i) by omega, hc, hx1]
      · have e1 : 2 * (i / 2) + 1 = i := by omega
        rw [e1] at hg h2
        rw [hg.2, show (16 * h16 (chr s (2 * (i / 2))) + h16 (chr s i)) % 16 = h16 (chr s i) by omega, hc, hx1]
    · rw [List.getElem?_eq_none (l := hexOf (curD s 64)) (by rw [hexOf_length, curD_length]; omega), List.getElem?_eq_none (by omega)]
  rw [e]
end Go.Proofs.YtoaimcobcgomjaaDoor.Q
