/-
  TapStream: what lies in memory: the row of what is lost, the row of what is told.
-/
import Derived.Test.YtkkkjidbakmjdaaDoorTapStr
namespace Go.Proofs.YtkkkjidbakmjdaaDoor.Q
open Go.RowKit Go.Proofs.YtkkkjidbakmjdaaDoorW.PrintWords Go.Proofs.YtkkkjidbakmjdaaDoorW.PrintLast Go.Proofs.YtkkkjidbakmjdaaDoorW.PrintMore
set_option linter.unusedVariables false
set_option linter.unusedSimpArgs false
def lostA (m : Nat) (bits : List Bool) : Array Value := ((bits ++ List.replicate (m - bits.length) false).map Value.bool).toArray
theorem lost_size {m : Nat} {bits : List Bool} (h : bits.length ≤ m) : (lostA m bits).size = m := by simp [lostA]; omega
theorem lost_set {m q : Nat} {bits : List Bool} (b : Bool) (hq : bits.length = q) (h : q < m) :
    (if q < (lostA m bits).size then some ((lostA m bits).setIfInBounds q (.bool b)) else none) = some (lostA m (bits ++ [b])) := by
  rw [lost_size (by omega), if_pos h]
  subst hq
  congr 1
  simp only [lostA, List.setIfInBounds_toArray, List.map_append, List.length_append, List.length_cons, List.length_nil]
  obtain ⟨r, hr⟩ : ∃ r, m - bits.length = r + 1 := ⟨m - bits.length - 1, by omega⟩
  rw [hr, show m - (bits.length + (0 + 1)) = r by omega, List.replicate_succ]
  congr 1
  rw [List.set_append_right _ _ (by simp)]
  simp
theorem bools_lost {w : World} {g m : Nat} {bits : List Bool} (h : w.heap[g]? = some (.cells (lostA m bits) 4 (0, 0))) : Bools w ⟨g, 0, none⟩ bits := fun j x hx => by
  rw [addr0, cell_of_row w g j _ _ _ h]
  have hj := (List.getElem?_eq_some_iff.1 hx).1
  simp only [lostA, List.map_append, List.getElem?_toArray]
  rw [List.getElem?_append_left (by simpa using hj)]
  simp [hx]
theorem make_bools (m : Nat) (hm : m ≤ 1000) (w : World) : (Instr.makeSlice 43 (.int .i64 (m : Int)) (.int .i64 (m : Int))).run Tryd.prog w = .ok (.slice (some ⟨w.heap.size, 0, none⟩) m m) (w.alloc (.cells (lostA m []) 4)) := by
  have hz : (Tryd.prog.info? 4).map (fun i => (i.zero, i.size, i.bytes)) = some (some (.bool false), 1, 1) := by kernel_rfl
  obtain ⟨i, hi, hz2⟩ := Option.map_eq_some_iff.1 hz
  obtain ⟨h1, h2, h3⟩ : i.zero = some (.bool false) ∧ i.size = 1 ∧ i.bytes = 1 := by simpa using hz2
  rw [run_makeSlice w 43 4 i (.bool false) Tryd.underlying43 hi h1 .i64 .i64 (m : Int) (m : Int) (by omega) (by omega) (by rw [h2]; omega) (by rw [h3]; omega) (by omega)]
  simp only [Int.toNat_natCast, h2, Nat.mul_one]
  congr 3
  simp only [lostA, madeCells, List.nil_append, List.length_nil, Nat.sub_zero, List.map_replicate, Value.cells]
  apply Array.ext
  · simp
  · intro j h4 h5
    simp [Nat.mod_one]
theorem idx_lost (g n cap i : Nat) (hi : i < n) (W : World) : (Instr.indexAt 43 (.slice (some ⟨g, 0, none⟩) n cap) (.int .i64 (i : Int))).run Tryd.prog W = .ok (.pointer (some ⟨g, i, none⟩)) W := by
  rw [idx_bools _ n cap i hi W, addr0]
theorem own_lt {w : World} {base e size n : Nat} {v : Value} {xs : List Value} (h : w.ownsRow base e size v n xs) : ∀ g, v.ownBlock = some g → g < w.heap.size := fun g hg => by
  obtain ⟨cells, hc⟩ := own_typed h g hg
  exact blk_lt hc
theorem io_grown {w w' : World} {base n c : Nat} {A : Option Addr} {l : List Itm} {v : Value} (h : ItsO w base A n c l) (ho : ∀ g, v.ownBlock = some g → g < base) (hg : w.grownBy w' v.ownBlock) : ItsO w' base A n c l := by
  have each : ∀ ad, A = some ad → ∃ g' k cur, ad = ⟨g', k, Option.none⟩ ∧ base ≤ g' ∧ w.heap[g']? = some (.cells cur 32 (0, 0)) ∧ w'.heap[g']? = some (.cells cur 32 (0, 0)) ∧ k + n * 101 ≤ cur.size := fun ad e => by
    obtain ⟨g', k, cur, e1, h1, h2, h3⟩ := h.2 ad e
    exact ⟨g', k, cur, e1, h1, h2, (hg.block g' (blk_lt h2) (fun ek => by have := ho g' ek.symm; omega)).trans h2, h3⟩
  refine ⟨⟨h.1.len, h.1.le, h.1.max, h.1.nil_, fun ad e i v hv => ?_, h.1.wf⟩, fun ad e => ?_⟩
  · obtain ⟨g', k, cur, e1, h1, h2, h3, _⟩ := each ad e
    have hc := h.1.lie ad e i v hv
    subst e1
    have ea : (⟨g', k, Option.none⟩ : Addr).add i = ⟨g', k + i, Option.none⟩ := by rw [← addr0 g' k, addr_add, addr0]
    rw [ea, cell_of_row w g' (k + i) cur 32 (0, 0) h2] at hc
    rw [ea, cell_of_row w' g' (k + i) cur 32 (0, 0) h3]
    exact hc
  · obtain ⟨g', k, cur, e1, h1, h2, h3, h4⟩ := each ad e
    exact ⟨g', k, cur, e1, h1, h3, h4⟩
theorem its_nil {w W : World} {A : Option Addr} {n c : Nat} (h : Its w A n c []) : Its W A n c [] := ⟨h.len, h.le, h.max, h.nil_, (fun ad e i v hv => by simp [flatI] at hv), h.wf⟩
theorem kept_nil {W0 w w1 : World} {A : Option Addr} {n c : Nat} (h : Kept W0 w A n c []) : Kept W0 w1 A n c [] := h.elim (fun h => .inl h) (fun h => .inl (its_nil h.1))
theorem flat_snoc (l : List Itm) (x : Itm) : flatI l ++ icl x = flatI (l ++ [x]) := by rw [flatI_append, flatI_one]
theorem wfs_snoc {l : List Itm} {x : Itm} (h : Wfs l) (hx : x.ev.hd.wf) : Wfs (l ++ [x]) := fun y hy => by
  rcases List.mem_append.1 hy with h1 | h1
  · exact h y h1
  · rw [List.mem_singleton.1 h1]; exact hx
theorem its_none (w : World) : Its w none 0 0 [] := Its.none w
theorem own_store3 {w w1 : World} {base : Nat} {e : TypeId} {size n : Nat} {v : Value} {xs : List Value} (h : w.ownsRow base e size v n xs) {g : Nat} (hne : ∀ k, v.ownBlock = some k → k ≠ g) (hoth : ∀ k, k ≠ g → w1.heap[k]? = w.heap[k]?) : w1.ownsRow base e size v n xs :=
  own_move h fun k hk => hoth k (hne k hk)
theorem own_ne {w : World} {base : Nat} {e : TypeId} {size n : Nat} {v : Value} {xs : List Value} (h : w.ownsRow base e size v n xs) {g : Nat} (hg : g = w.heap.size) : ∀ k, v.ownBlock = some k → k ≠ g := fun k hk => by
  have := own_lt h k hk
  omega
theorem wl_make_bools {ops : Array Oper} {rest : List Oper} {o : Oper} {a : Act} {w : World} {Q : Exit → Act → World → Prop} (hgd : o.guard = none) (m : Nat) (hm : m ≤ 1000) (x : Operand) (ho : o.op = .makeSlice 43 x x) (hx : a.eval x = .int .i64 (m : Int))
    (h : ∀ g, g = w.heap.size → ∀ w1, w1.heap[g]? = some (.cells (lostA m []) 4 (0, 0)) → Below w.heap.size w w1 → wpList Tryd.prog ops Q rest (a.put o.dst (.slice (some ⟨g, 0, none⟩) m m)) w1) : wpList Tryd.prog ops Q (o :: rest) a w := by
  refine wpList_plain hgd fun K hK => ?_
  unfold Oper.wp execOp
  simp only [ho, hx, Sem.run_bind, Sem.run_pure, Result.andThen_ok, make_bools m hm w]
  exact hK _ _ (h _ rfl _ (blk_new w _) (below_new w _))
theorem wl_item {ops : Array Oper} {rest : List Oper} {o : Oper} {a : Act} {w : World} {Q : Exit → Act → World → Prop} (hgd : o.guard = none) (x1 : Itm) (hd : x1.ev.hd.wf) (x : Operand) (ho : o.op = .buildSlice 22 1 #[(0, x)]) (hx : a.eval x = .agg (ia x1))
    (h : ∀ g w1, Lie w1 ⟨g, 0, none⟩ (icl x1) → Below w.heap.size w w1 → wpList Tryd.prog ops Q rest (a.put o.dst (.slice (some ⟨g, 0, none⟩) 1 1)) w1) : wpList Tryd.prog ops Q (o :: rest) a w :=
  wl_its_one hgd x1 (fun y hy => by rw [List.mem_singleton.1 hy]; exact hd) x ho hx (h _ _ (by rw [flatI_one]; exact blk_of (blk_new w _)) (below_new w _))
end Go.Proofs.YtkkkjidbakmjdaaDoor.Q
