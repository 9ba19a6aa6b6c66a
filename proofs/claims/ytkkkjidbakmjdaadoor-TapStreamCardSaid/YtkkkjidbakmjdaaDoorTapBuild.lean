/-
  Items and slices of items, built.
-/
import Derived.Test.YtkkkjidbakmjdaaDoorTapCheck
namespace Go.Proofs.YtkkkjidbakmjdaaDoor.Q
open Go.RowKit Go.Proofs.YtkkkjidbakmjdaaDoorW.PrintWords Go.Proofs.YtkkkjidbakmjdaaDoorW.PrintLast Go.Proofs.YtkkkjidbakmjdaaDoorW.PrintMore
set_option linter.unusedVariables false
set_option linter.unusedSimpArgs false

theorem fill_one {place : Nat → Option (Nat × Nat)} {cells : Array Value} {i off size : Nat} {v : Value} (hp : place i = some (off, size)) (hs : v.cells.size = size) (hle : off + size ≤ cells.size) :
    ∃ r, Instr.fill place cells [(i, v)] = some r ∧ r.size = cells.size ∧ ∀ k, r[k]? = if off ≤ k ∧ k < off + size then v.cells[k - off]? else cells[k]? := by
  obtain ⟨g1, g2⟩ := Great.foldl_set off v.cells.toList 0 cells
  refine ⟨(v.cells.toList.zipIdx 0).foldl (fun cs (x : Value × Nat) => cs.setIfInBounds (off + x.2) x.1) cells, ?_, g1, fun k => ?_⟩
  · unfold Instr.fill
    simp only [hp, hs]
    rw [if_neg (by simp; omega)]
    unfold Instr.fill
    rw [← Array.toList_zipIdx, Array.foldl_toList]
  · rw [g2 k]
    simp only [Nat.add_zero, Array.length_toList, hs, Array.getElem?_toList]
    by_cases h : off ≤ k ∧ k < off + size
    · rw [if_pos h, if_pos ⟨h.1, h.2, by omega⟩]
    · rw [if_neg h, if_neg (by omega)]
set_option maxRecDepth 100000 in
theorem places_itm : ((match Tryd.prog.underlying 32 with | some (.struct fs) => fs.toList.mapM (fun f => (Tryd.prog.info? f.type).map fun i => (f.offset, i.size)) | _ => none)) = some [(0, 1), (1, 100)] := by kernel_rfl
set_option maxRecDepth 100000 in
theorem built_itm (e : Evt) (he : e.hd.wf) : Tryd.prog.built 32 [(1, .agg (ea e))] = some (ia ⟨false, e⟩) := by
  obtain ⟨i0, hi0, hz0, hz1, hz2⟩ := info_parts info_itm
  obtain ⟨r, hr, hsz, hk⟩ := fill_one (place := fun i => ([(0, 1), (1, 100)] : List (Nat × Nat)).toArray[i]?) (cells := ia it0) (i := 1) (off := 1) (size := 100) (v := .agg (ea e)) rfl (ea_size he) (by rw [ia_size (x := it0) hd0_wf]; omega)
  have hp := places_itm
  have e1 : Tryd.prog.built 32 [(1, .agg (ea e))] = some r := by
    unfold Program.built
    rw [Tryd.underlying32] at hp ⊢
    simp only at hp
    simp only [hi0, hz0, hp]
    exact hr
  rw [e1]
  congr 1
  refine Array.ext_getElem? fun k => ?_
  rw [hk k]
  have hl : (icl ⟨false, e⟩).length = 101 := icl_len (x := ⟨false, e⟩) he
  by_cases h : 1 ≤ k ∧ k < 1 + 100
  · rw [if_pos h]
    obtain ⟨j, rfl⟩ : ∃ j, k = j + 1 := ⟨k - 1, by omega⟩
    show (ea e)[j + 1 - 1]? = (ia ⟨false, e⟩)[j + 1]?
    rw [Nat.add_sub_cancel, ea, ia, List.getElem?_toArray, List.getElem?_toArray]
    rfl
  · rw [if_neg h]
    by_cases h0 : k = 0
    · subst h0
      rw [ia_gap, ia_gap]
      rfl
    · rw [Array.getElem?_eq_none (by rw [ia_size (x := it0) hd0_wf]; omega), Array.getElem?_eq_none (by rw [ia_size (x := ⟨false, e⟩) he]; omega)]
theorem flatI_get (l : List Itm) (h : Wfs l) : ∀ (j i : Nat) (hj : j < l.length), i < 101 → (flatI l)[j * 101 + i]? = (icl l[j])[i]? := by
  induction l with
  | nil => intro j i hj; simp at hj
  | cons x l ih =>
    intro j i hj hi
    have hx := icl_len (h x List.mem_cons_self)
    rw [flatI_cons]
    cases j with
    | zero =>
      rw [List.getElem?_append_left (by omega), Nat.zero_mul, Nat.zero_add]
      rfl
    | succ j =>
      rw [List.getElem?_append_right (by omega), hx, show (j + 1) * 101 + i - 101 = j * 101 + i by omega]
      exact ih (fun y hy => h y (List.mem_cons_of_mem _ hy)) j i (by simpa using hj) hi
theorem fill_its (l : List Itm) (h : Wfs l) (cells : Array Value) (hc : cells.size = l.length * 101) :
    Instr.fill (fun i => some (i * 101, 101)) cells (((l.map fun x => Value.agg (ia x)).zipIdx 0).map fun x => (x.2, x.1)) = some (flatI l).toArray := by
  obtain ⟨r, hr, hsz, hk⟩ := Great.fill_dense (s := 101) (by omega) (l.map fun x => Value.agg (ia x)) 0 cells (fun v hv => by
    obtain ⟨x, hx, rfl⟩ := List.mem_map.1 hv
    exact ia_size (h x hx)) (by rw [List.length_map, hc]; omega)
  rw [hr]
  congr 1
  refine Array.ext_getElem? fun k => ?_
  rw [hk k, show (flatI l).toArray[k]? = (flatI l)[k]? from List.getElem?_toArray]
  have hlen := flatI_len l h
  simp only [Nat.zero_mul, Nat.zero_le, true_and, Nat.zero_add, List.length_map, Nat.sub_zero]
  by_cases hlt : k < l.length * 101
  · rw [if_pos hlt]
    have e := flatI_get l h (k / 101) (k % 101) (by omega) (by omega)
    rw [show k / 101 * 101 + k % 101 = k by omega] at e
    rw [e, List.getElem?_map, List.getElem?_eq_getElem (show k / 101 < l.length by omega)]
    show (ia (l[k / 101]'(by omega)))[k % 101]? = _
    rw [ia, List.getElem?_toArray]
  · rw [if_neg hlt, Array.getElem?_eq_none (by rw [hc]; omega), List.getElem?_eq_none (by rw [hlen]; omega)]
theorem run_build_its (w : World) (l : List Itm) (h : Wfs l) (parts : Array (Nat × Value)) (hp : parts.toList = ((l.map fun x => Value.agg (ia x)).zipIdx 0).map fun x => (x.2, x.1)) (h0 : 0 < l.length) (h1 : l.length ≤ 100) :
    (Instr.buildSlice 22 l.length parts).run Tryd.prog w = .ok (.slice (some ⟨w.heap.size, 0, none⟩) l.length l.length) (w.alloc (.cells (flatI l).toArray 32)) := by
  obtain ⟨i0, hi0, hz0, hz1, hz2⟩ := info_parts info_itm
  refine run_buildSlice w 22 32 l.length parts _ i0 (.agg (ia it0)) Tryd.underlying22 hi0 hz0 (by rw [hz1]; omega) (by rw [hz1]; omega) ?_
  rw [hz1, hp]
  exact fill_its l h _ (by simp)
theorem wl_build_its {ops : Array Oper} {rest : List Oper} {o : Oper} {a : Act} {w : World} {Q : Exit → Act → World → Prop} (hgd : o.guard = none) (l : List Itm) (n : Nat) (hn : l.length = n) (hd : Wfs l) (parts : Array (Nat × Operand)) (ho : o.op = .buildSlice 22 n parts)
    (hp : (parts.map fun (i, x) => (i, a.eval x)).toList = ((l.map fun x => Value.agg (ia x)).zipIdx 0).map fun x => (x.2, x.1)) (h0 : 0 < n) (h1 : n ≤ 100)
    (h : wpList Tryd.prog ops Q rest (a.put o.dst (.slice (some ⟨w.heap.size, 0, none⟩) n n)) (w.alloc (.cells (flatI l).toArray 32))) : wpList Tryd.prog ops Q (o :: rest) a w := by
  subst hn
  refine wpList_plain hgd fun K hK => ?_
  unfold Oper.wp execOp
  simp only [ho, Sem.run_bind, run_build_its w l hd _ hp h0 h1, Result.andThen_ok]
  exact hK _ _ h
theorem wl_its_two {ops : Array Oper} {rest : List Oper} {o : Oper} {a : Act} {w : World} {Q : Exit → Act → World → Prop} (hgd : o.guard = none) (x1 x2 : Itm) (hd : Wfs [x1, x2]) (x y : Operand) (ho : o.op = .buildSlice 22 2 #[(0, x), (1, y)]) (hx : a.eval x = .agg (ia x1)) (hy : a.eval y = .agg (ia x2))
    (h : wpList Tryd.prog ops Q rest (a.put o.dst (.slice (some ⟨w.heap.size, 0, none⟩) 2 2)) (w.alloc (.cells (flatI [x1, x2]).toArray 32))) : wpList Tryd.prog ops Q (o :: rest) a w :=
  wl_build_its hgd [x1, x2] 2 rfl hd _ ho (by simp only [List.map_toArray, List.map_cons, List.map_nil, hx, hy]; rfl) (by omega) (by omega) h
theorem wl_its_one {ops : Array Oper} {rest : List Oper} {o : Oper} {a : Act} {w : World} {Q : Exit → Act → World → Prop} (hgd : o.guard = none) (x1 : Itm) (hd : Wfs [x1]) (x : Operand) (ho : o.op = .buildSlice 22 1 #[(0, x)]) (hx : a.eval x = .agg (ia x1))
    (h : wpList Tryd.prog ops Q rest (a.put o.dst (.slice (some ⟨w.heap.size, 0, none⟩) 1 1)) (w.alloc (.cells (flatI [x1]).toArray 32))) : wpList Tryd.prog ops Q (o :: rest) a w :=
  wl_build_its hgd [x1] 1 rfl hd _ ho (by simp only [List.map_toArray, List.map_cons, List.map_nil, hx]; rfl) (by omega) (by omega) h
theorem its_new (w : World) (l : List Itm) (n : Nat) (hn : l.length = n) (hd : Wfs l) (hn2 : n < 1000) : Its (w.alloc (.cells (flatI l).toArray 32)) (some ⟨w.heap.size, 0, none⟩) n n l := by
  subst hn
  refine ⟨rfl, Nat.le_refl _, by omega, (fun e => by cases e), fun ad e => ?_, hd⟩
  cases e
  exact blk_of (blk_new w _)
end Go.Proofs.YtkkkjidbakmjdaaDoor.Q
