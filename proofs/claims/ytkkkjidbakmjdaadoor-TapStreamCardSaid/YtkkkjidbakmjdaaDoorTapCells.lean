/-
  Headers, events and items as cells: sizes, loads, equality.
-/
import Derived.Test.YtkkkjidbakmjdaaDoorProg
import Derived.Below
import Derived.Deep.Draws
import Derived.Deep.AppendLies
import Derived.Maps.AppendAt
import Derived.OwnWalk
import Derived.Laws.BytesArg
import Derived.Laws.MakeOwn
import Derived.Laws.OwnMore
import Derived.Deep.OwnRows
import Derived.Tactics
import Derived.Lib.ConvBytes
import Derived.Laws.Slices
import Derived.WalkKit
import Derived.KernelRfl
import Derived.RowKit3
import Derived.Deep.LoopGhost
import Derived.Deep.QuietTactic
import Derived.BigQuiet
import Derived.WideLaws
import Derived.Deep.DeepCutAuto
import Derived.Deep.CutBlock
import Derived.Deep.RegionHeld3
import Derived.Laws.Rows
import Derived.Lib.AppendStr
import Derived.ArgAppend
import Derived.Laws.IdiomCopy
import Derived.OrdersHeld
import Derived.Laws.BitsLemmas
import Derived.RowKit
import Derived.Test.YtkkkjidbakmjdaaDoorWWords
import Derived.Test.YtkkkjidbakmjdaaDoorWLast
import Derived.Test.YtkkkjidbakmjdaaDoorWTab
import Derived.Test.YtkkkjidbakmjdaaDoorWFour
import Derived.Test.YtkkkjidbakmjdaaDoorWQPut
import Derived.Test.YtkkkjidbakmjdaaDoorWApart
import Derived.Test.YtkkkjidbakmjdaaDoorWArr
import Derived.Test.YtkkkjidbakmjdaaDoorWZeros
import Derived.Test.YtkkkjidbakmjdaaDoorWFoot
import Derived.Test.YtkkkjidbakmjdaaDoorWKept
import Derived.Test.YtkkkjidbakmjdaaDoorWShare
import Derived.Test.YtkkkjidbakmjdaaDoorWN
import Derived.Test.YtkkkjidbakmjdaaDoorWFootNe
import Derived.Test.YtkkkjidbakmjdaaDoorWAt
import Derived.Test.YtkkkjidbakmjdaaDoorWEqStruct
import Derived.Test.YtkkkjidbakmjdaaDoorWRepsOne
import Derived.Test.YtkkkjidbakmjdaaDoorWInv
import Derived.Test.YtkkkjidbakmjdaaDoorWInvWords
import Derived.Test.YtkkkjidbakmjdaaDoorWGuard
import Derived.Test.YtkkkjidbakmjdaaDoorWNEv
import Derived.Test.YtkkkjidbakmjdaaDoorWMore
import Derived.Great.BuildSlice
import Derived.Stop.BytesEq
import Derived.Laws.CopyOwn
import Derived.WalkSpells
import Derived.Lib.Hide
namespace Go.Proofs.YtkkkjidbakmjdaaDoor.Q
open Go.RowKit Go.Proofs.YtkkkjidbakmjdaaDoorW.PrintWords Go.Proofs.YtkkkjidbakmjdaaDoorW.PrintLast Go.Proofs.YtkkkjidbakmjdaaDoorW.PrintMore
set_option linter.unusedVariables false
set_option linter.unusedSimpArgs false

structure Hdr where
  h : Int
  p : List Int
  s : List Int
  r : List Int
  m : Int
  deriving DecidableEq
structure Evt where
  n : Int
  roll : Bool
  hd : Hdr
  deriving DecidableEq
structure Itm where
  gap : Bool
  ev : Evt
  deriving DecidableEq
def Dig (ds : List Int) : Prop := ds.length = 32 ∧ ∀ x ∈ ds, 0 ≤ x ∧ x < 256
def u8s (ds : List Int) : List Value := ds.map (.int .u8)
def hcl (x : Hdr) : List Value := .int .i64 x.h :: (u8s x.p ++ (u8s x.s ++ (u8s x.r ++ [.int .i64 x.m])))
def ecl (x : Evt) : List Value := .int .i64 x.n :: .bool x.roll :: hcl x.hd
def icl (x : Itm) : List Value := .bool x.gap :: ecl x.ev
def ha (x : Hdr) : Array Value := (hcl x).toArray
def ea (x : Evt) : Array Value := (ecl x).toArray
def ia (x : Itm) : Array Value := (icl x).toArray
def Hdr.wf (x : Hdr) : Prop := Dig x.p ∧ Dig x.s ∧ Dig x.r
def zer32 : List Int := List.replicate 32 0
theorem zer32_dig : Dig zer32 := ⟨rfl, fun x hx => by have := List.eq_of_mem_replicate hx; omega⟩
def hd0 : Hdr := ⟨0, zer32, zer32, zer32, 0⟩
def ev0 : Evt := ⟨0, false, hd0⟩
def it0 : Itm := ⟨false, ev0⟩
def gapI : Itm := ⟨true, ev0⟩
theorem hd0_wf : hd0.wf := ⟨zer32_dig, zer32_dig, zer32_dig⟩
theorem u8s_len (ds : List Int) : (u8s ds).length = ds.length := by simp [u8s]
theorem hcl_len {x : Hdr} (h : x.wf) : (hcl x).length = 98 := by
  simp only [hcl, List.length_cons, List.length_append, u8s_len, h.1.1, h.2.1.1, h.2.2.1, List.length_nil]
theorem ecl_len {x : Evt} (h : x.hd.wf) : (ecl x).length = 100 := by simp only [ecl, List.length_cons, hcl_len h]
theorem icl_len {x : Itm} (h : x.ev.hd.wf) : (icl x).length = 101 := by simp only [icl, List.length_cons, ecl_len h]
theorem ha_size {x : Hdr} (h : x.wf) : (ha x).size = 98 := by rw [ha, List.size_toArray, hcl_len h]
theorem ea_size {x : Evt} (h : x.hd.wf) : (ea x).size = 100 := by rw [ea, List.size_toArray, ecl_len h]
theorem ia_size {x : Itm} (h : x.ev.hd.wf) : (ia x).size = 101 := by rw [ia, List.size_toArray, icl_len h]
theorem u8s_one (ds : List Int) : ∀ u ∈ u8s ds, u.oneCell' = true := fun u hu => by
  obtain ⟨n, _, rfl⟩ := List.mem_map.1 hu
  rfl
theorem hcl_one (x : Hdr) : ∀ u ∈ hcl x, u.oneCell' = true := fun u hu => by
  simp only [hcl, List.mem_cons, List.mem_append, List.not_mem_nil, or_false] at hu
  rcases hu with rfl | h | h | h | rfl
  · rfl
  · exact u8s_one _ u h
  · exact u8s_one _ u h
  · exact u8s_one _ u h
  · rfl
theorem ecl_one (x : Evt) : ∀ u ∈ ecl x, u.oneCell' = true := fun u hu => by
  simp only [ecl, List.mem_cons] at hu
  rcases hu with rfl | rfl | h
  · rfl
  · rfl
  · exact hcl_one _ u h
theorem icl_one (x : Itm) : ∀ u ∈ icl x, u.oneCell' = true := fun u hu => by
  simp only [icl, List.mem_cons] at hu
  rcases hu with rfl | h
  · rfl
  · exact ecl_one _ u h
theorem all_one {l : List Value} (h : ∀ u ∈ l, u.oneCell' = true) : l.toArray.all (·.oneCell') = true := by
  rw [← Array.all_toList]
  exact List.all_eq_true.2 h
theorem ha_one (x : Hdr) : (ha x).all (·.oneCell') = true := all_one (hcl_one x)
theorem ea_one (x : Evt) : (ea x).all (·.oneCell') = true := all_one (ecl_one x)
theorem ia_one (x : Itm) : (ia x).all (·.oneCell') = true := all_one (icl_one x)
set_option maxRecDepth 100000 in
theorem info_hdr : (Tryd.prog.info? 28).map (fun i => (i.zero, i.size)) = some (some (.agg (ha hd0)), 98) := by kernel_rfl
set_option maxRecDepth 100000 in
theorem info_evt : (Tryd.prog.info? 30).map (fun i => (i.zero, i.size)) = some (some (.agg (ea ev0)), 100) := by kernel_rfl
set_option maxRecDepth 100000 in
theorem info_itm : (Tryd.prog.info? 32).map (fun i => (i.zero, i.size, i.bytes)) = some (some (.agg (ia it0)), 101, 136) := by kernel_rfl
theorem info_tap : (Tryd.prog.info? 24).map (fun i => (i.zero, i.size, i.bytes)) = some (some (.agg #[.slice none 0 0, .bool false]), 2, 32) := by kernel_rfl
theorem size_hdr : (Tryd.prog.info? 28).map (·.size) = some 98 := by kernel_rfl
theorem size_evt : (Tryd.prog.info? 30).map (·.size) = some 100 := by kernel_rfl
theorem size_itm : (Tryd.prog.info? 32).map (·.size) = some 101 := by kernel_rfl
theorem size_tap : (Tryd.prog.info? 24).map (·.size) = some 2 := by kernel_rfl
/-- Cells lie from an address on. -/
def Lie (w : World) (e : Addr) (l : List Value) : Prop := ∀ (i : Nat) (v : Value), l[i]? = some v → w.cell? (e.add i) = some v
theorem addr_add (a : Addr) (m n : Nat) : (a.add m).add n = a.add (m + n) := by
  unfold Addr.add
  by_cases hm : m = 0
  · subst hm; simp
  · by_cases hn : n = 0
    · subst hn; simp [hm]
    · rw [if_neg hm, if_neg hn, if_neg (by omega)]
      simp [Nat.add_assoc]
theorem addr0 (g j : Nat) : (⟨g, 0, none⟩ : Addr).add j = ⟨g, j, none⟩ := by
  unfold Addr.add
  by_cases h0 : j = 0
  · rw [h0]; rfl
  · rw [if_neg h0, Nat.zero_add]
theorem cell_below {W w : World} {a : Addr} {v : Value} (h : W.cell? a = some v) (hb : Below W.heap.size W w) : w.cell? a = some v := (hb.cell (World.block_lt_of_cell? _ _ h)).trans h
theorem Lie.below {W w : World} {e : Addr} {l : List Value} (h : Lie W e l) (hb : Below W.heap.size W w) : Lie w e l := fun i v hv => cell_below (h i v hv) hb
theorem Lie.left {w : World} {e : Addr} {l k : List Value} (h : Lie w e (l ++ k)) : Lie w e l := fun i v hv => h i v (by rw [List.getElem?_append_left (List.getElem?_eq_some_iff.1 hv).1]; exact hv)
theorem Lie.right {w : World} {e : Addr} {l k : List Value} (h : Lie w e (l ++ k)) : Lie w (e.add l.length) k := fun i v hv => by
  rw [addr_add]
  exact h _ v (by rw [List.getElem?_append_right (by omega)]; rw [Nat.add_sub_cancel_left]; exact hv)
theorem Lie.tail {w : World} {e : Addr} {v : Value} {l : List Value} (h : Lie w e (v :: l)) : Lie w (e.add 1) l := Lie.right (l := [v]) h
theorem Lie.head {w : World} {e : Addr} {v : Value} {l : List Value} (h : Lie w e (v :: l)) : w.cell? e = some v := by
  have := h 0 v rfl
  simpa [Addr.add] using this
theorem blk_lie {w : World} {g t : Nat} {cs : Array Value} {fr : Nat × Nat} (h : w.heap[g]? = some (.cells cs t fr)) : Lie w ⟨g, 0, none⟩ cs.toList := fun j u hu => by
  rw [addr0]
  exact (cell_of_row w g j cs t fr h).trans (by rw [← Array.getElem?_toList]; exact hu)
/-- A whole aggregate, loaded. -/
theorem run_load_lie (w : World) (ty : TypeId) (d : TypeDesc) (n : Nat) (e : Addr) (l : List Value) (hd : Tryd.prog.underlying ty = some d) (hg : (match d with | .struct _ | .array _ _ => true | _ => false) = true) (hn : (Tryd.prog.info? ty).map (·.size) = some n) (hl : l.length = n) (h : Lie w e l) : (loadVar ty e).run Tryd.prog w = .ok (.agg l.toArray) w := by
  have hr := run_loadCells_list (P := Tryd.prog) w e l h
  obtain ⟨i, hq, hs⟩ := Option.map_eq_some_iff.1 hn
  have hagg : (isAgg ty).run Tryd.prog w = .ok true w := by
    unfold isAgg
    rw [Sem.run_bind, run_underlying hd w]
    cases d <;> simp at hg <;> rfl
  rw [hl] at hr
  simp [loadVar, Sem.run_bind, hagg, sizeOf, typeInfo, hq, hs, hr]
theorem wl_load {ops : Array Oper} {rest : List Oper} {o : Oper} {a : Act} {w : World} {Q : Exit → Act → World → Prop} (hgd : o.guard = none) {ty : TypeId} {x : Operand} (ho : o.op = .load ty x) {e : Addr} (hx : a.eval x = .pointer (some e)) {v : Value} (hr : (loadVar ty e).run Tryd.prog w = .ok v w)
    (h : wpList Tryd.prog ops Q rest (a.put o.dst v) w) : wpList Tryd.prog ops Q (o :: rest) a w := by
  refine wpList_plain hgd fun K hK => ?_
  unfold Oper.wp execOp
  simp only [ho, hx, Instr.loadAt, Instr.sureAddr, Sem.run_bind, Sem.run_pure, Result.andThen_ok, hr]
  exact hK _ _ h
theorem load_hdr {w : World} {e : Addr} {x : Hdr} (hx : x.wf) (h : Lie w e (hcl x)) : (loadVar 28 e).run Tryd.prog w = .ok (.agg (ha x)) w := run_load_lie w _ _ 98 e _ Tryd.underlying28 rfl size_hdr (hcl_len hx) h
theorem load_evt {w : World} {e : Addr} {x : Evt} (hx : x.hd.wf) (h : Lie w e (ecl x)) : (loadVar 30 e).run Tryd.prog w = .ok (.agg (ea x)) w := run_load_lie w _ _ 100 e _ Tryd.underlying30 rfl size_evt (ecl_len hx) h
theorem load_itm {w : World} {e : Addr} {x : Itm} (hx : x.ev.hd.wf) (h : Lie w e (icl x)) : (loadVar 32 e).run Tryd.prog w = .ok (.agg (ia x)) w := run_load_lie w _ _ 101 e _ Tryd.underlying32 rfl size_itm (icl_len hx) h
theorem Lie.ev {w : World} {e : Addr} {x : Itm} (h : Lie w e (icl x)) : Lie w (e.add 1) (ecl x.ev) := h.tail
theorem Lie.hd {w : World} {e : Addr} {x : Evt} (h : Lie w e (ecl x)) : Lie w (e.add 2) (hcl x.hd) := by
  have := h.tail.tail
  rwa [addr_add] at this
theorem Lie.many {w : World} {e : Addr} {x : Hdr} (hx : x.wf) (h : Lie w e (hcl x)) : w.cell? (e.add 97) = some (.int .i64 x.m) := h 97 _ (by
  have h1 := (u8s_len x.p).trans hx.1.1
  have h2 := (u8s_len x.s).trans hx.2.1.1
  have h3 := (u8s_len x.r).trans hx.2.2.1
  rw [hcl, show (97 : Nat) = 96 + 1 from rfl, List.getElem?_cons_succ, List.getElem?_append_right (by omega), h1, List.getElem?_append_right (by omega), h2, List.getElem?_append_right (by omega), h3]
  rfl)
/-- A whole row, stored into a block. -/
theorem row_store {ops : Array Oper} {rest : List Oper} {o : Oper} {a : Act} {W : World} {Q : Exit → Act → World → Prop} (hgd : o.guard = none) {ty : TypeId} {n : Nat} (hn : (Tryd.prog.info? ty).map (·.size) = some n) (x y : Operand) (ho : o.op = .store ty x y) (g : Nat) (cs old : Array Value) (hx : a.eval x = .pointer (some ⟨g, 0, none⟩)) (hy : a.eval y = .agg cs) {t : TypeId}
    (hg : W.heap[g]? = some (.cells old t (0, 0))) (hl : cs.size = n) (hold : old.size = n) (h1 : cs.all (·.oneCell') = true)
    (h : ∀ w1, w1.heap[g]? = some (.cells cs t (0, 0)) → (∀ k, k ≠ g → w1.heap[k]? = W.heap[k]?) → (∀ (B : Nat) (w0 : World), Below B w0 W → B ≤ g → Below B w0 w1) → wpList Tryd.prog ops Q rest (a.put o.dst undef) w1) : wpList Tryd.prog ops Q (o :: rest) a W :=
  wpList_store_row hgd ty x y ho g cs hx hy t old hg (by rw [hl]; exact hn) (by rw [hl, hold]) h1
    (h _ (setRow_heap W g _ _ _ _ hg) (fun k hk => setRow_other W g k _ hk) (fun B w0 hb hB => below_setRow hb hB _))
/-! Equality. -/
theorem u8s_cells (ds : List Int) (h : Dig ds) : (u8s ds).toArray = ((ds.map fun x => x.toNat.toUInt8).map Extern.Stop.cell).toArray := by
  unfold u8s
  congr 1
  rw [List.map_map]
  apply List.map_congr_left
  intro x hx
  obtain ⟨h0, h1⟩ := h.2 x hx
  obtain ⟨n, rfl⟩ := Int.eq_ofNat_of_zero_le h0
  have hn : n < 256 := by omega
  simp [Function.comp, Extern.Stop.cell, Nat.mod_eq_of_lt hn]
set_option maxRecDepth 100000 in
theorem eqi_dig (d : Nat) (x y : List Int) (hx : Dig x) (hy : Dig y) (W : World) : (Op.equalIn (d + 2) 26 (.agg (u8s x).toArray) (.agg (u8s y).toArray)).run Tryd.prog W = .ok (decide (x = y)) W := by
  have hsz : ∀ w, (sizeOf 5).run Tryd.prog w = .ok 1 w := fun w => by
    have : (Tryd.prog.info? 5).map (·.size) = some 1 := by kernel_rfl
    obtain ⟨i, hi, h2⟩ := Option.map_eq_some_iff.1 this
    simp [sizeOf, typeInfo, hi, h2]
  rw [u8s_cells x hx, u8s_cells y hy, run_equalIn_bytes W d 26 5 32 Tryd.underlying26 Tryd.underlying5 hsz _ _ (by rw [List.length_map]; exact hx.1) (by rw [List.length_map]; exact hy.1)]
  congr 1
  rw [Bool.eq_iff_iff]
  simp only [beq_iff_eq, decide_eq_true_eq]
  constructor
  · intro h
    apply List.ext_getElem (by rw [hx.1, hy.1])
    intro j h1 h2
    have hj := congrArg (fun l => l[j]?) h
    simp only [List.getElem?_map, List.getElem?_eq_getElem h1, List.getElem?_eq_getElem h2, Option.map_some, Option.some.injEq] at hj
    have hxr := hx.2 _ (List.getElem_mem h1)
    have hyr := hy.2 _ (List.getElem_mem h2)
    have := congrArg UInt8.toNat hj
    simp at this
    omega
  · rintro rfl; rfl
/-- A part of one cell; a part of several. -/
theorem part_one {ty : TypeId} {d : TypeDesc} (hd : Tryd.prog.underlying ty = some d) (hg : (match d with | .struct _ | .array _ _ => true | _ => false) = false) {l : List Value} {k : Nat} {v : Value} (h : l[k]? = some v) (W : World) : (part ty l.toArray k).run Tryd.prog W = .ok v W := by
  have hagg : (isAgg ty).run Tryd.prog W = .ok false W := by
    unfold isAgg
    rw [Sem.run_bind, run_underlying hd W]
    cases d <;> simp at hg <;> rfl
  have h2 : l.toArray[k]? = some v := by rw [List.getElem?_toArray]; exact h
  simp [part, Sem.run_bind, hagg, h2]
theorem part_agg {ty : TypeId} {d : TypeDesc} {n : Nat} (hd : Tryd.prog.underlying ty = some d) (hg : (match d with | .struct _ | .array _ _ => true | _ => false) = true) (hn : (Tryd.prog.info? ty).map (·.size) = some n) {a b c : List Value} {k : Nat} (hk : a.length = k) (hb : b.length = n) (W : World) : (part ty (a ++ (b ++ c)).toArray k).run Tryd.prog W = .ok (.agg b.toArray) W := by
  obtain ⟨i, hq, hs⟩ := Option.map_eq_some_iff.1 hn
  have hagg : (isAgg ty).run Tryd.prog W = .ok true W := by
    unfold isAgg
    rw [Sem.run_bind, run_underlying hd W]
    cases d <;> simp at hg <;> rfl
  have he : List.take n (List.drop k (a ++ (b ++ c))) = b := by rw [List.drop_left' hk, List.take_left' hb]
  have h1 : (part ty (a ++ (b ++ c)).toArray k).run Tryd.prog W = .ok (.agg ((a ++ (b ++ c)).toArray.extract k (k + n))) W := by
    simp only [part, Sem.run_bind, hagg, Result.andThen_ok, if_true, sizeOf, typeInfo, Sem.run_pure]
    simp [hq, hs]
  rw [h1, List.extract_toArray, List.extract_eq_take_drop, Nat.add_sub_cancel_left, he]
end Go.Proofs.YtkkkjidbakmjdaaDoor.Q
