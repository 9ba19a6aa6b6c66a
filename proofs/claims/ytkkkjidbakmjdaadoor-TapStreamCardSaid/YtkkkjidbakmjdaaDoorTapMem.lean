/-
  Slices of items; slices.Clone of them.
-/
import Derived.Test.YtkkkjidbakmjdaaDoorTapHdr
namespace Go.Proofs.YtkkkjidbakmjdaaDoor.Q
open Go.RowKit Go.Proofs.YtkkkjidbakmjdaaDoorW.PrintWords Go.Proofs.YtkkkjidbakmjdaaDoorW.PrintLast Go.Proofs.YtkkkjidbakmjdaaDoorW.PrintMore
set_option linter.unusedVariables false
set_option linter.unusedSimpArgs false

def Wfs (l : List Itm) : Prop := ∀ x ∈ l, x.ev.hd.wf
def flatI (l : List Itm) : List Value := l.flatMap icl
theorem flatI_cons (x : Itm) (l : List Itm) : flatI (x :: l) = icl x ++ flatI l := rfl
theorem flatI_append (a b : List Itm) : flatI (a ++ b) = flatI a ++ flatI b := List.flatMap_append
theorem flatI_one (x : Itm) : flatI [x] = icl x := by simp [flatI]
theorem flatI_len (l : List Itm) (h : Wfs l) : (flatI l).length = l.length * 101 := by
  induction l with
  | nil => rfl
  | cons x l ih =>
    rw [flatI_cons, List.length_append, icl_len (h x List.mem_cons_self), ih (fun y hy => h y (List.mem_cons_of_mem _ hy)), List.length_cons]
    omega
theorem flatI_ones (l : List Itm) : ∀ u ∈ flatI l, u.oneCell' = true := fun u hu => by
  obtain ⟨x, _, hx⟩ := List.mem_flatMap.1 hu
  exact icl_one x u hx
theorem Lie.at_ {w : World} : ∀ (l : List Itm) (e : Addr) (j : Nat) (x : Itm), Wfs l → Lie w e (flatI l) → l[j]? = some x → Lie w (e.add (j * 101)) (icl x)
  | [], e, j, x, hw, h, hx => by simp at hx
  | y :: l, e, 0, x, hw, h, hx => by
    simp only [List.getElem?_cons_zero, Option.some.injEq] at hx
    subst hx
    rw [flatI_cons] at h
    have := h.left
    simpa [Addr.add] using this
  | y :: l, e, j + 1, x, hw, h, hx => by
    rw [flatI_cons] at h
    have h2 := h.right
    rw [icl_len (hw y List.mem_cons_self)] at h2
    have h3 := Lie.at_ l (e.add 101) j x (fun z hz => hw z (List.mem_cons_of_mem _ hz)) h2 (by simpa using hx)
    rwa [addr_add, show 101 + j * 101 = (j + 1) * 101 by omega] at h3
/-- A slice of items reads as a list. -/
structure Its (W : World) (A : Option Addr) (n c : Nat) (l : List Itm) : Prop where
  len : l.length = n
  le : n ≤ c
  max : c ≤ 9223372036854775807
  nil_ : A = none → c = 0
  lie : ∀ ad, A = some ad → Lie W ad (flatI l)
  wf : Wfs l
theorem Its.below {W w : World} {A : Option Addr} {n c : Nat} {l : List Itm} (h : Its W A n c l) (hb : Below W.heap.size W w) : Its w A n c l := ⟨h.len, h.le, h.max, h.nil_, fun ad e => (h.lie ad e).below hb, h.wf⟩
theorem Its.none (W : World) : Its W none 0 0 [] := ⟨rfl, Nat.le_refl _, by omega, fun _ => rfl, (fun ad e => by cases e), (fun x hx => by cases hx)⟩
theorem Its.some_ {W : World} {A : Option Addr} {n c : Nat} {l : List Itm} (h : Its W A n c l) (hn : 0 < n) : ∃ ad, A = some ad := by
  cases A with
  | none => have := h.nil_ rfl; have := h.le; omega
  | some ad => exact ⟨ad, rfl⟩
theorem Its.get {W : World} {A : Option Addr} {n c : Nat} {l : List Itm} (h : Its W A n c l) {j : Nat} {x : Itm} (hx : l[j]? = some x) : ∃ ad, A = some ad ∧ Lie W (ad.add (j * 101)) (icl x) ∧ x.ev.hd.wf := by
  have hj := (List.getElem?_eq_some_iff.1 hx).1
  obtain ⟨ad, e⟩ := h.some_ (by rw [← h.len]; omega)
  exact ⟨ad, e, Lie.at_ l ad j x h.wf (h.lie ad e) hx, h.wf x (List.mem_of_getElem? hx)⟩
/-- The same in memory from a block on. -/
def ItsO (W : World) (base : Nat) (A : Option Addr) (n c : Nat) (l : List Itm) : Prop := Its W A n c l ∧ ∀ ad, A = some ad → ∃ g k cur, ad = ⟨g, k, none⟩ ∧ base ≤ g ∧ W.heap[g]? = some (.cells cur 32 (0, 0)) ∧ k + n * 101 ≤ cur.size
theorem ItsO.below {W w : World} {base : Nat} {A : Option Addr} {n c : Nat} {l : List Itm} (h : ItsO W base A n c l) (hb : Below W.heap.size W w) : ItsO w base A n c l := ⟨h.1.below hb, fun ad e => by
  obtain ⟨g, k, cur, e1, h1, h2, h3⟩ := h.2 ad e
  exact ⟨g, k, cur, e1, h1, blk_below h2 hb, h3⟩⟩
theorem ItsO.mono {W : World} {base base' : Nat} {A : Option Addr} {n c : Nat} {l : List Itm} (h : ItsO W base A n c l) (hb : base' ≤ base) : ItsO W base' A n c l := ⟨h.1, fun ad e => by
  obtain ⟨g, k, cur, e1, h1, h2, h3⟩ := h.2 ad e
  exact ⟨g, k, cur, e1, by omega, h2, h3⟩⟩
theorem ItsO.none (W : World) (base : Nat) : ItsO W base none 0 0 [] := ⟨Its.none W, (fun ad e => by cases e)⟩
theorem own_its {W : World} {base n : Nat} {v : Value} {l : List Itm} (h : W.ownsRow base 32 101 v n (flatI l)) (hw : Wfs l) : ∃ A c, v = .slice A n c ∧ ItsO W base A n c l := by
  have hl := h.1
  rw [flatI_len l hw] at hl
  rcases h.2 with ⟨rfl, h0⟩ | ⟨g, cap, cur, rfl, hb, hh, hn, hcm, hsz, htk⟩
  · subst h0
    obtain rfl : l = [] := List.eq_nil_of_length_eq_zero (by omega)
    exact ⟨none, 0, rfl, ItsO.none W base⟩
  · refine ⟨some ⟨g, 0, none⟩, cap, rfl, ⟨by omega, hn, by unfold maxLen at hcm; omega, (fun e => by cases e), fun ad e => ?_, hw⟩, fun ad e => ?_⟩
    · cases e
      intro i v hv
      have h2 := blk_lie hh
      refine h2 i v ?_
      rw [← htk, List.getElem?_take] at hv
      split at hv
      · exact hv
      · cases hv
    · cases e
      refine ⟨g, 0, cur, rfl, hb, hh, ?_⟩
      rw [hsz, Nat.zero_add]
      exact Nat.mul_le_mul_right _ hn
theorem own_empty (w : World) (base : Nat) (hb : base ≤ w.heap.size) : (w.alloc (.cells #[] 32)).ownsRow base 32 101 (.slice (some ⟨w.heap.size, 0, none⟩) 0 0) 0 [] := ⟨rfl, .inr ⟨w.heap.size, 0, #[], rfl, hb, blk_new w _, Nat.le_refl _, by simp [maxLen], rfl, rfl⟩⟩
theorem below_own {B : Nat} {W w w' : World} {v : Value} {n : Nat} {e size : Nat} {xs : List Value} (hB : Below B W w) (hs : B ≤ w.heap.size) (ho : w.ownsRow B e size v n xs) (hg : w.grownBy w' v.ownBlock) : Below B W w' :=
  hB.grown hg hs (fun k hk => by
    rcases ho.2 with ⟨rfl, _⟩ | ⟨g, cap, cur, rfl, hb, _⟩
    · simp [Value.ownBlock] at hk
    · simp only [Value.ownBlock, Option.some.injEq] at hk
      omega)
theorem blk_new1 (w : World) (o o' : Obj) : ((w.alloc o).alloc o').heap[w.heap.size + 1]? = some o' := by
  have h := blk_new (w.alloc o) o'
  rwa [World.size_alloc] at h
theorem below_new (w : World) (o : Obj) : Below w.heap.size w (w.alloc o) := below_alloc (Below.refl _ _) o
set_option maxHeartbeats 4000000 in
set_option maxRecDepth 100000 in
theorem clone_walk (A : Option Addr) (n c : Nat) (l : List Itm) (W : World) (h : Its W A n c l) (hn : n ≤ 1000) :
    Calls Tryd.prog 57 #[.slice A n c] W fun e W' => ∃ v, e = .returned v ∧ W'.ownsRow W.heap.size 32 101 v n (flatI l) ∧ Below W.heap.size W W' := by
  have hnil : ∀ X : World, (binOp .eql 22 (.slice A n c) (.slice none 0 0)).run Tryd.prog X = .ok (.bool A.isNone) X := fun X => Lib.run_eql_slice_nil X 22 32 A n c 0 0 Tryd.underlying22
  have hl := h.len
  have hcl := h.le
  cases A with
  | none =>
    have h0 := h.nil_ rfl
    obtain rfl : n = 0 := by omega
    obtain rfl : l = [] := List.eq_nil_of_length_eq_zero hl
    simp only [Option.isNone_none] at hnil
    clear h hl hcl h0 hn
    go_enter Tryd.func57, Tryd.ntmps57
    go_wp2
    go_ret
    exact ⟨_, rfl, own_nil _ _ _ _, Below.refl _ _⟩
  | some ad =>
    simp only [Option.isNone_some] at hnil
    obtain ⟨i0, hi0, hz0, hz1, hz2⟩ := info_parts info_itm
    have HL := Aside0.mk (h.lie ad rfl)
    have HF : Aside0 ((flatI l).length = n * 101) := ⟨by rw [flatI_len l h.wf, hl]⟩
    have HN := Aside0.mk hn
    clear h hl hcl hn
    go_enter Tryd.func57, Tryd.ntmps57
    go_wp2_with ((with_reducible refine gate_dst (N := 7) rfl ?_); refine wpList_append_own _ rfl (.tmp 5) (.tmp 6) 22 rfl W.heap.size 32 i0 (.agg (ia it0)) 101 136 Tryd.underlying22 hi0 hz0 hz1 hz2 (ia_size hd0_wf) (by decide) _ 0 [] rfl (own_empty W W.heap.size (Nat.le_refl _)) ad n c (flatI l) rfl HF.out (HL.out.below (below_new _ _)) (flatI_ones l) (by have := HN.out; simp only [maxLen]; omega) (by have := HN.out; omega) (by simp) ?_; intro v1 w1 ho hg _; have O1 := Aside0.mk ho; have HB := Aside0.mk (below_own (below_new W _) (by simp) (own_empty W W.heap.size (Nat.le_refl _)) hg); clear ho hg)
    go_ret
    refine ⟨_, rfl, ?_, HB.out⟩
    have := O1.out
    rwa [Nat.zero_add, List.nil_append] at this
theorem idx_its (ad : Addr) (n cap i : Nat) (hi : i < n) (W : World) : (Instr.indexAt 22 (.slice (some ad) n cap) (.int .i64 (i : Int))).run Tryd.prog W = .ok (.pointer (some (ad.add (i * 101)))) W := by
  have hel : Tryd.prog.elem 22 = 32 := by kernel_rfl
  obtain ⟨j, hj, h1, h2, h3⟩ := info_parts info_itm
  rw [run_indexAt_slice W 22 _ _ _ _ _ (by rw [hel]; exact Tryd.underlying22)]
  simp [hi, hel, sizeOf, typeInfo, hj, h2, Result.andThen]
end Go.Proofs.YtkkkjidbakmjdaaDoor.Q
