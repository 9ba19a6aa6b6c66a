/-
  LockDoes: what may be written over; the law's function that writes a lock over.
-/
import Derived.Test.YtoncnjnicgfhmabLockRef
namespace Go.Proofs.Ytoncnjnicgfhmab.Q
open Go.RowKit Go.Proofs.YtoncnjnicgfhmabW.PrintWords Go.Proofs.YtoncnjnicgfhmabW.PrintLast Go.Proofs.YtoncnjnicgfhmabW.PrintMore
set_option linter.unusedVariables false
set_option linter.unusedSimpArgs false

/-- Block g is a row of whole numbers' cells, of which those from L on, below N, hold numbers. -/
def Byt (w : World) (g L N : Nat) : Prop := ∃ cur : Array Value, w.heap[g]? = some (.cells cur 3 (0, 0)) ∧ ∀ i, L ≤ i → i < N → ∃ x, cur[i]? = some (.int .i64 x)
/-- A slice that may be written over: it has no element, or its elements lie in a block from B on. -/
def Wr (B : Nat) (w : World) (v : Value) : Prop := ∃ A n c, v = .slice A n c ∧ n ≤ 9223372036854775807 ∧ (n = 0 ∨ ∃ g off, A = some ⟨g, off, none⟩ ∧ B ≤ g ∧ Byt w g off (off + n))
theorem Byt.set {w : World} {g L N : Nat} (h : Byt w g L N) (p : Addr) (hp : p.spot = none) (x : Int) : Byt (w.setCell p (.int .i64 x)) g L N := by
  obtain ⟨cur, hc, hx⟩ := h
  obtain ⟨pb, po, ps⟩ := p
  obtain rfl : ps = none := hp
  by_cases he : pb = g
  · subst he
    refine ⟨cur.setIfInBounds po (.int .i64 x), heap_setCell_same w pb po cur 3 _ hc, fun i hl hi => ?_⟩
    obtain ⟨y, hy⟩ := hx i hl hi
    rw [Array.getElem?_setIfInBounds]
    have hlt := (Array.getElem?_eq_some_iff.1 hy).1
    by_cases hpi : po = i
    · subst hpi; rw [if_pos rfl, if_pos hlt]; exact ⟨x, rfl⟩
    · rw [if_neg hpi]; exact ⟨y, hy⟩
  · exact ⟨cur, (heap_setCell_other w _ g _ (fun e => he e.symm)).trans hc, hx⟩
theorem Wr.set {B : Nat} {w : World} {v : Value} (h : Wr B w v) (p : Addr) (hp : p.spot = none) (x : Int) : Wr B (w.setCell p (.int .i64 x)) v := by
  obtain ⟨A, n, c, rfl, hn, h⟩ := h
  refine ⟨A, n, c, rfl, hn, ?_⟩
  rcases h with h | ⟨g, off, rfl, hB, hb⟩
  · exact .inl h
  · exact .inr ⟨g, off, rfl, hB, hb.set p hp x⟩
theorem Wr.below {B C : Nat} {w w1 : World} {v : Value} (h : Wr B w v) (hb : Below w.heap.size w w1) (hC : C ≤ B) : Wr C w1 v := by
  obtain ⟨A, n, c, rfl, hn, h⟩ := h
  refine ⟨A, n, c, rfl, hn, ?_⟩
  rcases h with h | ⟨g, off, rfl, hB, cur, hc, hx⟩
  · exact .inl h
  · exact .inr ⟨g, off, rfl, by omega, cur, (hb.block g (Array.getElem?_eq_some_iff.1 hc).1).trans hc, hx⟩
theorem Wr.of_Q {w : World} {B : Nat} {ok : Nat → Prop} {v : Value} {l : List Int} (h : Kd.Q (Kd.int .i64) 3 w B ok v l) : Wr B w v := by
  obtain ⟨A, c, rfl, hlc, hrd⟩ := Kd.Q_reads h
  refine ⟨A, l.length, c, rfl, hrd.2.1, ?_⟩
  rcases Nat.eq_zero_or_pos l.length with h0 | h0
  · exact .inl h0
  · obtain ⟨g, o, cap, hv, hg, _, cells, hc⟩ := Kd.Q_form h h0
    cases hv
    refine .inr ⟨g, o, rfl, hg, cells, hc, fun i hl hi => ?_⟩
    have hx := (Kd.Q_cell (0 : Int) h ((i - o : Nat) : Int) (by omega) (by omega)).1
    rw [Int.toNat_natCast, show o + (i - o) = i by omega, cell_of_row w g i cells 3 (0, 0) hc] at hx
    exact ⟨_, hx⟩
/-- What lies there and is no whole number's row stays. -/
def Others (w w' : World) : Prop := ∀ (k : Nat) (cs : Array Value) (t : TypeId), t ≠ 3 → w.heap[k]? = some (.cells cs t (0, 0)) → w'.heap[k]? = some (.cells cs t (0, 0))

set_option maxHeartbeats 2000000 in
set_option maxRecDepth 100000 in
/-- 'spoil' over a lock whose slice may be written over: whatever may be written over still may. -/
theorem spoil_over (B : Nat) (o : Int) (v : Value) (w : World) (hv : Wr B w v) (hB : B ≤ w.heap.size) :
    Calls Try.prog 20 #[.agg #[.int .i64 o, v]] w fun e w' => e = .returned (.tuple #[]) ∧ Below B w w' ∧ (∀ u, Wr B w u → Wr B w' u) ∧ Others w w' := by
  have HV := Aside0.mk hv
  obtain ⟨A, n, c, rfl, hn, _⟩ := hv
  have HB0 := Aside0.mk hB
  clear hB
  go_enter Try.func20, Try.ntmps20
  go_wp2
  go_loopw [2] (fun i wr => ∃ k : Nat, k ≤ n ∧ i = .int .i64 (k : Int) ∧ Aside0 (Below B w wr) ∧ Aside0 (∀ u, Wr B w u → Wr B wr u) ∧ Aside0 (Others w wr) ∧ Aside0 (wr.heap[w.heap.size]? = some (.cells #[.int .i64 o, .slice A n c] 24 (0, 0)))) (fun i _ => n - (intOf i).toNat)
  case atStart => exact ⟨0, Nat.zero_le _, rfl, ⟨(Below.refl _ _).alloc HB0.out _⟩, ⟨fun u h => h.below (below_alloc (Below.refl _ _) _) (Nat.le_refl _)⟩, ⟨fun k cs t _ h => blk_alloc h _⟩, ⟨blk_new w _⟩⟩
  case round =>
    obtain ⟨k, hk, rfl, hb, hw, ho, bk⟩ := hrel
    have hz1 : wr.cell? ⟨w.heap.size, 1, none⟩ = some (.slice A n c) := (blk_cell bk.out 1).trans rfl
    by_cases hlt : k < n
    · obtain ⟨A2, n2, c2, he, _, hn0 | ⟨g, off, rfl, hBg, cur, hc, hx⟩⟩ := hw.out _ HV.out
      · cases he; omega
      cases he
      obtain ⟨x, hx⟩ := hx (off + k) (by omega) (by omega)
      have hcell : wr.cell? ⟨g, off + k, none⟩ = some (.int .i64 x) := by rw [cell_of_row wr g (off + k) cur 3 (0, 0) hc]; exact hx
      have hfz : wr.frozen? ⟨g, off + k, none⟩ = false := by simp [World.frozen?, hc]
      have HBg := Aside0.mk hBg
      have HNE := Aside0.mk (blk_ne bk.out hc (by decide))
      have HGC := Aside0.mk hc
      clear hc hx hBg
      go_wp2
      go_roundw
      case rel => exact ⟨k + 1, by omega, by go_num, ⟨hb.out.setCell HBg.out _⟩, ⟨fun u hu => (hw.out u hu).set _ rfl _⟩, ⟨fun k' cs t ht h => blk_far (ho.out k' cs t ht h) (blk_ne (ho.out k' cs t ht h) HGC.out ht) _⟩, ⟨blk_far bk.out HNE.out _⟩⟩
      case measure => simp [intOf]; omega
    · go_wp2
      go_end0
      exact ⟨rfl, hb.out, hw.out, ho.out⟩

end Go.Proofs.Ytoncnjnicgfhmab.Q
