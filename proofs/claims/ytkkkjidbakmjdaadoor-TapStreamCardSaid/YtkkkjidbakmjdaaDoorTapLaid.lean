/-
  What comes in laid: the gap item of the program's text; headers, events and items as data.
-/
import Derived.Test.YtkkkjidbakmjdaaDoorRows
import Derived.Test.YtkkkjidbakmjdaaDoorTapNames
import Derived.ProofKit
import Derived.LaidMore
import Derived.OpenShut
import Derived.ChangeSame
import Derived.Stop.Joined
import Derived.Lib.LaidTab
namespace Go.Proofs.YtkkkjidbakmjdaaDoor.Q
open Go.ChangeShapes Go.WideShapes Go.ChangeAt Go.RowKit
set_option linter.unusedVariables false
theorem own : ownKnob Tryd.prog.godebug = none := by kernel_rfl
theorem laidOut : laidOutB Tryd.prog = true := by kernel_rfl
theorem gK : Tryd.prog.globalNamed "beadroll/tap.gap" = some 0 := by kernel_rfl
theorem tK : (Tryd.prog.globals[0]?).map (·.type) = some 32 := by kernel_rfl
/-- The rows' condition. -/
def laidK : List (String × DataW Unit) := [("beadroll/tap.gap", Rows.laid_beadroll_tap_gap)]
/-- The door's own heap meets the condition. -/
theorem door_met (os : Os) (args : Array Value) : laidMetH Tryd.prog laidK ((World.doorLaid Tryd.prog 14 os).forCall (fun _ _ => 0) ⟨#[], args, []⟩).memory :=
  laidMetH_of_parts3 (fuel := 8) (laidMet_of_run' 8 (by kernel_rfl) (by kernel_rfl)) (by kernel_rfl) (by kernel_rfl)
section
variable {H : Type} {enc : TypeId × Value → H} {w : World} {base : Nat} {sp : Nat → Bool} {held : Bool}
def digD {H : Type} (ds : List Int) : DataW H := Lib.tabData .u8 ds
def hdrD {H : Type} (x : Hdr) : DataW H := .agg [.lit (.int .i64 x.h), digD x.p, digD x.s, digD x.r, .lit (.int .i64 x.m)]
def evtD {H : Type} (x : Evt) : DataW H := .agg [.lit (.int .i64 x.n), .lit (.bool x.roll), hdrD x.hd]
def itmD {H : Type} (x : Itm) : DataW H := .agg [.lit (.bool x.gap), evtD x.ev]
theorem ce5 : Tryd.prog.cellsOf 5 = 1 := by kernel_rfl
theorem ce26 : Tryd.prog.cellsOf 26 = 32 := by kernel_rfl
theorem ce28 : Tryd.prog.cellsOf 28 = 98 := by kernel_rfl
theorem ce30 : Tryd.prog.cellsOf 30 = 100 := by kernel_rfl
theorem ce32 : Tryd.prog.cellsOf 32 = 101 := by kernel_rfl
theorem ce2 : Tryd.prog.cellsOf 3 = 1 := by kernel_rfl
theorem ce4 : Tryd.prog.cellsOf 4 = 1 := by kernel_rfl
theorem bounds8 {n : Int} (h : (Lit.int .u8 n).wf = true) : 0 ≤ n ∧ n < 256 := by have := bounds_u8 h; omega
def numOf (v : Value) : Int := match v with | .int _ n => n | _ => 0
theorem open_u8s {fuel : Nat} {cs : List Value} {x : DataW H × List MemPlace} (h : DataW.trod enc Tryd.prog w base sp held fuel 26 cs = some x) : ∃ ds, Dig ds ∧ cs = u8s ds ∧ x = (digD ds, []) := by
  obtain ⟨xs, m, _, rfl, hl, hxl, hx⟩ := DataW.trod_array Tryd.underlying26 h
  rw [ce26] at hl
  have hat : ∀ i (hi : i < 32), ∃ a : Int, cs[i]'(by omega) = .int .u8 a ∧ 0 ≤ a ∧ a < 256 ∧ xs[i]'(by omega) = (.lit (.int .u8 a), []) := fun i hi => by
    have h1 := hx i hi
    rw [ce5, Nat.mul_one] at h1
    have e1 : (cs.drop i).take 1 = [cs[i]] := by
      rw [List.drop_eq_getElem_cons (by omega), List.take_succ_cons, List.take_zero]
    rw [e1, List.getElem?_eq_getElem (by omega)] at h1
    obtain ⟨a, ha, hxa, hw⟩ := DataW.trod_int Tryd.underlying5 h1
    have hb := bounds8 hw
    exact ⟨a, by simpa using ha, hb.1, hb.2, hxa⟩
  have e1 : cs = u8s (cs.map numOf) := by
    apply List.ext_getElem
    · simp [u8s]
    · intro i h1 h2
      obtain ⟨a, ha, _⟩ := hat i (by omega)
      simp only [u8s, List.getElem_map]
      rw [ha]; rfl
  have e2 : xs = (cs.map numOf).map fun z => ((.lit (.int .u8 z), []) : DataW H × List MemPlace) := by
    apply List.ext_getElem
    · simp; omega
    · intro i h1 h2
      obtain ⟨a, ha, _, _, hb⟩ := hat i (by omega)
      simp only [List.getElem_map]
      rw [hb, ha]; rfl
  refine ⟨cs.map numOf, ⟨by simp [hl], fun z hz => ?_⟩, e1, ?_⟩
  · obtain ⟨v, hv, rfl⟩ := List.mem_map.1 hz
    obtain ⟨i, hi, rfl⟩ := List.mem_iff_getElem.1 hv
    obtain ⟨a, ha, h0, h1, _⟩ := hat i (by omega)
    rw [ha]
    exact ⟨h0, h1⟩
  · rw [e2]
    generalize cs.map numOf = l
    simp only [digD, Lib.tabData, List.map_map, List.flatMap_map]
    refine Prod.ext ?_ ?_
    · simp only [Function.comp_def]
    · simp
theorem piece (cs : List Value) (k a : Nat) : cs.drop k = (cs.drop k).take a ++ cs.drop (k + a) := by
  rw [← List.drop_drop, List.take_append_drop]
theorem open_hdr {fuel : Nat} {cs : List Value} {x : DataW H × List MemPlace} (h : DataW.trod enc Tryd.prog w base sp held fuel 28 cs = some x) : ∃ y : Hdr, y.wf ∧ cs = hcl y ∧ x = (hdrD y, []) := by
  obtain ⟨xs, m, _, rfl, hl, hxl, hx⟩ := DataW.trod_struct Tryd.underlying28 h
  rw [ce28] at hl
  match xs, hxl with
  | [y0, y1, y2, y3, y4], _ =>
    have h0 : DataW.trod enc Tryd.prog w base sp held m 3 ((cs.drop 0).take (Tryd.prog.cellsOf 3)) = some y0 := hx 0 _ rfl
    have h1 : DataW.trod enc Tryd.prog w base sp held m 26 ((cs.drop 1).take (Tryd.prog.cellsOf 26)) = some y1 := hx 1 _ rfl
    have h2 : DataW.trod enc Tryd.prog w base sp held m 26 ((cs.drop 33).take (Tryd.prog.cellsOf 26)) = some y2 := hx 2 _ rfl
    have h3 : DataW.trod enc Tryd.prog w base sp held m 26 ((cs.drop 65).take (Tryd.prog.cellsOf 26)) = some y3 := hx 3 _ rfl
    have h4 : DataW.trod enc Tryd.prog w base sp held m 3 ((cs.drop 97).take (Tryd.prog.cellsOf 3)) = some y4 := hx 4 _ rfl
    clear hx h
    simp only [ce26, ce2] at h0 h1 h2 h3 h4
    obtain ⟨n0, c0, rfl, _⟩ := DataW.trod_int Tryd.underlying3 h0
    obtain ⟨d1, w1, c1, rfl⟩ := open_u8s h1
    obtain ⟨d2, w2, c2, rfl⟩ := open_u8s h2
    obtain ⟨d3, w3, c3, rfl⟩ := open_u8s h3
    obtain ⟨n4, c4, rfl, _⟩ := DataW.trod_int Tryd.underlying3 h4
    clear h0 h1 h2 h3 h4
    refine ⟨⟨n0, d1, d2, d3, n4⟩, ⟨w1, w2, w3⟩, ?_, by simp [hdrD]⟩
    have p0 := piece cs 0 1
    have p1 := piece cs 1 32
    have p2 := piece cs 33 32
    have p3 := piece cs 65 32
    have p4 := piece cs 97 1
    have p5 : cs.drop 98 = [] := List.drop_eq_nil_of_le (by omega)
    rw [c0] at p0
    rw [c1] at p1
    rw [c2] at p2
    rw [c3] at p3
    rw [c4] at p4
    simp only [Nat.reduceAdd, List.drop_zero] at p0 p1 p2 p3 p4
    rw [p0, p1, p2, p3, p4, p5]
    simp [hcl]
theorem open_evt {fuel : Nat} {cs : List Value} {x : DataW H × List MemPlace} (h : DataW.trod enc Tryd.prog w base sp held fuel 30 cs = some x) : ∃ y : Evt, y.hd.wf ∧ cs = ecl y ∧ x = (evtD y, []) := by
  obtain ⟨xs, m, _, rfl, hl, hxl, hx⟩ := DataW.trod_struct Tryd.underlying30 h
  rw [ce30] at hl
  match xs, hxl with
  | [y0, y1, y2], _ =>
    have h0 : DataW.trod enc Tryd.prog w base sp held m 3 ((cs.drop 0).take (Tryd.prog.cellsOf 3)) = some y0 := hx 0 _ rfl
    have h1 : DataW.trod enc Tryd.prog w base sp held m 4 ((cs.drop 1).take (Tryd.prog.cellsOf 4)) = some y1 := hx 1 _ rfl
    have h2 : DataW.trod enc Tryd.prog w base sp held m 28 ((cs.drop 2).take (Tryd.prog.cellsOf 28)) = some y2 := hx 2 _ rfl
    clear hx h
    simp only [ce28, ce2, ce4] at h0 h1 h2
    obtain ⟨n0, c0, rfl, _⟩ := DataW.trod_int Tryd.underlying3 h0
    obtain ⟨b1, c1, rfl⟩ := DataW.trod_bool Tryd.underlying4 h1
    obtain ⟨d2, w2, c2, rfl⟩ := open_hdr h2
    clear h0 h1 h2
    refine ⟨⟨n0, b1, d2⟩, w2, ?_, by simp [evtD]⟩
    have p0 := piece cs 0 1
    have p1 := piece cs 1 1
    have p2 := piece cs 2 98
    have p3 : cs.drop 100 = [] := List.drop_eq_nil_of_le (by omega)
    rw [c0] at p0
    rw [c1] at p1
    rw [c2] at p2
    simp only [Nat.reduceAdd, List.drop_zero] at p0 p1 p2
    rw [p0, p1, p2, p3]
    simp [ecl]
theorem open_itm {fuel : Nat} {cs : List Value} {x : DataW H × List MemPlace} (h : DataW.trod enc Tryd.prog w base sp held fuel 32 cs = some x) : ∃ y : Itm, y.ev.hd.wf ∧ cs = icl y ∧ x = (itmD y, []) := by
  obtain ⟨xs, m, _, rfl, hl, hxl, hx⟩ := DataW.trod_struct Tryd.underlying32 h
  rw [ce32] at hl
  match xs, hxl with
  | [y0, y1], _ =>
    have h0 : DataW.trod enc Tryd.prog w base sp held m 4 ((cs.drop 0).take (Tryd.prog.cellsOf 4)) = some y0 := hx 0 _ rfl
    have h1 : DataW.trod enc Tryd.prog w base sp held m 30 ((cs.drop 1).take (Tryd.prog.cellsOf 30)) = some y1 := hx 1 _ rfl
    clear hx h
    simp only [ce30, ce4] at h0 h1
    obtain ⟨b0, c0, rfl⟩ := DataW.trod_bool Tryd.underlying4 h0
    obtain ⟨d1, w1, c1, rfl⟩ := open_evt h1
    clear h0 h1
    refine ⟨⟨b0, d1⟩, w1, ?_, by simp [itmD]⟩
    have p0 := piece cs 0 1
    have p1 := piece cs 1 100
    have p2 : cs.drop 101 = [] := List.drop_eq_nil_of_le (by omega)
    rw [c0] at p0
    rw [c1] at p1
    simp only [Nat.reduceAdd, List.drop_zero] at p0 p1
    rw [p0, p1, p2]
    simp [icl]
theorem tab_inj {a b : List Int} (h : (digD a : DataW H) = digD b) : a = b := by
  simp only [digD, Lib.tabData, DataW.agg.injEq] at h
  induction a generalizing b with
  | nil => cases b with
    | nil => rfl
    | cons y b => simp at h
  | cons x a ih => cases b with
    | nil => simp at h
    | cons y b =>
      simp only [List.map_cons, List.cons.injEq, DataW.lit.injEq, Lit.int.injEq, true_and] at h
      rw [h.1, ih h.2]
theorem itmD_inj {a b : Itm} (h : (itmD a : DataW H) = itmD b) : a = b := by
  obtain ⟨g, n, r, h1, p, s, q, m⟩ := a
  obtain ⟨g', n', r', h1', p', s', q', m'⟩ := b
  simp only [itmD, evtD, hdrD, DataW.agg.injEq, List.cons.injEq, DataW.lit.injEq, Lit.bool.injEq, Lit.int.injEq, true_and, and_true] at h
  obtain ⟨rfl, rfl, rfl, rfl, hp, hs, hq, rfl⟩ := h
  rw [tab_inj hp, tab_inj hs, tab_inj hq]
end
set_option maxRecDepth 100000 in
theorem laid_gap : (Rows.laid_beadroll_tap_gap : DataW Unit) = itmD gapI := rfl
theorem of_laid {W : World} (h : laidMetH Tryd.prog laidK W) : GT W := by
  rw [MakeChecks.laidMetH_plain _ _ _ (by kernel_rfl)] at h
  obtain ⟨ps, ⟨g', t', cs, fuel, p, q, hg', ht', hvar, hd, _, _⟩, _⟩ := h
  obtain rfl := Option.some.inj (gK.symm.trans hg')
  obtain rfl := Option.some.inj (tK.symm.trans ht')
  rw [laid_gap] at hd
  obtain ⟨y, hy, hc, he⟩ := open_itm hd
  have : y = gapI := (itmD_inj (congrArg Prod.fst he)).symm
  subst this
  intro i v hv
  have h1 := World.var?_cell gK hvar i
  have h2 : cs[i]? = some v := by rw [← hc] at hv; simpa using hv
  rw [h2] at h1
  unfold Addr.add
  split
  · rename_i h0; subst h0; exact h1
  · simpa using h1
end Go.Proofs.YtkkkjidbakmjdaaDoor.Q
