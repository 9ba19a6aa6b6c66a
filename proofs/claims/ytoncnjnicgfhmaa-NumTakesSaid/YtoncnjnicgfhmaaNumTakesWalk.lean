/-
  NumTakes answers true for every bytes and size: the number of a text's first bytes, and the part at its beginning, and the rest, or the errors, are the document's, and what is handed in stays. This text: the law's walk.
-/
import Derived.Test.YtoncnjnicgfhmaaNumOver
import Derived.Test.YtoncnjnicgfhmaaNumRef
namespace Go.Proofs.Ytoncnjnicgfhmaa.Q
open Go.RowKit Go.Proofs.YtoncnjnicgfhmaaW.PrintWords Go.Proofs.YtoncnjnicgfhmaaW.PrintLast Go.Proofs.YtoncnjnicgfhmaaW.PrintMore Go.Proofs.Ytoncnjnicgfhmaa.NumPure Go.Proofs.Ytoncnjnicgfhmaa.Num
set_option linter.unusedVariables false
set_option linter.unusedSimpArgs false

theorem rtake_f (l : List Int) (a : Int) (n e : Int) (r : List Int) (hb : ∀ x ∈ l, 0 ≤ x ∧ x < 256) (hl : l.length < 140737488355328) (h : num_Take.f l a = some (n, r, e)) : beadrollref01_Take.f 12 l a = some (n, r, e) := by
  unfold beadrollref01_Take.f
  unfold num_Take.f at h
  by_cases h1 : a < 1
  · rw [if_pos h1] at h
    rw [if_pos h1, ← h]; simp [beadrollref01_Take.j0]
  rw [if_neg h1] at h
  rw [if_neg h1]
  by_cases h8 : 8 < a
  · rw [if_pos h8] at h
    rw [← h]; simp [beadrollref01_Take.j0, h8]
  rw [if_neg h8] at h
  have hd : decide (a > 8) = false := decide_eq_false (by omega)
  rw [hd]
  simp only [beadrollref01_Take.j0, Bool.false_eq_true, if_false]
  by_cases hs : (l.length : Int) < a
  · rw [if_pos hs] at h
    rw [if_pos hs, ← h]
  rw [if_neg hs, if_pos hl] at h
  obtain ⟨t, rfl⟩ := Int.eq_ofNat_of_zero_le (show 0 ≤ a by omega)
  rw [Int.toNat_natCast] at *
  have hlt : (l.take t).length = t := by rw [List.length_take]; omega
  have hbt : ∀ x ∈ l.take t, 0 ≤ x ∧ x < 256 := fun x hx => hb x (List.mem_of_mem_take hx)
  rw [if_neg hs, if_pos (by omega), if_pos (by omega), number_f _ hbt (by omega) 11 (by omega), twin_f _ (by rw [List.length_drop]; omega), ← h, take_val t _ hlt (by omega) hbt]
  rfl

theorem num_Take.some_ (l : List Int) (a : Int) (hl : l.length < 140737488355328) : ∃ n r e, num_Take.f l a = some (n, r, e) := by
  unfold num_Take.f
  split
  · exact ⟨_, _, _, rfl⟩
  · split
    · exact ⟨_, _, _, rfl⟩
    · split
      · exact ⟨_, _, _, rfl⟩
      · exact ⟨_, _, _, rfl⟩
theorem num_TakePart.some_ (l : List Int) (hl : l.length < 140737488355328) : ∃ p q e, num_TakePart.f l = some (p, q, e) := by
  obtain ⟨n, r, e, h⟩ := num_Take.some_ l 2 hl
  unfold num_TakePart.f
  rw [h]
  simp only [Option.bind_some]
  unfold num_TakePart.g
  split
  · exact ⟨_, _, _, rfl⟩
  · split
    · exact ⟨_, _, _, rfl⟩
    · split
      · exact ⟨_, _, _, rfl⟩
      · exact ⟨_, _, _, rfl⟩

/-- What a row of the call's own may be: written over. -/
theorem Wr.of_R {w : World} {B : Nat} {ok : Nat → Prop} {v : Value} {l : List Int} (h : Kd.R (Kd.int .u8) 5 w B ok v l) : Wr B w v := by
  obtain ⟨A, c, rfl, hlc, hrd⟩ := Kd.R_reads h
  refine ⟨A, l.length, c, rfl, hrd.2.1, ?_⟩
  rcases Nat.eq_zero_or_pos l.length with h0 | h0
  · exact .inl h0
  · obtain ⟨g, cap, hv, hg, _, cells, hc⟩ := Kd.R_form h h0
    cases hv
    refine .inr ⟨g, 0, rfl, hg, cells, hc, fun i hi => ?_⟩
    obtain ⟨ad, he, hx⟩ := Kd.at_int hrd (i : Int) (by omega) (by omega)
    cases he
    rw [Int.toNat_natCast, add_plain, cell_of_row w g i cells 5 (0, 0) hc] at hx
    exact ⟨_, hx⟩

/-- Two slices that read as one list are the same. -/
theorem same_rd {w : World} {v v' : Value} {l : List Int} (h : Rd w v l) (h' : Rd w v' l) : Calls Try.prog 14 #[v, v'] w fun e w' => e = .returned (.bool true) ∧ Drawn0 w w' := by
  obtain ⟨A, c, rfl, hl, hc⟩ := h
  obtain ⟨A', c', rfl, hl', hc'⟩ := h'
  exact beadrollref01_Same.calls A c l A' c' l true w hc hl hc' hl' (same_self l)

set_option maxHeartbeats 4000000 in
set_option maxRecDepth 100000 in
theorem numTakes_walk (A0 : Option Addr) (c0 : Nat) (l0 : List Int) (a1 : Int) (w : World) (hr0 : Kd.C (Kd.int .u8) w A0 l0.length l0) (hc0 : l0.length ≤ c0) (hbytes : ∀ x ∈ l0, 0 ≤ x ∧ x < 256) :
    Calls Try.prog 4 #[.slice A0 l0.length c0, .int .i64 a1] w fun e w' => e = .returned (.bool true) ∧ Below w.heap.size w w' := by
  by_cases h6 : 6000 < (l0.length : Int)
  · have d1 : decide (6000 < (l0.length : Int)) = true := decide_eq_true h6
    have d2 : decide (6000 < l0.length) = true := decide_eq_true (by omega)
    clear hr0 hc0 h6
    go_enter Try.func4, Try.ntmps4
    go_wp2
    go_ret
    exact ⟨rfl, Below.refl _ _⟩
  have d1 : decide (6000 < (l0.length : Int)) = false := decide_eq_false h6
  have d2 : decide (6000 < l0.length) = false := decide_eq_false (by omega)
  have hl : l0.length < 140737488355328 := by omega
  obtain ⟨n, r, e, hT⟩ := num_Take.some_ l0 a1 hl
  obtain ⟨p, q, g, hP⟩ := num_TakePart.some_ l0 hl
  have HN := Aside0.mk (rtake_f l0 a1 n e r hbytes hl hT)
  have HT := Aside0.mk hT
  have HP := Aside0.mk hP
  have HY := Aside0.mk hbytes
  have HL := Aside0.mk hl
  have HW0 := Aside0.mk (twin_f l0 hl)
  have HR0 := Aside0.mk hr0
  have HC0 := Aside0.mk hc0
  clear hT hP hbytes hl hr0 hc0 h6
  go_enter Try.func4, Try.ntmps4
  go_wp2_with fail
  -- own
  refine (beadrollref01_Twin.calls _ _ l0 l0 _ HR0.out HC0.out HW0.out).mono ?_
  rintro e1 w1 ⟨vo, rfl, ho, hb⟩
  obtain ⟨Ao, co, rfl, hlo, hro⟩ := Kd.R_reads ho
  have HB1 := Aside0.mk hb
  have HRO := Aside0.mk hro
  have HCO := Aside0.mk hlo
  clear ho hb hlo hro
  go_wp2_with fail
  refine (num_Take.calls _ _ l0 a1 n r e _ HRO.out HCO.out HT.out).mono ?_
  rintro e2 w2 ⟨vr, rfl, ho, hb⟩
  have HWr := Aside0.mk (Wr.of_R ho)
  have HRr := Aside0.mk (Rd.of_R ho)
  have HB2 := Aside0.mk hb
  clear ho hb
  go_wp2_with fail
  refine (beadrollref01_Take.calls 12 _ _ l0 a1 n r e _ (Kd.C_below HR0.out (below_then HB1.out HB1.out.size HB2.out)) HC0.out HN.out).mono ?_
  rintro e3 w3 ⟨vs, rfl, ho, hb⟩
  have HRs := Aside0.mk (Rd.of_R ho)
  have HB3 := Aside0.mk hb
  have HB13 := Aside0.mk (below_then HB2.out HB2.out.size hb)
  clear ho hb
  go_wp2_with fail
  refine (num_TakePart.over _ _ l0 p q g _ (Kd.C_below HRO.out HB13.out) HCO.out HP.out).mono ?_
  rintro e4 w4 ⟨vp, vt, rfl, hp, ht, hwp, hwt, hb⟩
  have HRp := Aside0.mk (Rd.of_V hp)
  have HRt := Aside0.mk (Rd.of_V ht)
  have HWp := Aside0.mk hwp
  have HWt := Aside0.mk hwt
  have HB4 := Aside0.mk hb
  have HB14 := Aside0.mk (below_then HB13.out HB13.out.size hb)
  clear hp ht hwp hwt hb
  go_wp2_with fail
  refine (refTakePart _ _ l0 p q g _ (Kd.C_below HR0.out (below_then HB1.out HB1.out.size HB14.out)) HC0.out HY.out HL.out HP.out).mono ?_
  rintro e5 w5 ⟨vq, vu, rfl, hq, hu, hb⟩
  have HRq := Aside0.mk hq
  have HRu := Aside0.mk hu
  have HB5 := Aside0.mk hb
  have HB15 := Aside0.mk (below_then HB14.out HB14.out.size hb)
  clear hq hu hb
  go_wp2_with fail
  refine (same_rd (HRr.out.below (below_then HB3.out HB3.out.size (below_then HB4.out HB4.out.size HB5.out))) (HRs.out.below (below_then HB4.out HB4.out.size HB5.out))).mono ?_
  rintro e6 w6 ⟨rfl, ⟨n6, rfl⟩⟩
  go_wp2_with fail
  refine (same_rd (Rd.below (HRp.out.below HB5.out) (pw_below_drewN (Below.refl _ _) _)) (Rd.below HRq.out (pw_below_drewN (Below.refl _ _) _))).mono ?_
  rintro e7 w7 ⟨rfl, ⟨n7, rfl⟩⟩
  go_wp2_with fail
  refine (same_rd (w := _) (Rd.below (HRt.out.below HB5.out) ?_) (Rd.below HRu.out ?_)).mono ?_
  · exact pw_below_drewN (Below.refl _ _) _
  · exact pw_below_drewN (Below.refl _ _) _
  rintro e8 w8 ⟨rfl, ⟨n8, rfl⟩⟩
  have HD : Aside0 (Below w5.heap.size w5 (w5.drewN (n6 + n7 + n8))) := ⟨pw_below_drewN (Below.refl _ _) _⟩
  have HB45 := Aside0.mk (below_then HB5.out HB5.out.size HD.out)
  have HB1d := Aside0.mk (below_then HB15.out HB15.out.size HD.out)
  have HWr5 := Aside0.mk (HWr.out.below (C := w1.heap.size) (below_then (below_then HB3.out HB3.out.size HB4.out) (Nat.le_trans HB3.out.size HB4.out.size) HB45.out) (Nat.le_refl _))
  have HWp5 := Aside0.mk (HWp.out.below (C := w1.heap.size) HB45.out HB13.out.size)
  have HWt5 := Aside0.mk (HWt.out.below (C := w1.heap.size) HB45.out HB13.out.size)
  go_wp2_with fail
  refine (spoil_over w1.heap.size vr _ HWr5.out HB1d.out.size).mono ?_
  rintro e9 w9 ⟨rfl, hb, hw⟩
  have HB9 := Aside0.mk (HB1d.out.trans hb)
  have HWp9 := Aside0.mk (hw _ HWp5.out)
  have HWt9 := Aside0.mk (hw _ HWt5.out)
  clear hb hw
  go_wp2_with fail
  refine (spoil_over w1.heap.size vp _ HWp9.out HB9.out.size).mono ?_
  rintro e10 w10 ⟨rfl, hb, hw⟩
  have HB10 := Aside0.mk (HB9.out.trans hb)
  have HWt10 := Aside0.mk (hw _ HWt9.out)
  clear hb hw
  go_wp2_with fail
  refine (spoil_over w1.heap.size vt _ HWt10.out HB10.out.size).mono ?_
  rintro e11 w11 ⟨rfl, hb, _⟩
  have HB11 := Aside0.mk (HB10.out.trans hb)
  have HBw := Aside0.mk (below_then HB1.out HB1.out.size HB11.out)
  clear hb
  go_wp2_with fail
  refine (beadrollref01_Same.calls _ _ l0 _ _ l0 true _ (Kd.C_below HRO.out HB11.out) HCO.out (Kd.C_below HR0.out HBw.out) HC0.out (same_self l0)).mono ?_
  rintro e12 w12 ⟨rfl, ⟨n12, rfl⟩⟩
  go_wp2
  go_ret
  exact ⟨rfl, pw_below_drewN HBw.out _⟩

end Go.Proofs.Ytoncnjnicgfhmaa.Q
