/-
  The contract, by hand, of the reference's TakePart, for NumTakes: it answers what num.TakePart answers, in new memory.
-/
import Derived.Test.YtoncnjnicgfhmaaQ2
import Derived.Test.YtoncnjnicgfhmaaNumTake
import Derived.Deep.RegionWith
namespace Go.Proofs.Ytoncnjnicgfhmaa.Q
open Go.RowKit Go.Proofs.YtoncnjnicgfhmaaW.PrintWords Go.Proofs.YtoncnjnicgfhmaaW.PrintLast Go.Proofs.YtoncnjnicgfhmaaW.PrintMore Go.Proofs.Ytoncnjnicgfhmaa.NumPure Go.Proofs.Ytoncnjnicgfhmaa.Num
set_option linter.unusedVariables false
set_option linter.unusedSimpArgs false

theorem number_l0 (l : List Int) (hb : ∀ x ∈ l, 0 ≤ x ∧ x < 256) (h8 : l.length ≤ 8) (d : Nat) : ∀ (k i : Nat), i + d = l.length → d < k →
    beadrollref01_Number.l0 k l (val (l.take i)) i = some (val l) := by
  induction d with
  | zero =>
    intro k i hi hk
    obtain ⟨k, rfl⟩ : ∃ m, k = m + 1 := ⟨k - 1, by omega⟩
    obtain rfl : i = l.length := by omega
    simp only [beadrollref01_Number.l0]
    rw [if_neg (by omega), List.take_length]
  | succ d ih =>
    intro k i hi hk
    obtain ⟨k, rfl⟩ : ∃ m, k = m + 1 := ⟨k - 1, by omega⟩
    have hlt : i < l.length := by omega
    have hx := hb _ (List.getElem_mem hlt)
    have hv := val_bound (l.take i) (fun x hx => hb x (List.mem_of_mem_take hx))
    have hp : (256 : Int) ^ (l.take i).length ≤ 256 ^ 7 := pow_le (by rw [List.length_take]; omega)
    have h7 : (256 : Int) ^ 7 = 72057594037927936 := by decide
    have hr : rd l i = l[i] := by simp [rd, hlt]
    have e4 : wrap64 ((i : Int) + 1) = ((i + 1 : Nat) : Int) := by rw [wrap_id _ (by omega) (by omega)]; omega
    simp only [beadrollref01_Number.l0]
    rw [if_pos (by omega), if_pos (by omega), e4, hr, wrapu_id (256 * _) (by omega) (by omega), wrapu_id l[i] (by omega) (by omega), wrapu_id _ (by omega) (by omega)]
    have := ih k (i + 1) (by omega) (by omega)
    rw [List.take_succ_eq_append_getElem hlt, val_snoc, Int.mul_comm] at this
    exact this
theorem number_f (l : List Int) (hb : ∀ x ∈ l, 0 ≤ x ∧ x < 256) (h8 : l.length ≤ 8) (k : Nat) (hk : 10 ≤ k) : beadrollref01_Number.f k l = some (val l) := by
  have := number_l0 l hb h8 l.length k 0 (by omega) (by omega)
  unfold beadrollref01_Number.f
  simpa [val] using this

/-- A value of a slice that reads as a list. -/
def Rd (w : World) (v : Value) (l : List Int) : Prop := ∃ A c, v = .slice A l.length c ∧ l.length ≤ c ∧ Kd.C (Kd.int .u8) w A l.length l
theorem Rd.nil (w : World) : Rd w (.slice none 0 0) [] := ⟨none, 0, rfl, Nat.le_refl _, Kd.C_nil _ _⟩
theorem Rd.of_R {w : World} {base : Nat} {ok : Nat → Prop} {v : Value} {l : List Int} (h : Kd.R (Kd.int .u8) 5 w base ok v l) : Rd w v l := Kd.R_reads h
theorem Rd.of_V {w : World} {base : Nat} {ok : Nat → Prop} {v : Value} {l : List Int} (h : Kd.V (Kd.int .u8) 5 w base ok v l) : Rd w v l := by
  obtain ⟨A, c, rfl, hl, hf⟩ := h
  exact ⟨A, c, rfl, hl, Kd.F_now hf⟩
theorem Rd.below {w w1 : World} {v : Value} {l : List Int} (h : Rd w v l) (hb : Below w.heap.size w w1) : Rd w1 v l := by
  obtain ⟨A, c, rfl, hl, hc⟩ := h
  exact ⟨A, c, rfl, hl, Kd.C_below hc hb⟩

set_option maxHeartbeats 4000000 in
set_option maxRecDepth 100000 in
theorem refTakePart (A0 : Option Addr) (c0 : Nat) (l0 : List Int) (r1 : List Int) (r2 : List Int) (r3 : Int) (w : World) (hr0 : Kd.C (Kd.int .u8) w A0 l0.length l0) (hc0 : l0.length ≤ c0) (hbytes : ∀ x ∈ l0, 0 ≤ x ∧ x < 256) (hlen : l0.length < 140737488355328)
    (h : num_TakePart.f l0 = some (r1, r2, r3)) :
    Calls Try.prog 21 #[.slice A0 l0.length c0] w fun e w' => ∃ v0_ v1_ : Value, e = .returned (.tuple #[v0_, v1_, .int .i64 r3]) ∧ Rd w' v0_ r1 ∧ Rd w' v1_ r2 ∧ Below w.heap.size w w' := by
  by_cases h2 : l0.length < 2
  · have hf : num_TakePart.f l0 = some ([], [], 10) := by
      unfold num_TakePart.f num_Take.f
      rw [if_neg (by omega), if_neg (by omega), if_pos (by omega)]
      simp [num_TakePart.g]
    rw [hf] at h
    cases h
    have d1 : decide ((l0.length : Int) < 2) = true := decide_eq_true (by omega)
    have d2 : decide (l0.length < 2) = true := decide_eq_true (by omega)
    clear hr0 hc0 hf h2 hlen
    go_enter Try.func21, Try.ntmps21
    go_wp2
    go_ret3
    exact ⟨_, _, rfl, Rd.nil _, Rd.nil _, Below.refl _ _⟩
  have d1 : decide ((l0.length : Int) < 2) = false := decide_eq_false (by omega)
  have d2 : decide (l0.length < 2) = false := decide_eq_false (by omega)
  have ht := take_ok l0 2 (by decide) (by decide) (by omega) hlen hbytes
  rw [show ((2 : Nat) : Int) = 2 from rfl] at ht
  have hl2 : (l0.take 2).length = 2 := by rw [List.length_take]; omega
  have hb2 : ∀ x ∈ l0.take 2, 0 ≤ x ∧ x < 256 := fun x hx => hbytes x (List.mem_of_mem_take hx)
  have hv := val_bound _ hb2
  rw [hl2] at hv
  have hnum := number_f _ hb2 (by omega) 10 (Nat.le_refl _)
  unfold num_TakePart.f at h
  rw [ht] at h
  simp only [Option.bind_some] at h
  generalize hq : val (l0.take 2) = v at *
  obtain ⟨m, rfl⟩ := Int.eq_ofNat_of_zero_le hv.1
  have hm16 : m < 65536 := by have := hv.2; have e : (256 : Int) ^ 2 = 65536 := by decide
                              omega
  unfold num_TakePart.g at h
  rw [if_neg (by simp)] at h
  obtain ⟨i0, hi0, _, hsz, _⟩ := info_parts info5
  obtain ⟨hcut, hA, hC⟩ := print_take_of (P := Try.prog) (Value.int .u8) 0 23 5 .i64 Try.underlying23 hi0 hsz A0 c0 l0 2 (by omega) (by omega) hc0
  have HRt : Aside0 (Kd.C (Kd.int .u8) w A0 (l0.take 2).length (l0.take 2)) := ⟨Kd.C_of_reads (h1 := fun _ => rfl) (hA _ (Kd.reads_of_C hr0))⟩
  have HCt : Aside0 ((l0.take 2).length ≤ c0) := ⟨hC⟩
  have HN := Aside0.mk hnum
  have HR0 := Aside0.mk hr0
  have HC0 := Aside0.mk hc0
  have HL2 := Aside0.mk hl2
  rw [show (Int.toNat 2) = 2 from rfl, hl2] at hcut
  clear hA hC hnum hr0 hc0 hq hb2 hv hl2
  by_cases h4 : 4096 < (m : Int)
  · rw [if_pos h4] at h
    cases h
    have d3 : decide (4096 < (m : Int)) = true := decide_eq_true h4
    clear h4 ht
    go_enter Try.func21, Try.ntmps21
    go_wp2_with fail
    rw [show Value.slice A0 2 c0 = .slice A0 (l0.take 2).length c0 by rw [HL2.out]]
    refine (beadrollref01_Number.calls 10 _ _ (l0.take 2) m _ HRt.out HCt.out HN.out).mono ?_
    rintro e w1 ⟨rfl, ⟨nd, rfl⟩⟩
    go_wp2
    go_ret3
    exact ⟨_, _, rfl, Rd.nil _, Rd.nil _, pw_below_drewN (Below.refl _ _) _⟩
  rw [if_neg h4] at h
  have d3 : decide (4096 < (m : Int)) = false := decide_eq_false h4
  have hm4 : m ≤ 4096 := by omega
  by_cases h5 : ((l0.drop 2).length : Int) < m
  · rw [if_pos h5] at h
    cases h
    rw [List.length_drop] at h5
    have hlm : l0.length < 2 + m := by omega
    clear h4 ht h5
    go_enter Try.func21, Try.ntmps21
    go_wp2_with fail
    rw [show Value.slice A0 2 c0 = .slice A0 (l0.take 2).length c0 by rw [HL2.out]]
    refine (beadrollref01_Number.calls 10 _ _ (l0.take 2) m _ HRt.out HCt.out HN.out).mono ?_
    rintro e w1 ⟨rfl, ⟨nd, rfl⟩⟩
    go_wp2
    go_ret3
    exact ⟨_, _, rfl, Rd.nil _, Rd.nil _, pw_below_drewN (Below.refl _ _) _⟩
  rw [if_neg h5, Int.toNat_natCast] at h
  cases h
  rw [List.length_drop] at h5
  have hlm : 2 + m ≤ l0.length := by omega
  obtain ⟨A1, hcut1, hA1, hC1⟩ := print_mid_of (P := Try.prog) (Value.int .u8) 0 23 5 .i64 .i64 Try.underlying23 hi0 hsz A0 c0 l0 2 (2 + (m : Int)) (by omega) (by omega) (by omega) HC0.out
  obtain ⟨A2, hcut2, hA2, hC2⟩ := print_drop_of (P := Try.prog) (Value.int .u8) 0 23 5 .i64 Try.underlying23 hi0 hsz A0 c0 l0 (2 + (m : Int)) (by omega) (by omega) HC0.out
  have e2 : (2 + (m : Int)).toNat = 2 + m := by omega
  rw [e2] at hC1 hC2
  simp only [e2, show (Int.toNat 2) = 2 from rfl] at hcut1 hcut2 hA1 hA2 hC1
  have hq1 : ((l0.take (2 + m)).drop 2) = (l0.drop 2).take m := by rw [List.drop_take]; congr 1; omega
  have hq2 : l0.drop (2 + m) = (l0.drop 2).drop m := by rw [List.drop_drop]
  rw [hq1] at hcut1 hA1 hC1
  rw [hq2] at hcut2 hA2 hC2
  have hl1 : ((l0.drop 2).take m).length = m := by rw [List.length_take, List.length_drop]; omega
  have hl2' : ((l0.drop 2).drop m).length = l0.length - 2 - m := by rw [List.length_drop, List.length_drop]
  generalize hp1 : (l0.drop 2).take m = p1 at *
  generalize hp2 : (l0.drop 2).drop m = p2 at *
  have HR1 : Aside0 (Kd.C (Kd.int .u8) w A1 p1.length p1) := ⟨Kd.C_of_reads (h1 := fun _ => rfl) (hA1 _ (Kd.reads_of_C HR0.out))⟩
  have HR2 : Aside0 (Kd.C (Kd.int .u8) w A2 p2.length p2) := ⟨Kd.C_of_reads (h1 := fun _ => rfl) (hA2 _ (Kd.reads_of_C HR0.out))⟩
  have HC1 := Aside0.mk hC1
  have HC2 := Aside0.mk hC2
  have HT1 : Aside0 (beadrollref01_Twin.f p1 = some p1) := ⟨twin_f _ (by omega)⟩
  have HT2 : Aside0 (beadrollref01_Twin.f p2 = some p2) := ⟨twin_f _ (by omega)⟩
  clear hA1 hA2 hC1 hC2 hq1 hq2 h4 h5 ht hp1 hp2 e2 hl1 hl2'
  go_enter Try.func21, Try.ntmps21
  go_wp2_with fail
  rw [show Value.slice A0 2 c0 = .slice A0 (l0.take 2).length c0 by rw [HL2.out]]
  refine (beadrollref01_Number.calls 10 _ _ (l0.take 2) m _ HRt.out HCt.out HN.out).mono ?_
  rintro e w1 ⟨rfl, ⟨nd, rfl⟩⟩
  go_wp2
  have hs0 : (0 : Int) ≤ 2 + (m : Int) := by omega
  have hs2 : (2 : Int) ≤ 2 + (m : Int) := by omega
  have hsum : IntKind.i64.wrap (2 + (m : Int)) = 2 + (m : Int) := IntWalk.i64_in _ (by omega)
  go_region_with (go_at_call 9; (first | ((with_reducible refine (beadrollref01_Twin.calls A1 (c0 - 2) p1 p1 _ ?s1 HC1.out HT1.out).mono ?_); (case s1 => exact Kd.C_drewN HR1.out _); rintro e w' ⟨v1, rfl, ho1, hb1⟩; have HO1 := Aside0.mk (Rd.of_R ho1); have HB1 := Aside0.mk ((pw_below_drewN (Below.refl w.heap.size w) (nd + 1)).trans hb1); clear ho1 hb1) | ((with_reducible refine (beadrollref01_Twin.calls A2 (c0 - (2 + m)) p2 p2 _ ?s2 HC2.out HT2.out).mono ?_); (case s2 => exact Kd.C_below HR2.out HB1.out); rintro e w' ⟨v2, rfl, ho2, hb2⟩; have HO2 := Aside0.mk (Rd.of_R ho2); have HO3 := Aside0.mk (HO1.out.below hb2); have HB2 := Aside0.mk (below_then HB1.out HB1.out.size hb2); clear ho2 hb2)))
  clear hsum
  go_wp2
  go_ret3
  exact ⟨_, _, rfl, HO3.out, HO2.out, HB2.out⟩

end Go.Proofs.Ytoncnjnicgfhmaa.Q
