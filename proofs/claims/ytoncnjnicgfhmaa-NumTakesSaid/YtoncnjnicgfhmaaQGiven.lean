/-
  The contracts, by hand, of the functions that the printer doesn't take: slices.Clone of bytes, num.Take, num.TakePart.
-/
import Derived.Test.YtoncnjnicgfhmaaQ0
import Derived.Test.YtoncnjnicgfhmaaNum
import Derived.WalkSpells
import Derived.Lib.Hide
import Derived.OpenShut
namespace Go.Proofs.Ytoncnjnicgfhmaa.Q
open Go.RowKit Go.Proofs.YtoncnjnicgfhmaaW.PrintWords Go.Proofs.YtoncnjnicgfhmaaW.PrintLast Go.Proofs.YtoncnjnicgfhmaaW.PrintMore
set_option linter.unusedVariables false
set_option linter.unusedSimpArgs false

/-! ### slices.Clone: function 28 -/
def slices_Clone_byte_byte.f (l0 : List Int) : Option (List Int) := if l0.length < 140737488355328 then some l0 else none
set_option maxHeartbeats 1000000 in
theorem slices_Clone_byte_byte.calls (A0 : Option Addr) (c0 : Nat) (l0 : List Int) (r : List Int) (w : World) (hr0 : Kd.C (Kd.int .u8) w A0 l0.length l0) (hc0 : l0.length ≤ c0) (h : slices_Clone_byte_byte.f l0 = some r) :
    Calls Try.prog 28 #[.slice A0 l0.length c0] w fun e w' => ∃ v0_ : Value, e = .returned (v0_) ∧ Kd.R (Kd.int .u8) 5 w' w.heap.size (fun _ => True) v0_ r ∧ Below w.heap.size w w' := by
  have HR0 := Aside0.mk hr0
  have HB := Aside0.mk (Below.refl w.heap.size w)
  clear hr0 hc0
  unfold slices_Clone_byte_byte.f at h
  by_cases hl : l0.length < 140737488355328
  · rw [if_pos hl] at h
    obtain rfl := Option.some.inj h
    clear h
    have HL := Aside0.mk hl
    clear hl
    have hn : ∀ W : World, (binOp .eql 23 (.slice A0 l0.length c0) (.slice none 0 0)).run Try.prog W = .ok (.bool A0.isNone) W := fun W => Lib.run_eql_slice_nil W 23 5 A0 l0.length c0 0 0 Try.underlying23
    cases A0 with
    | none =>
      have h0 : l0 = [] := by
        rcases Nat.eq_zero_or_pos l0.length with h | h
        · exact List.eq_nil_of_length_eq_zero h
        · obtain ⟨ad, he, _⟩ := HR0.out.2.2 h; cases he
      have H0 := Aside0.mk h0
      clear h0
      simp only [Option.isNone_none] at hn
      go_enter Try.func28, Try.ntmps28
      go_wp2
      go_ret
      exact ⟨_, rfl, by rw [H0.out]; exact Kd.R_nil _ _ _ _ _, HB.out⟩
    | some ad =>
      simp only [Option.isNone_some] at hn
      have ho : Kd.R (Kd.int .u8) 5 (w.alloc (.cells #[] 5)) w.heap.size (fun _ => True) (.slice (some ⟨w.heap.size, 0, none⟩) 0 0) ([] : List Int) :=
        Kd.R_of_own (by simpa [nums, encs] using own_lit w w.heap.size 5 .u8 [] (Nat.le_refl _) (by simp)) (fun _ _ => trivial)
      have HO := Aside0.mk ho
      clear ho
      go_enter Try.func28, Try.ntmps28
      go_wp2_with (first | ((with_reducible refine gate_builtin (b := .append) (xs := #[.tmp 5, .tmp 6]) rfl ?_); at_builtin; refine Kd.R_append_rows (Kd.int .u8) (w0 := w) w.heap.size rfl (.tmp 5) (.tmp 6) 23 5 (.int .u8 0) 1 rfl Try.underlying23 info5 rfl (by decide) (by omega) (.slice (some ⟨w.heap.size, 0, none⟩) 0 0) ([] : List Int) l0 _ _ _ (fun _ => True) (fun _ => False) rfl rfl HO.out ?aR (fun _ _ h => h) (fun _ h => h.elim) (fun _ _ => trivial) ?aB ?aS ?aL ?_; (case aR => exact Kd.C_alloc HR0.out _); (case aB => exact below_alloc HB.out _); (case aS => simp); (case aL => have := HL.out; simp; omega); intro v1 w1 ho1 hb1 hg hat; rw [List.nil_append] at ho1; have HO1 := Aside0.mk ho1; have HB1 := Aside0.mk hb1; clear ho1 hb1 hg hat))
      go_ret
      exact ⟨_, rfl, HO1.out, HB1.out⟩
  · rw [if_neg hl] at h; cases h


/-! ### num.Take: function 18 -/
def num_Take.n (l : List Int) : Int := l.foldl (fun n c => Go.bits .or .u64 (IntKind.u64.wrap (n * 256)) (IntKind.u64.wrap c)) 0
theorem num_Take.n_snoc (l : List Int) (c : Int) : num_Take.n (l ++ [c]) = Go.bits .or .u64 (IntKind.u64.wrap (num_Take.n l * 256)) (IntKind.u64.wrap c) := by
  simp [num_Take.n, List.foldl_append]
theorem num_Take.n_take (l : List Int) (i : Nat) (h : i < l.length) : num_Take.n (l.take (i + 1)) = Go.bits .or .u64 (IntKind.u64.wrap (num_Take.n (l.take i) * 256)) (IntKind.u64.wrap (rd l i)) := by
  rw [List.take_succ_eq_append_getElem h, num_Take.n_snoc]
  congr 2
  simp [rd, h]
def num_Take.f (l0 : List Int) (a1 : Int) : Option (Int × List Int × Int) :=
  if a1 < 1 then some (0, [], 2) else if 8 < a1 then some (0, [], 2) else if (l0.length : Int) < a1 then some (0, [], 10)
  else if l0.length < 140737488355328 then some (num_Take.n (l0.take a1.toNat), l0.drop a1.toNat, 0) else none

set_option maxHeartbeats 2000000 in
set_option maxRecDepth 100000 in
theorem num_Take.main (ad : Addr) (c0 : Nat) (l0 : List Int) (s : Nat) (w : World) (hr0 : Kd.C (Kd.int .u8) w (some ad) l0.length l0) (hc0 : l0.length ≤ c0) (h1 : 1 ≤ s) (h8 : s ≤ 8) (hs : s ≤ l0.length) (hl : l0.length < 140737488355328) :
    Calls Try.prog 18 #[.slice (some ad) l0.length c0, .int .i64 (s : Int)] w fun e w' => ∃ v1_ : Value, e = .returned (.tuple #[.int .u64 (num_Take.n (l0.take s)), v1_, .int .i64 0]) ∧ Kd.R (Kd.int .u8) 5 w' w.heap.size (fun _ => True) v1_ (l0.drop s) ∧ Below w.heap.size w w' := by
  have HR0 := Aside0.mk hr0
  have HB := Aside0.mk (Below.refl w.heap.size w)
  obtain ⟨i0, hi0, _, hsz, _⟩ := info_parts info5
  obtain ⟨A', hcut, hA, hC⟩ := print_drop_of (P := Try.prog) (Value.int .u8) 0 23 5 .i64 Try.underlying23 hi0 hsz (some ad) c0 l0 (s : Int) (by omega) (by omega) hc0
  have HRd : Aside0 (Kd.C (Kd.int .u8) w A' (l0.drop s).length (l0.drop s)) := Aside0.mk (Kd.C_of_reads (h1 := fun _ => rfl) (by have z := hA _ (Kd.reads_of_C hr0); rwa [Int.toNat_natCast] at z))
  rw [Int.toNat_natCast] at hC
  simp only [Int.toNat_natCast] at hcut
  have HC := Aside0.mk hC
  have d1 : decide ((s : Int) < 1) = false := decide_eq_false (by omega)
  have d2 : decide ((8 : Int) < (s : Int)) = false := decide_eq_false (by omega)
  have d3 : decide ((l0.length : Nat) < s) = false := decide_eq_false (by omega)
  have HL : Aside0 (slices_Clone_byte_byte.f (l0.drop s) = some (l0.drop s)) := ⟨by unfold slices_Clone_byte_byte.f; rw [if_pos (by rw [List.length_drop]; omega)]⟩
  clear hi0 hsz hA hC hr0 hl
  go_enter Try.func18, Try.ntmps18
  go_wp2
  go_loop [4, 8, 26] (fun n _ i => ∃ k : Nat, k ≤ s ∧ i = .int .i64 (k : Int) ∧ n = .int .u64 (num_Take.n (l0.take k))) (fun _ _ i => s - (intOf i).toNat)
  case atStart => exact ⟨0, Nat.zero_le _, rfl, rfl⟩
  case round =>
    obtain ⟨k, hk, rfl, rfl⟩ := hrel
    by_cases hlt : k < s
    · have hsn := Lib.hid (num_Take.n_take l0 k (by omega))
      obtain ⟨ad', e, hx⟩ := Kd.at_int HR0.out (k : Int) (by omega) (by omega)
      obtain rfl := Option.some.inj e
      rw [Int.toNat_natCast] at hx
      clear e
      go_wp2
      go_round
      case rel => exact ⟨k + 1, by omega, by go_num, by rw [hsn.out]⟩
      case measure => simp [intOf]; omega
    · have hks : k = s := by omega
      subst hks
      go_wp2_with (first | ((with_reducible refine gate_callee (f := 28) rfl ?_); refine goesL_ (some 40) rfl rfl Try.func28 (by kernel_rfl) rfl #[.slice A' (l0.drop k).length (c0 - k)] rfl (by simp only [List.map_toArray, List.map_cons, List.map_nil, List.length_drop]; rfl) ?_; (with_reducible refine (slices_Clone_byte_byte.calls _ _ (l0.drop k) (l0.drop k) _ HRd.out HC.out HL.out).mono ?_); rintro e w' ⟨v, rfl, ho, hb⟩; refine ⟨_, rfl, ?_⟩; have HO := Aside0.mk ho; have HB2 := Aside0.mk hb; clear ho hb))
      go_ret3
      exact ⟨_, rfl, HO.out, HB2.out⟩

set_option maxHeartbeats 2000000 in
theorem num_Take.calls (A0 : Option Addr) (c0 : Nat) (l0 : List Int) (a1 : Int) (r1 : Int) (r2 : List Int) (r3 : Int) (w : World) (hr0 : Kd.C (Kd.int .u8) w A0 l0.length l0) (hc0 : l0.length ≤ c0) (h : num_Take.f l0 a1 = some (r1, r2, r3)) :
    Calls Try.prog 18 #[.slice A0 l0.length c0, .int .i64 a1] w fun e w' => ∃ v1_ : Value, e = .returned (.tuple #[.int .u64 r1, v1_, .int .i64 r3]) ∧ Kd.R (Kd.int .u8) 5 w' w.heap.size (fun _ => True) v1_ r2 ∧ Below w.heap.size w w' := by
  unfold num_Take.f at h
  by_cases h1 : a1 < 1
  · rw [if_pos h1] at h
    cases h
    have d1 : decide (a1 < 1) = true := decide_eq_true h1
    clear hr0 hc0 h1
    go_enter Try.func18, Try.ntmps18
    go_wp2
    go_ret3
    exact ⟨_, rfl, Kd.R_nil _ _ _ _ _, Below.refl _ _⟩
  rw [if_neg h1] at h
  by_cases h8 : 8 < a1
  · rw [if_pos h8] at h
    cases h
    have d1 : decide (a1 < 1) = false := decide_eq_false h1
    have d2 : decide (8 < a1) = true := decide_eq_true h8
    clear hr0 hc0 h1 h8
    go_enter Try.func18, Try.ntmps18
    go_wp2
    go_ret3
    exact ⟨_, rfl, Kd.R_nil _ _ _ _ _, Below.refl _ _⟩
  rw [if_neg h8] at h
  by_cases hs : (l0.length : Int) < a1
  · rw [if_pos hs] at h
    cases h
    have d1 : decide (a1 < 1) = false := decide_eq_false h1
    have d2 : decide (8 < a1) = false := decide_eq_false h8
    have d3 : decide ((l0.length : Int) < a1) = true := decide_eq_true hs
    clear hr0 hc0 h1 h8 hs
    go_enter Try.func18, Try.ntmps18
    go_wp2
    go_ret3
    exact ⟨_, rfl, Kd.R_nil _ _ _ _ _, Below.refl _ _⟩
  rw [if_neg hs] at h
  by_cases hl : l0.length < 140737488355328
  · rw [if_pos hl] at h
    cases h
    obtain ⟨s, rfl⟩ := Int.eq_ofNat_of_zero_le (show 0 ≤ a1 by omega)
    rw [Int.toNat_natCast]
    obtain ⟨ad, he, _⟩ := hr0.2.2 (by omega)
    subst he
    exact num_Take.main ad c0 l0 s w hr0 hc0 (by omega) (by omega) (by omega) hl
  · rw [if_neg hl] at h; cases h

/-! ### num.TakePart: function 20 -/
def num_TakePart.g (n : Int) (l : List Int) (e : Int) : Option (List Int × List Int × Int) :=
  if ¬ e = 0 then some ([], [], e) else if 4096 < n then some ([], [], 4) else if (l.length : Int) < n then some ([], [], 10) else some (l.take n.toNat, l.drop n.toNat, 0)
def num_TakePart.f (l0 : List Int) : Option (List Int × List Int × Int) := (num_Take.f l0 2).bind fun b => num_TakePart.g b.1 b.2.1 b.2.2
theorem num_Take.n_range (l : List Int) : 0 ≤ num_Take.n l ∧ num_Take.n l < 18446744073709551616 := by
  rcases List.eq_nil_or_concat l with rfl | ⟨a, c, rfl⟩
  · exact ⟨by decide, by decide⟩
  · rw [List.concat_eq_append, num_Take.n_snoc]
    have := bounds_u64 (wf_bits .or .u64 (IntKind.u64.wrap (num_Take.n a * 256)) (IntKind.u64.wrap c))
    omega
theorem num_Take.f_range {l : List Int} {a n e : Int} {more : List Int} (h : num_Take.f l a = some (n, more, e)) : 0 ≤ n ∧ n < 18446744073709551616 := by
  unfold num_Take.f at h
  split at h
  · cases h; exact ⟨by decide, by decide⟩
  · split at h
    · cases h; exact ⟨by decide, by decide⟩
    · split at h
      · cases h; exact ⟨by decide, by decide⟩
      · split at h
        · cases h; exact num_Take.n_range _
        · cases h
set_option maxHeartbeats 2000000 in
set_option maxRecDepth 100000 in
theorem num_TakePart.calls (A0 : Option Addr) (c0 : Nat) (l0 : List Int) (r1 : List Int) (r2 : List Int) (r3 : Int) (w : World) (hr0 : Kd.C (Kd.int .u8) w A0 l0.length l0) (hc0 : l0.length ≤ c0) (h : num_TakePart.f l0 = some (r1, r2, r3)) :
    Calls Try.prog 20 #[.slice A0 l0.length c0] w fun e w' => ∃ v0_ v1_ : Value, e = .returned (.tuple #[v0_, v1_, .int .i64 r3]) ∧ Kd.V (Kd.int .u8) 5 w' w.heap.size (fun k_ => w.heap.size ≤ k_) v0_ r1 ∧ Kd.V (Kd.int .u8) 5 w' w.heap.size (fun k_ => w.heap.size ≤ k_) v1_ r2 ∧ Below w.heap.size w w' := by
  unfold num_TakePart.f at h
  obtain ⟨⟨n, more, e⟩, ht, hg⟩ := Option.bind_eq_some_iff.1 h
  clear h
  obtain ⟨hn0, hn1⟩ := num_Take.f_range ht
  have HT := Aside0.mk ht
  have HR0 := Aside0.mk hr0
  have HC0 := Aside0.mk hc0
  clear ht hr0 hc0
  unfold num_TakePart.g at hg
  simp only at hg
  by_cases he : e = 0
  case neg =>
    rw [if_pos he] at hg
    cases hg
    have d1 : (r3 != 0) = true := bne_iff_ne.2 he
    clear he hn0 hn1
    go_enter Try.func20, Try.ntmps20
    go_wp2_with (first | ((with_reducible refine gate_callee (f := 18) rfl ?_); refine goesL_ (some 9) rfl rfl Try.func18 (by kernel_rfl) rfl #[.slice A0 l0.length c0, .int .i64 2] rfl (by simp only [List.map_toArray, List.map_cons, List.map_nil]; rfl) ?_; (with_reducible refine (num_Take.calls _ _ l0 2 n more r3 _ HR0.out HC0.out HT.out).mono ?_); rintro e2 w1 ⟨v, rfl, ho, hb⟩; refine ⟨_, rfl, ?_⟩; have HB := Aside0.mk hb; clear ho hb))
    go_ret3
    exact ⟨_, _, rfl, Kd.V_nil _ _ _ _ _, Kd.V_nil _ _ _ _ _, HB.out⟩
  rw [if_neg (not_not_intro he)] at hg
  subst he
  by_cases h4 : 4096 < n
  case pos =>
    rw [if_pos h4] at hg
    cases hg
    have d1 : decide (4096 < n) = true := decide_eq_true h4
    clear h4 hn0 hn1
    go_enter Try.func20, Try.ntmps20
    go_wp2_with (first | ((with_reducible refine gate_callee (f := 18) rfl ?_); refine goesL_ (some 9) rfl rfl Try.func18 (by kernel_rfl) rfl #[.slice A0 l0.length c0, .int .i64 2] rfl (by simp only [List.map_toArray, List.map_cons, List.map_nil]; rfl) ?_; (with_reducible refine (num_Take.calls _ _ l0 2 n more 0 _ HR0.out HC0.out HT.out).mono ?_); rintro e2 w1 ⟨v, rfl, ho, hb⟩; refine ⟨_, rfl, ?_⟩; have HB := Aside0.mk hb; clear ho hb))
    go_ret3
    exact ⟨_, _, rfl, Kd.V_nil _ _ _ _ _, Kd.V_nil _ _ _ _ _, HB.out⟩
  rw [if_neg h4] at hg
  have d1 : decide (4096 < n) = false := decide_eq_false h4
  obtain ⟨m, rfl⟩ := Int.eq_ofNat_of_zero_le hn0
  by_cases hs : (more.length : Int) < (m : Int)
  case pos =>
    rw [if_pos hs] at hg
    cases hg
    have d2 : decide (more.length < m) = true := decide_eq_true (by omega)
    have hm : m ≤ 4096 := by omega
    clear h4 hn0 hn1 hs
    go_enter Try.func20, Try.ntmps20
    go_wp2_with (first | ((with_reducible refine gate_callee (f := 18) rfl ?_); refine goesL_ (some 9) rfl rfl Try.func18 (by kernel_rfl) rfl #[.slice A0 l0.length c0, .int .i64 2] rfl (by simp only [List.map_toArray, List.map_cons, List.map_nil]; rfl) ?_; (with_reducible refine (num_Take.calls _ _ l0 2 m more 0 _ HR0.out HC0.out HT.out).mono ?_); rintro e2 w1 ⟨v, rfl, ho, hb⟩; refine ⟨_, rfl, ?_⟩; have HB := Aside0.mk hb; obtain ⟨A, c, rfl⟩ := Kd.R_slice ho; clear ho hb))
    go_ret3
    exact ⟨_, _, rfl, Kd.V_nil _ _ _ _ _, Kd.V_nil _ _ _ _ _, HB.out⟩
  rw [if_neg hs] at hg
  have hm : m ≤ 4096 := by omega
  have d2 : decide (more.length < m) = false := decide_eq_false (by omega)
  have hml : m ≤ more.length := by omega
  rw [Int.toNat_natCast] at hg
  cases hg
  clear h4 hn0 hn1 hs
  obtain ⟨i0, hi0, _, hsz, _⟩ := info_parts info5
  go_enter Try.func20, Try.ntmps20
  go_wp2_with fail
  refine (num_Take.calls _ _ l0 2 m more 0 _ HR0.out HC0.out HT.out).mono ?_
  rintro e2 w1 ⟨v, rfl, ho, hb⟩
  obtain ⟨A, c, rfl⟩ := Kd.R_slice ho
  obtain ⟨_, hlc, hrd⟩ := Kd.R_reads' ho
  obtain ⟨A', hcut, hA, hC⟩ := print_drop_of (P := Try.prog) (Value.int .u8) 0 23 5 .u64 Try.underlying23 hi0 hsz A c more (m : Int) (by omega) (by omega) hlc
  simp only [Int.toNat_natCast] at hcut hC hA
  have hF := Kd.R_F (Kd.R_mono (ok' := fun k_ => w.heap.size ≤ k_) (Kd.R_bound ho) (fun k hk => hk.2.1))
  have HF := Aside0.mk hF
  have HA := Aside0.mk hA
  have HB := Aside0.mk hb
  have HC := Aside0.mk hC
  clear ho hrd hF hA hb hC
  go_wp2
  go_quiet (fail)
  go_wp2
  go_ret3
  have ht : (more.take m).length = m := by rw [List.length_take]; omega
  refine ⟨_, _, rfl, ⟨A, m, by rw [ht]; rfl, by omega, ?_⟩, ⟨A', c - m, by rw [List.length_drop]; rfl, HC.out, ?_⟩, pw_below_drewN HB.out _⟩
  · refine Kd.F_drewN (Kd.F_imp HF.out (fun W' h => ?_)) _
    have z := (Kd.reads_of_C (d := 0) h).take_ m hml
    rw [ht]
    exact Kd.C_of_reads z
  · refine Kd.F_drewN (Kd.F_imp HF.out (fun W' h => ?_)) _
    exact Kd.C_of_reads (HA.out W' (Kd.reads_of_C h))

end Go.Proofs.Ytoncnjnicgfhmaa.Q
