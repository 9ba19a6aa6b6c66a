/-
  NumTakes answers true for every bytes and size: the number of a text's first bytes, and the part at its beginning, and the rest, or the errors, are the document's, and what is handed in stays. This text: the contracts that only this law wants.
-/
import Derived.Test.YtoncnjnicgfhmaaQ1
namespace Go.Proofs.Ytoncnjnicgfhmaa.Q
open Go.RowKit Go.Proofs.YtoncnjnicgfhmaaW.PrintWords Go.Proofs.YtoncnjnicgfhmaaW.PrintLast Go.Proofs.YtoncnjnicgfhmaaW.PrintMore
set_option linter.unusedVariables false
set_option linter.unusedSimpArgs false

/-- Block g is a row of bytes' cells, of which the first N hold bytes. -/
def Byt (w : World) (g N : Nat) : Prop := ∃ cur : Array Value, w.heap[g]? = some (.cells cur 5 (0, 0)) ∧ ∀ i, i < N → ∃ x, cur[i]? = some (.int .u8 x)
theorem Byt.mono {w : World} {g N M : Nat} (h : Byt w g N) (hM : M ≤ N) : Byt w g M := by
  obtain ⟨cur, hc, hx⟩ := h
  exact ⟨cur, hc, fun i hi => hx i (by omega)⟩
/-- A slice of bytes that may be written over: it has no element, or its elements lie in a block from B on. -/
def Wr (B : Nat) (w : World) (v : Value) : Prop := ∃ A n c, v = .slice A n c ∧ n ≤ 9223372036854775807 ∧ (n = 0 ∨ ∃ g off, A = some ⟨g, off, none⟩ ∧ B ≤ g ∧ Byt w g (off + n))
theorem Wr.nil (B : Nat) (w : World) : Wr B w (.slice none 0 0) := ⟨none, 0, 0, rfl, by omega, .inl rfl⟩
theorem Byt.set {w : World} {g N : Nat} (h : Byt w g N) (p : Addr) (hp : p.spot = none) (x : Int) : Byt (w.setCell p (.int .u8 x)) g N := by
  obtain ⟨cur, hc, hx⟩ := h
  obtain ⟨pb, po, ps⟩ := p
  obtain rfl : ps = none := hp
  by_cases he : pb = g
  · subst he
    refine ⟨cur.setIfInBounds po (.int .u8 x), heap_setCell_same w pb po cur 5 _ hc, fun i hi => ?_⟩
    obtain ⟨y, hy⟩ := hx i hi
    rw [Array.getElem?_setIfInBounds]
    have hlt := (Array.getElem?_eq_some_iff.1 hy).1
    by_cases hpi : po = i
    · subst hpi; rw [if_pos rfl, if_pos hlt]; exact ⟨x, rfl⟩
    · rw [if_neg hpi]; exact ⟨y, hy⟩
  · exact ⟨cur, (heap_setCell_other w _ g _ (fun e => he e.symm)).trans hc, hx⟩
theorem Wr.set {B : Nat} {w : World} {v : Value} (h : Wr B w v) (p : Addr) (hp : p.spot = none) (x : Int) : Wr B (w.setCell p (.int .u8 x)) v := by
  obtain ⟨A, n, c, rfl, hn, h⟩ := h
  refine ⟨A, n, c, rfl, hn, ?_⟩
  rcases h with h | ⟨g, off, rfl, hB, hb⟩
  · exact .inl h
  · exact .inr ⟨g, off, rfl, hB, hb.set p hp x⟩
theorem Wr.below {B C : Nat} {w w1 : World} {v : Value} (h : Wr B w v) (hb : Below w.heap.size w w1) (hC : C ≤ B) : Wr C w1 v := by
  obtain ⟨A, n, c, rfl, hn, h⟩ := h
  refine ⟨A, n, c, rfl, hn, ?_⟩
  rcases h with h | ⟨g, off, rfl, hB, cur, hc, hx⟩
  · exact .inl h
  · exact .inr ⟨g, off, rfl, by omega, cur, (hb.block g (Array.getElem?_eq_some_iff.1 hc).1).trans hc, hx⟩

/-- 'a[m:]': its value told, its address too. -/
theorem cut_from {P : Program} (t e : TypeId) (kl : IntKind) {i : TypeInfo} (ht : P.underlying t = some (.slice e)) (hi : P.info? e = some i) (hsz : i.size = 1) (A : Option Addr) (n c m : Nat) (hm : m ≤ n) :
    ∃ A' : Option Addr, A' = (if c = m then A else A.map (·.add m)) ∧ (∀ W : World, (Instr.slice t (.slice A n c) (some (.int kl (m : Int))) none none).run P W = .ok (.slice A' (n - m) (c - m)) W) ∧
      ∀ (w : World) (xs : List Int), n ≤ c → ReadsOf (Value.int .u8) 0 w A n xs → ReadsOf (Value.int .u8) 0 w A' (n - m) (xs.drop m) := by
  refine ⟨_, rfl, fun W => ?_, fun w xs hc h => h.drop_ m hm hc⟩
  have hel : P.elem t = e := by simp [Program.elem, ht]
  have hu : P.underlying t = some (.slice (P.elem t)) := by rw [hel]; exact ht
  rw [run_slice_l W t A n c hu kl m (by omega) (by omega), hel]
  simp [sizeOf, typeInfo, hi, hsz, sliced, Result.andThen]

set_option maxHeartbeats 2000000 in
set_option maxRecDepth 100000 in
/-- 'spoil' over whatever slice may be written over: whatever may be written over still may. -/
theorem spoil_over (B : Nat) (v : Value) (w : World) (hv : Wr B w v) (hB : B ≤ w.heap.size) :
    Calls Try.prog 17 #[v] w fun e w' => e = .returned (.tuple #[]) ∧ Below B w w' ∧ ∀ u, Wr B w u → Wr B w' u := by
  have HV := Aside0.mk hv
  obtain ⟨A, n, c, rfl, hn, _⟩ := hv
  go_enter Try.func17, Try.ntmps17
  go_wp2
  go_loopw [2] (fun i wr => ∃ k : Nat, k ≤ n ∧ i = .int .i64 (k : Int) ∧ Aside0 (Below B w wr) ∧ Aside0 (∀ u, Wr B w u → Wr B wr u)) (fun i _ => n - (intOf i).toNat)
  case atStart => exact ⟨0, Nat.zero_le _, rfl, ⟨Below.refl _ _⟩, ⟨fun _ h => h⟩⟩
  case round =>
    obtain ⟨k, hk, rfl, hb, hw⟩ := hrel
    by_cases hlt : k < n
    · obtain ⟨A2, n2, c2, he, _, hn0 | ⟨g, off, rfl, hBg, cur, hc, hx⟩⟩ := hw.out _ HV.out
      · cases he; omega
      cases he
      obtain ⟨x, hx⟩ := hx (off + k) (by omega)
      have hcell : wr.cell? ⟨g, off + k, none⟩ = some (.int .u8 x) := by rw [cell_of_row wr g (off + k) cur 5 (0, 0) hc]; exact hx
      have hfz : wr.frozen? ⟨g, off + k, none⟩ = false := by simp [World.frozen?, hc]
      have HBg := Aside0.mk hBg
      clear hc hx hBg
      go_wp2
      go_roundw
      case rel => exact ⟨k + 1, by omega, by go_num, ⟨hb.out.setCell HBg.out _⟩, ⟨fun u hu => (hw.out u hu).set _ rfl _⟩⟩
      case measure => simp [intOf]; omega
    · go_wp2
      go_end0
      exact ⟨rfl, hb.out, hw.out⟩

set_option maxHeartbeats 2000000 in
set_option maxRecDepth 100000 in
theorem num_TakePart.over (A0 : Option Addr) (c0 : Nat) (l0 : List Int) (r1 : List Int) (r2 : List Int) (r3 : Int) (w : World) (hr0 : Kd.C (Kd.int .u8) w A0 l0.length l0) (hc0 : l0.length ≤ c0) (h : num_TakePart.f l0 = some (r1, r2, r3)) :
    Calls Try.prog 20 #[.slice A0 l0.length c0] w fun e w' => ∃ v0_ v1_ : Value, e = .returned (.tuple #[v0_, v1_, .int .i64 r3]) ∧ Kd.V (Kd.int .u8) 5 w' w.heap.size (fun k_ => w.heap.size ≤ k_) v0_ r1 ∧ Kd.V (Kd.int .u8) 5 w' w.heap.size (fun k_ => w.heap.size ≤ k_) v1_ r2 ∧ Wr w.heap.size w' v0_ ∧ Wr w.heap.size w' v1_ ∧ Below w.heap.size w w' := by
  unfold num_TakePart.f at h
  obtain ⟨⟨n, more, e⟩, ht, hg⟩ := Option.bind_eq_some_iff.1 h
  clear h
  obtain ⟨hn0, hn1⟩ := num_Take.f_range ht
  have HT := Aside0.mk ht
  have HR0 := Aside0.mk hr0
  have HC0 := Aside0.mk hc0
  clear ht hr0 hc0
  unfold num_TakePart.g at hg
  simp only at hg
  by_cases he : e = 0
  case neg =>
    rw [if_pos he] at hg
    cases hg
    have d1 : (r3 != 0) = true := bne_iff_ne.2 he
    clear he hn0 hn1
    go_enter Try.func20, Try.ntmps20
    go_wp2_with (first | ((with_reducible refine gate_callee (f := 18) rfl ?_); refine goesL_ (some 9) rfl rfl Try.func18 (by kernel_rfl) rfl #[.slice A0 l0.length c0, .int .i64 2] rfl (by simp only [List.map_toArray, List.map_cons, List.map_nil]; rfl) ?_; (with_reducible refine (num_Take.calls _ _ l0 2 n more r3 _ HR0.out HC0.out HT.out).mono ?_); rintro e2 w1 ⟨v, rfl, ho, hb⟩; refine ⟨_, rfl, ?_⟩; have HB := Aside0.mk hb; clear ho hb))
    go_ret3
    exact ⟨_, _, rfl, Kd.V_nil _ _ _ _ _, Kd.V_nil _ _ _ _ _, Wr.nil _ _, Wr.nil _ _, HB.out⟩
  rw [if_neg (not_not_intro he)] at hg
  subst he
  by_cases h4 : 4096 < n
  case pos =>
    rw [if_pos h4] at hg
    cases hg
    have d1 : decide (4096 < n) = true := decide_eq_true h4
    clear h4 hn0 hn1
    go_enter Try.func20, Try.ntmps20
    go_wp2_with (first | ((with_reducible refine gate_callee (f := 18) rfl ?_); refine goesL_ (some 9) rfl rfl Try.func18 (by kernel_rfl) rfl #[.slice A0 l0.length c0, .int .i64 2] rfl (by simp only [List.map_toArray, List.map_cons, List.map_nil]; rfl) ?_; (with_reducible refine (num_Take.calls _ _ l0 2 n more 0 _ HR0.out HC0.out HT.out).mono ?_); rintro e2 w1 ⟨v, rfl, ho, hb⟩; refine ⟨_, rfl, ?_⟩; have HB := Aside0.mk hb; clear ho hb))
    go_ret3
    exact ⟨_, _, rfl, Kd.V_nil _ _ _ _ _, Kd.V_nil _ _ _ _ _, Wr.nil _ _, Wr.nil _ _, HB.out⟩
  rw [if_neg h4] at hg
  have d1 : decide (4096 < n) = false := decide_eq_false h4
  obtain ⟨m, rfl⟩ := Int.eq_ofNat_of_zero_le hn0
  by_cases hs : (more.length : Int) < (m : Int)
  case pos =>
    rw [if_pos hs] at hg
    cases hg
    have d2 : decide (more.length < m) = true := decide_eq_true (by omega)
    have hm : m ≤ 4096 := by omega
    clear h4 hn0 hn1 hs
    go_enter Try.func20, Try.ntmps20
    go_wp2_with (first | ((with_reducible refine gate_callee (f := 18) rfl ?_); refine goesL_ (some 9) rfl rfl Try.func18 (by kernel_rfl) rfl #[.slice A0 l0.length c0, .int .i64 2] rfl (by simp only [List.map_toArray, List.map_cons, List.map_nil]; rfl) ?_; (with_reducible refine (num_Take.calls _ _ l0 2 m more 0 _ HR0.out HC0.out HT.out).mono ?_); rintro e2 w1 ⟨v, rfl, ho, hb⟩; refine ⟨_, rfl, ?_⟩; have HB := Aside0.mk hb; obtain ⟨A, c, rfl⟩ := Kd.R_slice ho; clear ho hb))
    go_ret3
    exact ⟨_, _, rfl, Kd.V_nil _ _ _ _ _, Kd.V_nil _ _ _ _ _, Wr.nil _ _, Wr.nil _ _, HB.out⟩
  rw [if_neg hs] at hg
  have hm : m ≤ 4096 := by omega
  have d2 : decide (more.length < m) = false := decide_eq_false (by omega)
  have hml : m ≤ more.length := by omega
  rw [Int.toNat_natCast] at hg
  cases hg
  clear h4 hn0 hn1 hs
  obtain ⟨i0, hi0, _, hsz, _⟩ := info_parts info5
  go_enter Try.func20, Try.ntmps20
  go_wp2_with fail
  refine (num_Take.calls _ _ l0 2 m more 0 _ HR0.out HC0.out HT.out).mono ?_
  rintro e2 w1 ⟨v, rfl, ho, hb⟩
  obtain ⟨A, c, rfl⟩ := Kd.R_slice ho
  obtain ⟨_, hlc, hrd⟩ := Kd.R_reads' ho
  obtain ⟨A', hA', hcut, hA⟩ := cut_from (P := Try.prog) 23 5 .u64 Try.underlying23 hi0 hsz A more.length c m hml
  have hC : (more.drop m).length ≤ c - m := by rw [List.length_drop]; omega
  have hw1 : Wr w.heap.size (w1.drewN 0) (.slice A m m) ∧ Wr w.heap.size (w1.drewN 0) (.slice A' (more.length - m) (c - m)) := by
    rcases Nat.eq_zero_or_pos more.length with h0 | h0
    · exact ⟨⟨A, m, m, rfl, by omega, .inl (by omega)⟩, ⟨A', more.length - m, c - m, rfl, by omega, .inl (by omega)⟩⟩
    · obtain ⟨g, cap, hv, hg, _, cells, hc⟩ := Kd.R_form ho h0
      cases hv
      have hby : Byt w1 g more.length := ⟨cells, hc, fun i hi => by
        obtain ⟨ad, he, hx⟩ := Kd.at_int hrd (i : Int) (by omega) (by omega)
        cases he
        rw [Int.toNat_natCast, add_plain, cell_of_row w1 g i cells 5 (0, 0) hc] at hx
        exact ⟨_, hx⟩⟩
      have hlm : more.length ≤ 9223372036854775807 := hrd.2.1
      refine ⟨⟨_, m, m, rfl, by omega, .inr ⟨g, 0, rfl, hg, hby.mono (by omega)⟩⟩, ⟨A', _, _, rfl, by omega, ?_⟩⟩
      by_cases hcm : c = m
      · exact .inl (by omega)
      · rw [if_neg hcm] at hA'
        exact .inr ⟨g, m, by rw [hA']; simp [add_plain], hg, hby.mono (by omega)⟩
  have HW := Aside0.mk hw1
  clear hw1 hA'
  have hF := Kd.R_F (Kd.R_mono (ok' := fun k_ => w.heap.size ≤ k_) (Kd.R_bound ho) (fun k hk => hk.2.1))
  have HF := Aside0.mk hF
  have HA := Aside0.mk hA
  have HB := Aside0.mk hb
  have HC := Aside0.mk hC
  clear ho hrd hF hA hb hC
  go_wp2
  go_quiet (fail)
  go_wp2
  go_ret3
  have ht : (more.take m).length = m := by rw [List.length_take]; omega
  refine ⟨_, _, rfl, ⟨A, m, by rw [ht]; rfl, by omega, ?_⟩, ⟨A', c - m, by rw [List.length_drop]; rfl, HC.out, ?_⟩, HW.out.1, HW.out.2, pw_below_drewN HB.out _⟩
  · refine Kd.F_drewN (Kd.F_imp HF.out (fun W' h => ?_)) _
    have z := (Kd.reads_of_C (d := 0) h).take_ m hml
    rw [ht]
    exact Kd.C_of_reads z
  · refine Kd.F_drewN (Kd.F_imp HF.out (fun W' h => ?_)) _
    have z := HA.out W' more hlc (Kd.reads_of_C (d := 0) h)
    rw [List.length_drop]
    exact Kd.C_of_reads z


end Go.Proofs.Ytoncnjnicgfhmaa.Q
