/-
  THE STREAM'S LAW, in plain Lean: what is polled is what was pushed, in order; each stretch that is lost is one gap.
-/
import Derived.Test.YtkkkjidbakmjdaaDoorTapNames
namespace Go.Proofs.YtkkkjidbakmjdaaDoor.Q
set_option linter.unusedVariables false
/-- What is to be told: the bits (lost?) of the events from number i on, p: was the one before lost? -/
def wantL : List Bool → Nat → Bool → List Itm
  | [], _, _ => []
  | b :: bs, i, p => if (b && p) = true then wantL bs (i + 1) b else (if b = true then gapI else ⟨false, evN (i : Int)⟩) :: wantL bs (i + 1) b
def lastB : List Bool → Bool → Bool
  | [], p => p
  | b :: bs, _ => lastB bs b
theorem want_snoc (b : Bool) : ∀ (bs : List Bool) (i : Nat) (p : Bool), wantL (bs ++ [b]) i p = wantL bs i p ++ wantL [b] (i + bs.length) (lastB bs p)
  | [], i, p => by simp [wantL, lastB]
  | c :: bs, i, p => by
    have ih := want_snoc b bs (i + 1) c
    rw [List.cons_append]
    simp only [wantL, lastB, List.length_cons] at ih ⊢
    rw [ih, show i + 1 + bs.length = i + (bs.length + 1) by omega]
    split <;> simp
theorem last_snoc (b : Bool) : ∀ (bs : List Bool) (p : Bool), lastB (bs ++ [b]) p = b
  | [], p => rfl
  | c :: bs, p => last_snoc b bs c
theorem want_len : ∀ (bs : List Bool) (i : Nat) (p : Bool), (wantL bs i p).length ≤ bs.length
  | [], i, p => by simp [wantL]
  | c :: bs, i, p => by
    have ih := want_len bs (i + 1) c
    simp only [wantL, List.length_cons]
    split
    · omega
    · simp only [List.length_cons]; omega
structure St where
  t : Tp
  told : List Itm
  bits : List Bool
def tailP (t : Tp) : List Itm := t.its ++ (if t.lost = true then [gapI] else [])
structure Inv (room : Int) (s : St) : Prop where
  le : (s.t.its.length : Int) ≤ room
  ok : chkL s.t.its it0 = true
  eq : s.told ++ tailP s.t = wantL s.bits 0 false
  last : s.t.lost = true → lastB s.bits false = true
  none_ : s.t.lost = false → lastB s.bits false = true → s.t.its = []
theorem ok_ev (n : Nat) (h : n ≤ 1000) : evOk (evN (n : Int)) = true := by
  have h1 : hdrOk (evN (n : Int)).hd = true := by simp [evN]; decide
  unfold evOk
  have h2 : 0 ≤ (evN (n : Int)).n := by show (0 : Int) ≤ (n : Int); omega
  have h3 : (evN (n : Int)).n < 1073741824 := by show (n : Int) < 1073741824; omega
  rw [h1, decide_eq_true h2, decide_eq_true h3]
  rfl
theorem okAt_ev (last : Itm) {e : Evt} (h : evOk e = true) : okAt last ⟨false, e⟩ = true := by simp [okAt, h]
theorem chk_tail {x : Itm} {xs : List Itm} (h : chkL (x :: xs) it0 = true) : chkL xs it0 = true := by
  cases xs with
  | nil => decide
  | cons y ys =>
    simp only [chkL, Bool.and_eq_true] at h ⊢
    refine ⟨?_, h.2.2⟩
    have h1 := h.2.1
    unfold okAt at h1 ⊢
    split
    · rename_i hg
      rw [if_pos hg] at h1
      simp only [Bool.and_eq_true] at h1 ⊢
      exact ⟨h1.1, by decide⟩
    · rename_i hg
      rwa [if_neg hg] at h1
theorem nogap {e : Evt} : (decide ((⟨false, e⟩ : Itm) = gapI)) = false := by
  simp [gapI]
theorem chk_app {e : Evt} (he : evOk e = true) : ∀ (l : List Itm) (last : Itm), chkL l last = true → chkL (l ++ [⟨false, e⟩]) last = true
  | [], last, _ => by simp only [List.nil_append, chkL, okAt_ev last he, nogap]; rfl
  | y :: l, last, h => by
    simp only [List.cons_append, chkL, Bool.and_eq_true] at h ⊢
    exact ⟨h.1, chk_app he l y h.2⟩
theorem chk_app2 {e : Evt} (he : evOk e = true) : ∀ (l : List Itm) (last : Itm), chkL l last = true → chkL (l ++ [gapI, ⟨false, e⟩]) last = true
  | [], last, h => by
    simp only [chkL] at h
    have : okAt last gapI = true := by unfold okAt; rw [if_pos (show gapI.gap = true from rfl), h]; decide
    simp only [List.nil_append, chkL, this, okAt_ev gapI he, nogap]; rfl
  | y :: l, last, h => by
    simp only [List.cons_append, chkL, Bool.and_eq_true] at h ⊢
    exact ⟨h.1, chk_app2 he l y h.2⟩
theorem Inv.tap {room : Int} {s : St} (h : Inv room s) (hr : room ≤ 64) : tapOk s.t.its = true := by
  have := h.le
  unfold tapOk
  rw [h.ok, Bool.and_true]
  exact decide_eq_true (by omega)
theorem inv_start (room : Int) (hr : 1 ≤ room) : Inv room ⟨⟨[], false⟩, [], []⟩ := ⟨by simp; omega, by decide, rfl, (fun h => by cases h), fun _ h => by cases h⟩
theorem inv_push {room : Int} {s : St} (h : Inv room s) (hr1 : 1 ≤ room) (hr2 : room ≤ 64) (hb : s.bits.length ≤ 1000) :
    ∃ u : Tp, pushP s.t room (evN (s.bits.length : Int)) = (u, 0) ∧ (u.its.length : Int) ≤ room ∧ (u.lost = true → room - 1 ≤ (s.t.its.length : Int)) ∧ Inv room ⟨u, s.told, s.bits ++ [u.lost]⟩ := by
  have he := ok_ev s.bits.length hb
  refine ⟨withP s.t room (evN (s.bits.length : Int)), by unfold pushP; rw [if_pos ⟨h.tap hr2, he⟩, if_pos ⟨hr1, hr2⟩], ?_⟩
  obtain ⟨⟨its, lost⟩, told, bits⟩ := s
  obtain ⟨hle, hok, heq, hlast, hnone⟩ := h
  simp only at hle hok heq hlast hnone he
  simp only [withP]
  by_cases h1 : lost = true ∧ 2 ≤ room - (its.length : Int)
  · rw [if_pos h1]
    obtain ⟨rfl, h2⟩ := h1
    refine ⟨by simp; omega, (fun h => by cases h), by simp; omega, chk_app2 he its it0 hok, ?_, (fun h => by cases h), fun _ hh => ?_⟩
    · rw [want_snoc, ← heq]
      simp [tailP, wantL]
    · rw [last_snoc] at hh; cases hh
  · rw [if_neg h1]
    by_cases h2 : lost = false ∧ 1 ≤ room - (its.length : Int)
    · rw [if_pos h2]
      obtain ⟨rfl, h2⟩ := h2
      refine ⟨by simp; omega, (fun h => by cases h), by simp; omega, chk_app he its it0 hok, ?_, (fun h => by cases h), fun _ hh => ?_⟩
      · rw [want_snoc, ← heq]
        simp [tailP, wantL]
      · rw [last_snoc] at hh; cases hh
    · rw [if_neg h2]
      refine ⟨hle, fun _ => ?_, hle, hok, ?_, (fun _ => last_snoc _ _ _), (fun h => by cases h)⟩
      · cases lost
        · simp at h2; omega
        · simp at h1; omega
      · rw [want_snoc, ← heq]
        cases lost
        · have hl : lastB bits false = false := by
            cases e : lastB bits false with
            | false => rfl
            | true =>
              have := hnone rfl e
              subst this
              simp at h2
              omega
          rw [hl]
          simp [tailP, wantL]
        · rw [hlast rfl]
          simp [tailP, wantL]
theorem inv_poll {room : Int} {s : St} (h : Inv room s) (hr2 : room ≤ 64) (hr1 : 1 ≤ room) :
    (∃ t x, pollP s.t = (t, x, 0) ∧ (tailP t).length + 1 = (tailP s.t).length ∧ Inv room ⟨t, s.told ++ [x], s.bits⟩) ∨ (∃ t x, pollP s.t = (t, x, 6) ∧ (tailP s.t).length = 0) := by
  have ht := h.tap hr2
  obtain ⟨⟨its, lost⟩, told, bits⟩ := s
  obtain ⟨hle, hok, heq, hlast, hnone⟩ := h
  simp only at hle hok heq hlast hnone ht ⊢
  unfold pollP
  rw [if_pos ht]
  cases its with
  | cons x l =>
    refine .inl ⟨⟨l, lost⟩, x, rfl, by simp [tailP]; try omega, by simp at hle ⊢; omega, chk_tail hok, ?_, hlast, fun h1 h2 => ?_⟩
    · rw [← heq]; simp [tailP]
    · have := hnone h1 h2; cases this
  | nil =>
    cases lost with
    | true =>
      refine .inl ⟨⟨[], false⟩, gapI, rfl, by simp [tailP], by simp; omega, show chkL [] it0 = true by decide, ?_, (fun h => by cases h), fun _ _ => rfl⟩
      rw [← heq]; simp [tailP]
    | false => exact .inr ⟨_, _, rfl, by simp [tailP]⟩
/-- One step of the script. -/
def stepP (room : Int) (s : St) (b : Bool) : St :=
  if b = true then ⟨(pushP s.t room (evN (s.bits.length : Int))).1, s.told, s.bits ++ [(pushP s.t room (evN (s.bits.length : Int))).1.lost]⟩
  else if (pollP s.t).2.2 = 0 then ⟨(pollP s.t).1, s.told ++ [(pollP s.t).2.1], s.bits⟩ else s
theorem inv_step {room : Int} {s : St} (h : Inv room s) (hr1 : 1 ≤ room) (hr2 : room ≤ 64) (hb : s.bits.length ≤ 1000) (b : Bool) : Inv room (stepP room s b) := by
  unfold stepP
  cases b with
  | true =>
    obtain ⟨u, hu, _, _, hi⟩ := inv_push h hr1 hr2 hb
    rw [if_pos rfl, hu]
    exact hi
  | false =>
    rw [if_neg (by decide)]
    rcases inv_poll h hr2 hr1 with ⟨t, x, e, _, hi⟩ | ⟨t, x, e, _⟩
    · rw [e, if_pos rfl]; exact hi
    · rw [e, if_neg (show ¬ ((6 : Int) = 0) by decide)]; exact h
def prevB (bits : List Bool) (i : Nat) : Bool := if i = 0 then false else bits.getD (i - 1) false
theorem stream_step {bits : List Bool} {told : List Itm} {i at_ : Nat} {b : Bool} (hb : bits[i]? = some b) (h : told.drop at_ = wantL (bits.drop i) i (prevB bits i)) :
    ((b && prevB bits i) = true → told.drop at_ = wantL (bits.drop (i + 1)) (i + 1) (prevB bits (i + 1))) ∧
    ((b && prevB bits i) = false → told[at_]? = some (if b = true then gapI else ⟨false, evN (i : Int)⟩) ∧ told.drop (at_ + 1) = wantL (bits.drop (i + 1)) (i + 1) (prevB bits (i + 1))) := by
  obtain ⟨hi, hv⟩ := List.getElem?_eq_some_iff.1 hb
  have hp : prevB bits (i + 1) = b := by
    unfold prevB
    rw [if_neg (by omega), Nat.add_sub_cancel, List.getD_eq_getElem?_getD, hb]; rfl
  rw [List.drop_eq_getElem_cons hi, hv] at h
  simp only [wantL] at h
  rw [hp]
  refine ⟨fun hc => by rw [if_pos hc] at h; exact h, fun hc => ?_⟩
  rw [if_neg (by rw [hc]; decide)] at h
  refine ⟨?_, ?_⟩
  · have := congrArg (·[0]?) h
    simpa [List.getElem?_drop] using this
  · have := congrArg (List.drop 1) h
    simpa [List.drop_drop] using this
end Go.Proofs.YtkkkjidbakmjdaaDoor.Q
