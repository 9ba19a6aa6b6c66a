/- Joined texts: TagPure, TagWalk, RowsPure, RowsTurn, RowsDigs (wip/tools/merge.py). -/
import Derived.Test.YtoaimcobcgomjaaDoorQ1
import Derived.Test.YtoaimcobcgomjaaDoorShaPure
import Derived.Test.YtoaimcobcgomjaaDoorShaTellsWalk
import Derived.Test.YtoaimcobcgomjaaDoorQ2
import Derived.Test.YtoaimcobcgomjaaDoorQ3
/-
  Numbers in bytes; what is digested of a kind and parts: what the printed functions answer, in plain Lean.
-/
namespace Go.Proofs.YtoaimcobcgomjaaDoor.Q
open Go.RowKit Go.Proofs.YtoaimcobcgomjaaDoorW.PrintWords Go.Proofs.YtoaimcobcgomjaaDoorW.PrintLast Go.Proofs.YtoaimcobcgomjaaDoorW.PrintMore
set_option linter.unusedVariables false

/-- The last s digits of n to the base of 256, the highest first. -/
def be (n : Int) : Nat → List Int
  | 0 => []
  | s + 1 => (n / 256 ^ s % 256) :: be n s
theorem be_length (n : Int) (s : Nat) : (be n s).length = s := by
  induction s with
  | zero => rfl
  | succ s ih => simp [be, ih]
theorem be_byte (n : Int) (s : Nat) : ∀ x ∈ be n s, 0 ≤ x ∧ x < 256 := by
  induction s with
  | zero => intro x hx; cases hx
  | succ s ih =>
    intro x hx
    rcases List.mem_cons.1 hx with rfl | hx
    · exact ⟨Int.emod_nonneg _ (by decide), Int.emod_lt_of_pos _ (by decide)⟩
    · exact ih x hx
theorem set_rep (m : Nat) (v : Int) (l : List Int) : (List.replicate (m + 1) (0 : Int) ++ l).set m v = List.replicate m 0 ++ v :: l := by
  induction m with
  | zero => rfl
  | succ m ih => rw [List.replicate_succ, List.cons_append, List.set_cons_succ, ih]; rfl
theorem pow8 (i : Nat) : (2 : Int) ^ (8 * i) = 256 ^ i := by
  rw [Int.pow_mul]; rfl
theorem shr_u64 (n : Int) (i : Nat) (h : i ≤ 8) : shr .u64 n (8 * (i : Int)) = n / 256 ^ i := by
  unfold shr
  have : min ((8 : Int) * (i : Int)).toNat (IntKind.bits .u64) = 8 * i := by
    have : IntKind.bits .u64 = 64 := rfl
    omega
  rw [this, pow8]
theorem wrap_id (n : Int) (h0 : -9223372036854775808 ≤ n) (h1 : n ≤ 9223372036854775807) : wrap64 n = n := by unfold wrap64; omega
theorem wrapu_id (n : Int) (h0 : 0 ≤ n) (h1 : n < 18446744073709551616) : IntKind.u64.wrap n = n := by
  show IntKind.wrap .u64 n = n
  unfold IntKind.wrap
  simp [IntKind.signed, IntKind.bits]
  omega
theorem pos_pow (s : Nat) : (0 : Int) < 256 ^ s := Int.pow_pos (by decide)
theorem div_step (n : Int) (i : Nat) : n / 256 ^ i / 256 = n / 256 ^ (i + 1) := by
  rw [Int.pow_succ, Int.ediv_ediv_of_nonneg (Int.le_of_lt (pos_pow i))]
theorem put_l0 (n : Int) (s : Nat) (hs : s ≤ 8) (d : Nat) : ∀ (k i : Nat), i + d = s → d < k →
    num_Put.l0 k n s (List.replicate d 0 ++ be n i) s i = some (be n s, 0) := by
  induction d with
  | zero =>
    intro k i hi hk
    obtain ⟨k, rfl⟩ : ∃ m, k = m + 1 := ⟨k - 1, by omega⟩
    obtain rfl : i = s := by omega
    simp only [num_Put.l0]
    rw [if_neg (by omega)]
    simp
  | succ d ih =>
    intro k i hi hk
    obtain ⟨k, rfl⟩ : ∃ m, k = m + 1 := ⟨k - 1, by omega⟩
    have e1 : wrap64 (8 * (i : Int)) = 8 * i := wrap_id _ (by omega) (by omega)
    have e2 : wrap64 ((s : Int) - 1) = s - 1 := wrap_id _ (by omega) (by omega)
    have e3 : wrap64 ((s : Int) - 1 - i) = (d : Int) := by rw [wrap_id _ (by omega) (by omega)]; omega
    have e4 : wrap64 ((i : Int) + 1) = ((i + 1 : Nat) : Int) := by rw [wrap_id _ (by omega) (by omega)]; omega
    simp only [num_Put.l0]
    rw [if_pos (by omega), e1, e2, e3, if_pos (by omega), if_pos (by omega), if_pos (by simp [be_length]; omega), Int.toNat_natCast, set_rep, shr_u64 n i (by omega), e4]
    exact ih k (i + 1) (by omega) (by omega)
/-- A number in so many bytes, or the error. -/
def put (n s : Int) : List Int × Int :=
  if s < 1 then ([], 2) else if 8 < s then ([], 2) else if n / 256 ^ s.toNat = 0 then (be n s.toNat, 0) else ([], 4)
theorem put_f (n s : Int) (h0 : 0 ≤ n) (h1 : n < 18446744073709551616) (k : Nat) (hk : 12 ≤ k) : num_Put.f k n s = some (put n s) := by
  obtain ⟨k, rfl⟩ : ∃ m, k = m + 2 := ⟨k - 2, by omega⟩
  unfold num_Put.f put
  by_cases c1 : s < 1
  · rw [if_pos c1, if_pos c1]; simp [num_Put.j0]
  rw [if_neg c1, if_neg c1]
  by_cases c2 : 8 < s
  · rw [if_pos c2]; simp [num_Put.j0, c2]
  rw [if_neg c2]
  obtain ⟨t, rfl⟩ := Int.eq_ofNat_of_zero_le (show 0 ≤ s by omega)
  have hj1 : num_Put.j1 (k + 1) n t = some (be n t, 0) := by
    simp only [num_Put.j1]
    rw [if_pos (by omega), if_pos (by omega), Int.toNat_natCast]
    have := put_l0 n t (by omega) t k 0 (by omega) (by omega)
    simpa [be] using this
  have e1 : wrap64 (8 * (t : Int)) = 8 * t := wrap_id _ (by omega) (by omega)
  have hd : decide ((t : Int) > 8) = false := decide_eq_false (by omega)
  rw [hd, Int.toNat_natCast]
  simp only [num_Put.j0, Bool.false_eq_true, if_false]
  by_cases c3 : (t : Int) < 8
  · rw [if_pos c3, e1, if_pos (by omega), shr_u64 n t (by omega)]
    have hge : 0 ≤ n / 256 ^ t := Int.ediv_nonneg h0 (Int.le_of_lt (pos_pow t))
    by_cases c4 : n / 256 ^ t = 0
    · rw [if_pos c4, if_neg (by omega), hj1]
    · rw [if_neg c4, if_pos (by omega)]
  · rw [if_neg c3, hj1]
    obtain rfl : t = 8 := by omega
    rw [if_pos (Int.ediv_eq_zero_of_lt h0 (by simpa using h1))]
/-- What is digested: a kind, then each part behind its length in four bytes. -/
def tagB (kind : Int) (ps : List (List Int)) : List Int := [kind] ++ (ps.map fun p => be p.length 4 ++ p).flatten
theorem put4 (n : Nat) (h : n < 4294967296) (k : Nat) (hk : 12 ≤ k) : num_Put.f k n 4 = some (be n 4, 0) := by
  rw [put_f n 4 (by omega) (by omega) k hk]
  unfold put
  rw [if_neg (by omega), if_neg (by omega), if_pos (by
    show (n : Int) / 256 ^ 4 = 0
    exact Int.ediv_eq_zero_of_lt (by omega) (by omega))]
  rfl
theorem rd_L1_at (ps : List (List Int)) (j : Nat) (h : j < ps.length) : rd_L1 ps (j : Int) = ps[j] := by
  unfold rd_L1
  simp [h]
theorem tag_l0 (ps : List (List Int)) (hl : ∀ p ∈ ps, p.length < 4294967296) (hs : (ps.map fun p => be p.length 4 ++ p).flatten.length < 100000000000) (hn : ps.length < 100000000000) (d : Nat) : ∀ (k j : Nat) (out : List Int), j + d = ps.length → d + 13 < k → out.length + ((ps.drop j).map fun p => be p.length 4 ++ p).flatten.length < 100000000001 →
    tag_Bytes.l0 k out ps (ps.length : Int) (j : Int) = some (out ++ ((ps.drop j).map fun p => be p.length 4 ++ p).flatten) := by
  induction d with
  | zero =>
    intro k j out hj hk ho
    obtain ⟨k, rfl⟩ : ∃ m, k = m + 1 := ⟨k - 1, by omega⟩
    simp only [tag_Bytes.l0]
    rw [if_neg (by omega), List.drop_eq_nil_of_le (by omega)]
    simp
  | succ d ih =>
    intro k j out hj hk ho
    obtain ⟨k, rfl⟩ : ∃ m, k = m + 1 := ⟨k - 1, by omega⟩
    have hjl : j < ps.length := by omega
    obtain ⟨p, hp⟩ : ∃ p, ps[j] = p := ⟨_, rfl⟩
    have hpl : p.length < 4294967296 := hl p (by rw [← hp]; exact List.getElem_mem hjl)
    have hd : ps.drop j = p :: ps.drop (j + 1) := by rw [← hp]; exact List.drop_eq_getElem_cons hjl
    have e4 : wrap64 ((j : Int) + 1) = ((j + 1 : Nat) : Int) := by rw [wrap_id _ (by omega) (by omega)]; omega
    have em : ((p.length : Int)) % 4294967296 = (p.length : Int) := by omega
    rw [hd] at ho ⊢
    simp only [List.map_cons, List.flatten_cons, List.length_append, be_length] at ho ⊢
    simp only [tag_Bytes.l0]
    rw [if_pos (by omega), if_pos (by omega), if_pos (by omega), rd_L1_at ps j hjl, hp, em, put4 p.length hpl k (by omega)]
    simp only [Option.bind_some]
    rw [if_pos (by rw [be_length]; omega), if_pos (by rw [List.length_append, be_length]; omega), e4]
    rw [ih k (j + 1) (out ++ be p.length 4 ++ p) (by omega) (by omega) (by rw [List.length_append, List.length_append, be_length]; omega)]
    simp [List.append_assoc]
theorem tag_f (kind : Int) (ps : List (List Int)) (hl : ∀ p ∈ ps, p.length < 4294967296) (hs : (ps.map fun p => be p.length 4 ++ p).flatten.length < 100000000000) (hn : ps.length < 100000000000) : tag_Bytes.f (ps.length + 14) kind ps = some (tagB kind ps) := by
  unfold tag_Bytes.f
  have := tag_l0 ps hl hs hn ps.length (ps.length + 14) 0 [kind] (by omega) (by omega) (by rw [List.drop_zero]; simp only [List.length_cons, List.length_nil]; omega)
  simpa [tagB] using this
/-- The digest of a kind and parts. -/
def tagOf (kind : Int) (ps : List (List Int)) : List Int := shaOf (tagB kind ps)
end Go.Proofs.YtoaimcobcgomjaaDoor.Q
/-
  Digests of kinds of things: tag.Of, tag.None, beadrollref03.Of, One, Two, None: the contracts, by hand (written by wip/tools/gen_tag.py).
-/
namespace Go.Proofs.YtoaimcobcgomjaaDoor.Q
open Go.RowKit Go.Proofs.YtoaimcobcgomjaaDoorW.PrintWords Go.Proofs.YtoaimcobcgomjaaDoorW.PrintLast Go.Proofs.YtoaimcobcgomjaaDoorW.PrintMore
set_option linter.unusedVariables false
set_option linter.unusedSimpArgs false

/-! ### the document's bytes -/
theorem dig_l0 (n : Int) (h0 : 0 ≤ n) (h1 : n < 18446744073709551616) (s : Nat) (hs : s ≤ 8) (d : Nat) : ∀ (k i : Nat), i + d = s → d < k →
    beadrollref01_Digits.l0 k (n / 256 ^ i) (List.replicate d 0 ++ be n i) ((d : Int) - 1) = some (be n s, (n / 256 ^ s == 0)) := by
  induction d with
  | zero =>
    intro k i hi hk
    obtain ⟨k, rfl⟩ : ∃ m, k = m + 1 := ⟨k - 1, by omega⟩
    obtain rfl : i = s := by omega
    simp only [beadrollref01_Digits.l0]
    rw [if_neg (by omega)]
    simp
  | succ d ih =>
    intro k i hi hk
    obtain ⟨k, rfl⟩ : ∃ m, k = m + 1 := ⟨k - 1, by omega⟩
    have hge : 0 ≤ n / 256 ^ i := Int.ediv_nonneg h0 (Int.le_of_lt (pos_pow i))
    have hle : n / 256 ^ i ≤ n := Int.ediv_le_self _ h0
    have e0 : ((d + 1 : Nat) : Int) - 1 = (d : Int) := by omega
    have e4 : wrap64 ((d : Int) - 1) = (d : Int) - 1 := wrap_id _ (by omega) (by omega)
    have e5 : IntKind.u64.wrap (Int.tdiv (n / 256 ^ i) 256) = n / 256 ^ (i + 1) := by
      rw [Int.tdiv_eq_ediv_of_nonneg hge, div_step, wrapu_id]
      · exact Int.ediv_nonneg h0 (Int.le_of_lt (pos_pow _))
      · have := Int.ediv_le_self (256 ^ (i + 1)) h0; omega
    have e6 : Int.tmod (n / 256 ^ i) 256 % 256 = n / 256 ^ i % 256 := by
      rw [Int.tmod_eq_emod_of_nonneg hge, Int.emod_emod]
    simp only [beadrollref01_Digits.l0]
    rw [e0, if_pos (by omega), if_pos (by omega), if_pos (by simp [be_length]; omega), Int.toNat_natCast, set_rep, e4, e5, e6]
    exact ih k (i + 1) (by omega) (by omega)

theorem dig_f (n : Int) (h0 : 0 ≤ n) (h1 : n < 18446744073709551616) (s : Nat) (hs : s ≤ 8) (k : Nat) (hk : 10 ≤ k) : beadrollref01_Digits.f k n s = some (be n s, (n / 256 ^ s == 0)) := by
  unfold beadrollref01_Digits.f
  rw [if_pos (by omega), if_pos (by omega), Int.toNat_natCast, wrap_id _ (by omega) (by omega)]
  have := dig_l0 n h0 h1 s hs s k 0 (by omega) (by omega)
  simpa [be] using this


theorem rbytes_l0 (ps : List (List Int)) (hl : ∀ p ∈ ps, p.length < 4294967296) (hn : ps.length < 100000000000) (d : Nat) : ∀ (k j : Nat) (out : List Int), j + d = ps.length → d + 13 < k → out.length + ((ps.drop j).map fun p => be p.length 4 ++ p).flatten.length < 100000000001 →
    beadrollref03_Bytes.l0 k ps out (j : Int) = some (out ++ ((ps.drop j).map fun p => be p.length 4 ++ p).flatten) := by
  induction d with
  | zero =>
    intro k j out hj hk ho
    obtain ⟨k, rfl⟩ : ∃ m, k = m + 1 := ⟨k - 1, by omega⟩
    simp only [beadrollref03_Bytes.l0]
    rw [if_neg (by omega), List.drop_eq_nil_of_le (by omega)]
    simp
  | succ d ih =>
    intro k j out hj hk ho
    obtain ⟨k, rfl⟩ : ∃ m, k = m + 1 := ⟨k - 1, by omega⟩
    have hjl : j < ps.length := by omega
    obtain ⟨p, hp⟩ : ∃ p, ps[j] = p := ⟨_, rfl⟩
    have hpl : p.length < 4294967296 := hl p (by rw [← hp]; exact List.getElem_mem hjl)
    have hd : ps.drop j = p :: ps.drop (j + 1) := by rw [← hp]; exact List.drop_eq_getElem_cons hjl
    have e4 : wrap64 ((j : Int) + 1) = ((j + 1 : Nat) : Int) := by rw [wrap_id _ (by omega) (by omega)]; omega
    have em : Int.tmod (IntKind.u64.wrap (p.length : Int)) 4294967296 = (p.length : Int) := by
      rw [wrapu_id _ (by omega) (by omega), Int.tmod_eq_emod_of_nonneg (by omega)]
      omega
    rw [hd] at ho ⊢
    simp only [List.map_cons, List.flatten_cons, List.length_append, be_length] at ho ⊢
    simp only [beadrollref03_Bytes.l0]
    rw [if_pos (by omega), if_pos (by omega), rd_L1_at ps j hjl, hp, em, show beadrollref01_Digits.f k (p.length : Int) 4 = _ from dig_f (p.length : Int) (by omega) (by omega) 4 (by omega) k (by omega)]
    simp only [Option.bind_some]
    rw [if_pos (by rw [be_length]; omega), if_pos (by rw [List.length_append, be_length]; omega), e4]
    rw [ih k (j + 1) (out ++ be p.length 4 ++ p) (by omega) (by omega) (by rw [List.length_append, List.length_append, be_length]; omega)]
    simp [List.append_assoc]
theorem rbytes_f (kind : Int) (ps : List (List Int)) (hl : ∀ p ∈ ps, p.length < 4294967296) (hs : (ps.map fun p => be p.length 4 ++ p).flatten.length < 100000000000) (hn : ps.length < 100000000000) : beadrollref03_Bytes.f (ps.length + 14) kind ps = some (tagB kind ps) := by
  unfold beadrollref03_Bytes.f
  have := rbytes_l0 ps hl hn ps.length (ps.length + 14) 0 [kind] (by omega) (by omega) (by rw [List.drop_zero]; simp only [List.length_cons, List.length_nil]; omega)
  simpa [tagB] using this
theorem parts_len (ps : List (List Int)) : (ps.map fun p => be p.length 4 ++ p).flatten.length = 4 * ps.length + ps.flatten.length := by
  induction ps with
  | nil => rfl
  | cons p ps ih => simp only [List.map_cons, List.flatten_cons, List.length_append, List.length_cons, be_length, ih]; omega
theorem part_le (ps : List (List Int)) : ∀ p ∈ ps, p.length ≤ ps.flatten.length := by
  induction ps with
  | nil => intro p h; cases h
  | cons q ps ih =>
    intro p hp
    rw [List.flatten_cons, List.length_append]
    rcases List.mem_cons.1 hp with rfl | hp
    · omega
    · have := ih p hp; omega
/-- Parts that are bytes, not too many. -/
structure Prts (ps : List (List Int)) : Prop where
  by_ : ∀ p ∈ ps, ∀ x ∈ p, 0 ≤ x ∧ x < 256
  len : ps.flatten.length < 1000000000
  many : ps.length < 1000000000
theorem Prts.small {ps : List (List Int)} (h : Prts ps) : ∀ p ∈ ps, p.length < 4294967296 := fun p hp => by have := part_le ps p hp; have := h.len; omega
theorem Prts.sum {ps : List (List Int)} (h : Prts ps) : (ps.map fun p => be p.length 4 ++ p).flatten.length < 100000000000 := by rw [parts_len]; have := h.len; have := h.many; omega
theorem Prts.tag {ps : List (List Int)} (h : Prts ps) (kind : Int) (hk : 0 ≤ kind ∧ kind < 256) : ∀ x ∈ tagB kind ps, 0 ≤ x ∧ x < 256 := by
  intro x hx
  unfold tagB at hx
  rcases List.mem_append.1 hx with hx | hx
  · rw [List.mem_singleton.1 hx]; exact hk
  · obtain ⟨q, hq, hx⟩ := List.mem_flatten.1 hx
    obtain ⟨p, hp, rfl⟩ := List.mem_map.1 hq
    exact (List.mem_append.1 hx).elim (be_byte _ _ x) (h.by_ p hp x)
theorem Prts.tlen {ps : List (List Int)} (h : Prts ps) (kind : Int) : (tagB kind ps).length < 10000000000 := by
  unfold tagB
  rw [List.length_append, parts_len, List.length_singleton]
  have := h.len
  have := h.many
  omega
theorem tagOf_dig (kind : Int) (ps : List (List Int)) : Dig (tagOf kind ps) := dig_sha _
theorem tagOf_len (kind : Int) (ps : List (List Int)) : (tagOf kind ps).length = 32 := sha_len _
theorem R_bts {w : World} {base : Nat} {ok : Nat → Prop} {v : Value} {l : List Int} (h : (Kd.int .u8).R 5 w base ok v l) (hb : ∀ x ∈ l, 0 ≤ x ∧ x < 256) : ∃ A n c, v = .slice A n c ∧ Bts w A n c l := by
  have hQ := Kd.Q_of_R h
  obtain ⟨A, n, c, rfl, _⟩ := Q_form' hQ
  exact ⟨A, n, c, rfl, Q_bts hQ hb⟩

set_option maxHeartbeats 4000000 in
set_option maxRecDepth 100000 in
theorem tagOf_walk (kind : Int) (hk : 0 ≤ kind ∧ kind < 256) (A : Option Addr) (n c : Nat) (ps : List (List Int)) (W : World) (hR : (Kd.slice 5 (Kd.int .u8)).C W A n ps) (hc : n ≤ c) (hp : Prts ps) (hkt : KT W) :
    Calls Tryd.prog 44 #[.int .u8 kind, .slice A n c] W fun e W' => e = .returned (.agg (arr (tagOf kind ps))) ∧ Below W.heap.size W W' := by
  have HR := Aside0.mk hR
  have HC := Aside0.mk hc
  have HP := Aside0.mk hp
  have hn : ps.length = n := hR.1
  subst hn
  clear hR hc hp
  have HKD := Aside0.mk hk
  have HKT := Aside0.mk hkt
  clear hk hkt
  have HB := Aside0.mk (Below.refl W.heap.size W)
  go_enter Tryd.func44, Tryd.ntmps44
  go_wp2_with (
    first
    | ((with_reducible refine gate_dst (N := 4) rfl ?_); refine box_event ?hg (N := 4) ?hd (cs := arr zeros32) (t := 25) ?hr ?_; (case hd => rfl); (case hg => rfl); (case hr => first | (go_simp; done) | (go_simp; rfl));
       intro g4 hg w1 hbox hb; have BK4 := Aside0.mk hbox; have G4 := Aside0.mk (show W.heap.size ≤ g4 by rw [hg]; exact below_size HB.out); have HB1 := Aside0.mk (below_step HB.out hb); clear HB ; have HB := HB1; clear HB1 ; clear hb hbox hg)
    | (go_at_call 60; (with_reducible refine (tag_Bytes.calls (ps.length + 14) kind A c ps (tagB kind ps) _ (Kd.C_below HR.out HB.out) HC.out (tag_f kind ps HP.out.small HP.out.sum (by have := HP.out.many; omega))).mono ?_); rintro e w2 ⟨v, rfl, hq, hb⟩; obtain ⟨A2, n2, c2, rfl, hbt⟩ := R_bts hq (HP.out.tag kind HKD.out); have B2 := Aside0.mk hbt; have n1 := Aside0.mk (blk_below BK4.out hb); have HB1 := Aside0.mk (below_step HB.out hb); clear HB; have HB := HB1; clear HB1; clear BK4 hq hb hbt; have BK4 := n1; clear n1)
    | (go_at_call 13; (with_reducible refine (of_1 _ c2 A2 (tagB kind ps) n2 22 1 _ (blk_new _ _) (B2.out.alloc _) (by have := HP.out.tlen kind; omega) (HKT.out.below HKT.out.lt (below_alloc HB.out _))).mono ?_); rintro e w3 ⟨rfl, hb⟩; rw [show shaOf (tagB kind ps) = tagOf kind ps from rfl]; have n1 := Aside0.mk (blk_below (blk_alloc BK4.out _) hb); have HB1 := Aside0.mk (below_step (below_alloc HB.out _) hb); clear HB; have HB := HB1; clear HB1; clear BK4 hb; have BK4 := n1; clear n1)
    | ((with_reducible refine gate_store (p := 4) rfl ?_); refine dig_store rfl (.tmp 4) (.tmp 9) rfl g4 (tagOf kind ps) zeros32 rfl rfl BK4.out (tagOf_len _ _) rfl ?_; intro w3 bk hoth hbel; have nn := Aside0.mk bk; have HB1 := Aside0.mk (hbel _ _ HB.out G4.out); clear HB ; have HB := HB1; clear HB1 ; clear BK4; have BK4 := nn; clear nn bk hoth hbel))
  refine bodyPost_ret (results_c rfl _ _ g4 25 (arr (tagOf kind ps)) (0, 0) _ rfl BK4.out Tryd.underlying25 rfl (by rw [arr_size, tagOf_len]; exact info_dig)) rfl ?_
  exact ⟨rfl, HB.out⟩
set_option maxHeartbeats 4000000 in
set_option maxRecDepth 100000 in
theorem tagNone_walk (W : World) (hkt : KT W) :
    Calls Tryd.prog 45 #[] W fun e W' => e = .returned (.agg (arr (tagOf 0 []))) ∧ Below W.heap.size W W' := by
  have HKT := Aside0.mk hkt
  clear hkt
  have HB := Aside0.mk (Below.refl W.heap.size W)
  go_enter Tryd.func45, Tryd.ntmps45
  go_wp2_with (
    first
    | ((with_reducible refine gate_dst (N := 0) rfl ?_); refine box_event ?hg (N := 0) ?hd (cs := arr zeros32) (t := 25) ?hr ?_; (case hd => rfl); (case hg => rfl); (case hr => first | (go_simp; done) | (go_simp; rfl));
       intro g0 hg w1 hbox hb; have BK0 := Aside0.mk hbox; have G0 := Aside0.mk (show W.heap.size ≤ g0 by rw [hg]; exact below_size HB.out); have HB1 := Aside0.mk (below_step HB.out hb); clear HB ; have HB := HB1; clear HB1 ; clear hb hbox hg)
    | (go_at_call 44; (with_reducible refine (tagOf_walk 0 (by decide) none 0 0 [] _ (none_C _) (Nat.le_refl _) ⟨by simp, by simp, by simp⟩ (HKT.out.below HKT.out.lt HB.out)).mono ?_); rintro e w3 ⟨rfl, hb⟩; have n1 := Aside0.mk (blk_below BK0.out hb); have HB1 := Aside0.mk (below_step HB.out hb); clear HB; have HB := HB1; clear HB1; clear BK0 hb; have BK0 := n1; clear n1)
    | ((with_reducible refine gate_store (p := 0) rfl ?_); refine dig_store rfl (.tmp 0) (.tmp 1) rfl g0 (tagOf 0 []) zeros32 rfl rfl BK0.out (tagOf_len _ _) rfl ?_; intro w3 bk hoth hbel; have nn := Aside0.mk bk; have HB1 := Aside0.mk (hbel _ _ HB.out G0.out); clear HB ; have HB := HB1; clear HB1 ; clear BK0; have BK0 := nn; clear nn bk hoth hbel))
  refine bodyPost_ret (results_c rfl _ _ g0 25 (arr (tagOf 0 [])) (0, 0) _ rfl BK0.out Tryd.underlying25 rfl (by rw [arr_size, tagOf_len]; exact info_dig)) rfl ?_
  exact ⟨rfl, HB.out⟩
set_option maxHeartbeats 4000000 in
set_option maxRecDepth 100000 in
theorem rOf_walk (kind : Int) (hk : 0 ≤ kind ∧ kind < 256) (A : Option Addr) (n c : Nat) (ps : List (List Int)) (W : World) (hR : (Kd.slice 5 (Kd.int .u8)).C W A n ps) (hc : n ≤ c) (hp : Prts ps) :
    Calls Tryd.prog 75 #[.int .u8 kind, .slice A n c] W fun e W' => e = .returned (.agg (arr (tagOf kind ps))) ∧ Below W.heap.size W W' := by
  have HR := Aside0.mk hR
  have HC := Aside0.mk hc
  have HP := Aside0.mk hp
  have hn : ps.length = n := hR.1
  subst hn
  clear hR hc hp
  have HKD := Aside0.mk hk
  clear hk
  have HB := Aside0.mk (Below.refl W.heap.size W)
  go_enter Tryd.func75, Tryd.ntmps75
  go_wp2_with (
    first
    | ((with_reducible refine gate_dst (N := 4) rfl ?_); refine box_event ?hg (N := 4) ?hd (cs := arr zeros32) (t := 25) ?hr ?_; (case hd => rfl); (case hg => rfl); (case hr => first | (go_simp; done) | (go_simp; rfl));
       intro g4 hg w1 hbox hb; have BK4 := Aside0.mk hbox; have G4 := Aside0.mk (show W.heap.size ≤ g4 by rw [hg]; exact below_size HB.out); have HB1 := Aside0.mk (below_step HB.out hb); clear HB ; have HB := HB1; clear HB1 ; clear hb hbox hg)
    | (go_at_call 76; (with_reducible refine (beadrollref03_Bytes.calls (ps.length + 14) kind A c ps (tagB kind ps) _ (Kd.C_below HR.out HB.out) HC.out (rbytes_f kind ps HP.out.small HP.out.sum (by have := HP.out.many; omega))).mono ?_); rintro e w2 ⟨v, rfl, hq, hb⟩; obtain ⟨A2, n2, c2, rfl, hbt⟩ := R_bts hq (HP.out.tag kind HKD.out); have B2 := Aside0.mk hbt; have n1 := Aside0.mk (blk_below BK4.out hb); have HB1 := Aside0.mk (below_step HB.out hb); clear HB; have HB := HB1; clear HB1; clear BK4 hq hb hbt; have BK4 := n1; clear n1)
    | (go_at_call 14; (with_reducible refine (sum_walk A2 n2 c2 (tagB kind ps) _ B2.out (by have := HP.out.tlen kind; omega)).mono ?_); rintro e w3 ⟨rfl, hb⟩; rw [show shaOf (tagB kind ps) = tagOf kind ps from rfl]; have n1 := Aside0.mk (blk_below BK4.out hb); have HB1 := Aside0.mk (below_step HB.out hb); clear HB; have HB := HB1; clear HB1; clear BK4 hb; have BK4 := n1; clear n1)
    | ((with_reducible refine gate_store (p := 4) rfl ?_); refine dig_store rfl (.tmp 4) (.tmp 8) rfl g4 (tagOf kind ps) zeros32 rfl rfl BK4.out (tagOf_len _ _) rfl ?_; intro w3 bk hoth hbel; have nn := Aside0.mk bk; have HB1 := Aside0.mk (hbel _ _ HB.out G4.out); clear HB ; have HB := HB1; clear HB1 ; clear BK4; have BK4 := nn; clear nn bk hoth hbel))
  refine bodyPost_ret (results_c rfl _ _ g4 25 (arr (tagOf kind ps)) (0, 0) _ rfl BK4.out Tryd.underlying25 rfl (by rw [arr_size, tagOf_len]; exact info_dig)) rfl ?_
  exact ⟨rfl, HB.out⟩
theorem parts1_C {w : World} {g t c n : Nat} {A : Option Addr} {p : List Int} (h : w.heap[g]? = some (.cells #[.slice A n c] t (0, 0))) (b : Bts w A n c p) : (Kd.slice 5 (Kd.int .u8)).C w (some ⟨g, 0, none⟩) 1 [p] := by
  have e1 := b.len
  subst e1
  refine parts_C h (by simp) fun j q hj => ?_
  match j, hj with
  | 0, hj => exact ⟨A, c, by simp at hj; subst hj; rfl, by simp at hj; subst hj; exact b.le, by simp at hj; subst hj; exact b.rd_⟩
  | j + 1, hj => simp at hj
theorem parts2_C {w : World} {g t c1 n1 c2 n2 : Nat} {A1 A2 : Option Addr} {p1 p2 : List Int} (h : w.heap[g]? = some (.cells #[.slice A1 n1 c1, .slice A2 n2 c2] t (0, 0))) (b1 : Bts w A1 n1 c1 p1) (b2 : Bts w A2 n2 c2 p2) : (Kd.slice 5 (Kd.int .u8)).C w (some ⟨g, 0, none⟩) 2 [p1, p2] := by
  have e1 := b1.len
  have e2 := b2.len
  subst e1 e2
  refine parts_C h (by simp) fun j q hj => ?_
  match j, hj with
  | 0, hj => exact ⟨A1, c1, by simp at hj; subst hj; rfl, by simp at hj; subst hj; exact b1.le, by simp at hj; subst hj; exact b1.rd_⟩
  | 1, hj => exact ⟨A2, c2, by simp at hj; subst hj; rfl, by simp at hj; subst hj; exact b2.le, by simp at hj; subst hj; exact b2.rd_⟩
  | j + 2, hj => simp at hj
theorem prts1 {p : List Int} (hb : ∀ x ∈ p, 0 ≤ x ∧ x < 256) (hl : p.length < 1000000) : Prts [p] := ⟨by simpa using hb, by simp; omega, by simp⟩
theorem prts2 {p q : List Int} (hb : ∀ x ∈ p, 0 ≤ x ∧ x < 256) (hb2 : ∀ x ∈ q, 0 ≤ x ∧ x < 256) (hl : p.length < 1000000) (hl2 : q.length < 1000000) : Prts [p, q] := ⟨by simpa using ⟨hb, hb2⟩, by simp; omega, by simp⟩
/-- tag.Of of one part, of two. -/
theorem tag1 (kind : Int) (hk : 0 ≤ kind ∧ kind < 256) (g cap t c n : Nat) (A : Option Addr) (p : List Int) (W : World) (h : W.heap[g]? = some (.cells #[.slice A n c] t (0, 0))) (b : Bts W A n c p) (hcap : 1 ≤ cap) (hl : p.length < 1000000) (hkt : KT W) :
    Calls Tryd.prog 44 #[.int .u8 kind, .slice (some ⟨g, 0, none⟩) 1 cap] W fun e W' => e = .returned (.agg (arr (tagOf kind [p]))) ∧ Below W.heap.size W W' := tagOf_walk kind hk _ 1 cap [p] W (parts1_C h b) hcap (prts1 b.by_ hl) hkt
theorem tag2 (kind : Int) (hk : 0 ≤ kind ∧ kind < 256) (g cap t c1 n1 c2 n2 : Nat) (A1 A2 : Option Addr) (p1 p2 : List Int) (W : World) (h : W.heap[g]? = some (.cells #[.slice A1 n1 c1, .slice A2 n2 c2] t (0, 0))) (b1 : Bts W A1 n1 c1 p1) (b2 : Bts W A2 n2 c2 p2) (hcap : 2 ≤ cap) (hl : p1.length < 1000000) (hl2 : p2.length < 1000000) (hkt : KT W) :
    Calls Tryd.prog 44 #[.int .u8 kind, .slice (some ⟨g, 0, none⟩) 2 cap] W fun e W' => e = .returned (.agg (arr (tagOf kind [p1, p2]))) ∧ Below W.heap.size W W' := tagOf_walk kind hk _ 2 cap [p1, p2] W (parts2_C h b1 b2) hcap (prts2 b1.by_ b2.by_ hl hl2) hkt
set_option maxHeartbeats 4000000 in
set_option maxRecDepth 100000 in
theorem rOne_walk (kind : Int) (hk : 0 ≤ kind ∧ kind < 256) (A : Option Addr) (n c : Nat) (p : List Int) (W : World) (b : Bts W A n c p) (hl : p.length < 1000000) :
    Calls Tryd.prog 63 #[.int .u8 kind, .slice A n c] W fun e W' => e = .returned (.agg (arr (tagOf kind [p]))) ∧ Below W.heap.size W W' := by
  have HKD := Aside0.mk hk
  have BB := Aside0.mk b
  have HL := Aside0.mk hl
  clear hk b hl
  have HB := Aside0.mk (Below.refl W.heap.size W)
  go_enter Tryd.func63, Tryd.ntmps63
  go_wp2_with (
    first
    | ((with_reducible refine gate_dst (N := 4) rfl ?_); refine box_event ?hg (N := 4) ?hd (cs := arr zeros32) (t := 25) ?hr ?_; (case hd => rfl); (case hg => rfl); (case hr => first | (go_simp; done) | (go_simp; rfl));
       intro g4 hg w1 hbox hb; have BK4 := Aside0.mk hbox; have G4 := Aside0.mk (show W.heap.size ≤ g4 by rw [hg]; exact below_size HB.out); have HB1 := Aside0.mk (below_step HB.out hb); clear HB ; have HB := HB1; clear HB1 ; clear hb hbox hg)
    | (go_at_call 75; (with_reducible refine (rOf_walk kind HKD.out _ 1 1 [p] _ (parts1_C (blk_new _ _) ((BB.out.below HB.out).alloc _)) (Nat.le_refl _) (prts1 BB.out.by_ HL.out)).mono ?_); rintro e w3 ⟨rfl, hb⟩; have n1 := Aside0.mk (blk_below (blk_alloc BK4.out _) hb); have HB1 := Aside0.mk (below_step (below_alloc HB.out _) hb); clear HB; have HB := HB1; clear HB1; clear BK4 hb; have BK4 := n1; clear n1)
    | ((with_reducible refine gate_store (p := 4) rfl ?_); refine dig_store rfl (.tmp 4) (.tmp 8) rfl g4 (tagOf kind [p]) zeros32 rfl rfl BK4.out (tagOf_len _ _) rfl ?_; intro w3 bk hoth hbel; have nn := Aside0.mk bk; have HB1 := Aside0.mk (hbel _ _ HB.out G4.out); clear HB ; have HB := HB1; clear HB1 ; clear BK4; have BK4 := nn; clear nn bk hoth hbel))
  refine bodyPost_ret (results_c rfl _ _ g4 25 (arr (tagOf kind [p])) (0, 0) _ rfl BK4.out Tryd.underlying25 rfl (by rw [arr_size, tagOf_len]; exact info_dig)) rfl ?_
  exact ⟨rfl, HB.out⟩
set_option maxHeartbeats 4000000 in
set_option maxRecDepth 100000 in
theorem rTwo_walk (kind : Int) (hk : 0 ≤ kind ∧ kind < 256) (A1 A2 : Option Addr) (n1 c1 n2 c2 : Nat) (p1 p2 : List Int) (W : World) (b1 : Bts W A1 n1 c1 p1) (b2 : Bts W A2 n2 c2 p2) (hl1 : p1.length < 1000000) (hl2 : p2.length < 1000000) :
    Calls Tryd.prog 65 #[.int .u8 kind, .slice A1 n1 c1, .slice A2 n2 c2] W fun e W' => e = .returned (.agg (arr (tagOf kind [p1, p2]))) ∧ Below W.heap.size W W' := by
  have HKD := Aside0.mk hk
  have B1 := Aside0.mk b1
  have B2 := Aside0.mk b2
  have HL1 := Aside0.mk hl1
  have HL2 := Aside0.mk hl2
  clear hk b1 b2 hl1 hl2
  have HB := Aside0.mk (Below.refl W.heap.size W)
  go_enter Tryd.func65, Tryd.ntmps65
  go_wp2_with (
    first
    | ((with_reducible refine gate_dst (N := 6) rfl ?_); refine box_event ?hg (N := 6) ?hd (cs := arr zeros32) (t := 25) ?hr ?_; (case hd => rfl); (case hg => rfl); (case hr => first | (go_simp; done) | (go_simp; rfl));
       intro g6 hg w1 hbox hb; have BK6 := Aside0.mk hbox; have G6 := Aside0.mk (show W.heap.size ≤ g6 by rw [hg]; exact below_size HB.out); have HB1 := Aside0.mk (below_step HB.out hb); clear HB ; have HB := HB1; clear HB1 ; clear hb hbox hg)
    | (go_at_call 75; (with_reducible refine (rOf_walk kind HKD.out _ 2 2 [p1, p2] _ (parts2_C (blk_new _ _) ((B1.out.below HB.out).alloc _) ((B2.out.below HB.out).alloc _)) (Nat.le_refl _) (prts2 B1.out.by_ B2.out.by_ HL1.out HL2.out)).mono ?_); rintro e w3 ⟨rfl, hb⟩; have n1 := Aside0.mk (blk_below (blk_alloc BK6.out _) hb); have HB1 := Aside0.mk (below_step (below_alloc HB.out _) hb); clear HB; have HB := HB1; clear HB1; clear BK6 hb; have BK6 := n1; clear n1)
    | ((with_reducible refine gate_store (p := 6) rfl ?_); refine dig_store rfl (.tmp 6) (.tmp 11) rfl g6 (tagOf kind [p1, p2]) zeros32 rfl rfl BK6.out (tagOf_len _ _) rfl ?_; intro w3 bk hoth hbel; have nn := Aside0.mk bk; have HB1 := Aside0.mk (hbel _ _ HB.out G6.out); clear HB ; have HB := HB1; clear HB1 ; clear BK6; have BK6 := nn; clear nn bk hoth hbel))
  refine bodyPost_ret (results_c rfl _ _ g6 25 (arr (tagOf kind [p1, p2])) (0, 0) _ rfl BK6.out Tryd.underlying25 rfl (by rw [arr_size, tagOf_len]; exact info_dig)) rfl ?_
  exact ⟨rfl, HB.out⟩
set_option maxHeartbeats 4000000 in
set_option maxRecDepth 100000 in
theorem rNone_walk (W : World) :
    Calls Tryd.prog 66 #[] W fun e W' => e = .returned (.agg (arr (tagOf 0 []))) ∧ Below W.heap.size W W' := by

  have HB := Aside0.mk (Below.refl W.heap.size W)
  go_enter Tryd.func66, Tryd.ntmps66
  go_wp2_with (
    first
    | ((with_reducible refine gate_dst (N := 0) rfl ?_); refine box_event ?hg (N := 0) ?hd (cs := arr zeros32) (t := 25) ?hr ?_; (case hd => rfl); (case hg => rfl); (case hr => first | (go_simp; done) | (go_simp; rfl));
       intro g0 hg w1 hbox hb; have BK0 := Aside0.mk hbox; have G0 := Aside0.mk (show W.heap.size ≤ g0 by rw [hg]; exact below_size HB.out); have HB1 := Aside0.mk (below_step HB.out hb); clear HB ; have HB := HB1; clear HB1 ; clear hb hbox hg)
    | (go_at_call 75; (with_reducible refine (rOf_walk 0 (by decide) none 0 0 [] _ (none_C _) (Nat.le_refl _) ⟨by simp, by simp, by simp⟩).mono ?_); rintro e w3 ⟨rfl, hb⟩; have n1 := Aside0.mk (blk_below BK0.out hb); have HB1 := Aside0.mk (below_step HB.out hb); clear HB; have HB := HB1; clear HB1; clear BK0 hb; have BK0 := n1; clear n1)
    | ((with_reducible refine gate_store (p := 0) rfl ?_); refine dig_store rfl (.tmp 0) (.tmp 1) rfl g0 (tagOf 0 []) zeros32 rfl rfl BK0.out (tagOf_len _ _) rfl ?_; intro w3 bk hoth hbel; have nn := Aside0.mk bk; have HB1 := Aside0.mk (hbel _ _ HB.out G0.out); clear HB ; have HB := HB1; clear HB1 ; clear BK0; have BK0 := nn; clear nn bk hoth hbel))
  refine bodyPost_ret (results_c rfl _ _ g0 25 (arr (tagOf 0 [])) (0, 0) _ rfl BK0.out Tryd.underlying25 rfl (by rw [arr_size, tagOf_len]; exact info_dig)) rfl ?_
  exact ⟨rfl, HB.out⟩
end Go.Proofs.YtoaimcobcgomjaaDoor.Q
/-
  Lists of rows under one digest: plain lists.
-/
namespace Go.Proofs.YtoaimcobcgomjaaDoor.Q
open Go.RowKit Go.Proofs.YtoaimcobcgomjaaDoorW.PrintWords Go.Proofs.YtoaimcobcgomjaaDoorW.PrintLast Go.Proofs.YtoaimcobcgomjaaDoorW.PrintMore
set_option linter.unusedVariables false

/-- How many of so many stand in the first part. -/
def frontZ (n : Int) : Int := 2 ^ (lenZ (n - 1) - 1).toNat
theorem frontZ_range (n : Int) (h0 : 2 ≤ n) (h1 : n ≤ 256) : 1 ≤ frontZ n ∧ frontZ n < n ∧ n ≤ 2 * frontZ n := by
  have : ∀ m : Fin 257, 2 ≤ ((m.1 : Nat) : Int) → 1 ≤ frontZ ((m.1 : Nat) : Int) ∧ frontZ ((m.1 : Nat) : Int) < ((m.1 : Nat) : Int) ∧ ((m.1 : Nat) : Int) ≤ 2 * frontZ ((m.1 : Nat) : Int) := by decide +kernel
  obtain ⟨m, rfl⟩ := Int.eq_ofNat_of_zero_le (show 0 ≤ n by omega)
  exact this ⟨m, by omega⟩ h0
theorem front_f (n : Int) (h0 : 2 ≤ n) (h1 : n ≤ 256) : rows_front.f n = some (frontZ n) := by
  have : ∀ m : Fin 257, 2 ≤ ((m.1 : Nat) : Int) → rows_front.f ((m.1 : Nat) : Int) = some (frontZ ((m.1 : Nat) : Int)) := by decide +kernel
  obtain ⟨m, rfl⟩ := Int.eq_ofNat_of_zero_le (show 0 ≤ n by omega)
  exact this ⟨m, by omega⟩ h0
theorem first_f (n : Int) (h0 : 2 ≤ n) (h1 : n ≤ 256) : beadrollref13_First.f 12 n = some (frontZ n) := by
  have : ∀ m : Fin 257, 2 ≤ ((m.1 : Nat) : Int) → beadrollref13_First.f 12 ((m.1 : Nat) : Int) = some (frontZ ((m.1 : Nat) : Int)) := by decide +kernel
  obtain ⟨m, rfl⟩ := Int.eq_ofNat_of_zero_le (show 0 ≤ n by omega)
  exact this ⟨m, by omega⟩ h0
/-- Whether in the right part, from the root on; k: how many steps at most. -/
def upL : Nat → Int → Int → List Bool
  | 0, _, _ => []
  | k + 1, n, i => if n ≤ 1 then [] else if frontZ n ≤ i then true :: upL k (n - frontZ n) (i - frontZ n) else false :: upL k (frontZ n) i
theorem upL_fuel (k : Nat) : ∀ (m : Nat) (n i : Int), n ≤ 256 → n ≤ (k : Int) + 1 → n ≤ (m : Int) + 1 → upL k n i = upL m n i := by
  induction k with
  | zero =>
    intro m n i h h1 h2
    cases m with
    | zero => rfl
    | succ m => simp only [upL]; rw [if_pos (by omega)]
  | succ k ih =>
    intro m n i h h1 h2
    cases m with
    | zero => simp only [upL]; rw [if_pos (by omega)]
    | succ m =>
      simp only [upL]
      by_cases hn : n ≤ 1
      · rw [if_pos hn, if_pos hn]
      · have hf := frontZ_range n (by omega) h
        rw [if_neg hn, if_neg hn, ih m (n - frontZ n) _ (by omega) (by omega) (by omega), ih m (frontZ n) _ (by omega) (by omega) (by omega)]
theorem upL_step (k : Nat) (n j : Int) (h1 : 1 < n) (h2 : n ≤ 256) (hk : n ≤ (k : Int) + 1) : upL (k + 1) n j = if frontZ n ≤ j then true :: upL (k + 1) (n - frontZ n) (j - frontZ n) else false :: upL (k + 1) (frontZ n) j := by
  have hf := frontZ_range n (by omega) h2
  rw [← upL_fuel k (k + 1) (n - frontZ n) (j - frontZ n) (by omega) (by omega) (by omega), ← upL_fuel k (k + 1) (frontZ n) j (by omega) (by omega) (by omega)]
  show (if n ≤ 1 then [] else if frontZ n ≤ j then true :: upL k (n - frontZ n) (j - frontZ n) else false :: upL k (frontZ n) j) = _
  rw [if_neg (by omega)]
theorem upL_256 (n j : Int) (h1 : 1 < n) (h2 : n ≤ 256) : upL 256 n j = if frontZ n ≤ j then true :: upL 256 (n - frontZ n) (j - frontZ n) else false :: upL 256 (frontZ n) j := upL_step 255 n j h1 h2 (by omega)
theorem upL_one (k : Nat) (n j : Int) (h : n ≤ 1) : upL k n j = [] := by
  cases k with
  | zero => rfl
  | succ k => exact if_pos h
/-- The way up from a row. -/
def turnsL (n i : Int) : List Bool := (upL 256 n i).reverse
theorem upL_len (k : Nat) : ∀ (n i : Int), (upL k n i).length ≤ k := by
  induction k with
  | zero => intro n i; simp [upL]
  | succ k ih =>
    intro n i
    simp only [upL]
    split
    · simp
    · split <;> simp [ih]
/-- A digest with sides, up to the root. -/
def foldD (d : List Int) : List Bool → List (List Int) → List Int
  | r :: rs, s :: ss => foldD (tagOf 8 (if r = true then [s, d] else [d, s])) rs ss
  | _, _ => d
theorem foldD_snoc (rs : List Bool) : ∀ (d : List Int) (ss : List (List Int)) (r : Bool) (s : List Int), rs.length = ss.length → foldD d (rs ++ [r]) (ss ++ [s]) = tagOf 8 (if r = true then [s, foldD d rs ss] else [foldD d rs ss, s]) := by
  induction rs with
  | nil =>
    intro d ss r s h
    obtain rfl : ss = [] := List.eq_nil_of_length_eq_zero (by simpa using h.symm)
    rfl
  | cons q rs ih =>
    intro d ss r s h
    cases ss with
    | nil => simp at h
    | cons t ss =>
      simp only [List.cons_append, foldD]
      exact ih _ ss r s (by simpa using h)
theorem foldD_take (rs : List Bool) (j : Nat) (d : List Int) (ss : List (List Int)) (hl : rs.length = ss.length) (hj : j < rs.length) : foldD d (rs.take (j + 1)) (ss.take (j + 1)) = tagOf 8 (if rs[j] = true then [ss[j]'(by omega), foldD d (rs.take j) (ss.take j)] else [foldD d (rs.take j) (ss.take j), ss[j]'(by omega)]) := by
  rw [List.take_succ_eq_append_getElem hj, List.take_succ_eq_append_getElem (by omega), foldD_snoc _ _ _ _ _ (by rw [List.length_take, List.length_take]; omega)]
theorem foldD_len (rs : List Bool) : ∀ (d : List Int) (ss : List (List Int)), d.length = 32 → (foldD d rs ss).length = 32 := by
  induction rs with
  | nil => intro d ss h; cases ss <;> exact h
  | cons q rs ih =>
    intro d ss h
    cases ss with
    | nil => exact h
    | cons t ss => exact ih _ ss (tagOf_len _ _)
theorem foldD_dig (rs : List Bool) : ∀ (d : List Int) (ss : List (List Int)), Dig d → Dig (foldD d rs ss) := by
  induction rs with
  | nil => intro d ss h; cases ss <;> exact h
  | cons q rs ih =>
    intro d ss h
    cases ss with
    | nil => exact h
    | cons t ss => exact ih _ ss (tagOf_dig _ _)
/-- Do sides fit a root? -/
def outP (many i : Int) (row : List Int) : Bool := decide (256 < many) || decide (i < 0) || decide (many ≤ i) || decide (4096 < (row.length : Int))
def fitsP (root : List Int) (many i : Int) (row : List Int) (sides : List (List Int)) : Bool :=
  if outP many i row = true then false else decide ((turnsL many i).length = sides.length) && decide (foldD (tagOf 7 [row]) (turnsL many i) sides = root)
/-- The root that sides make, as the document has it. -/
def madeP : Nat → Int → Int → List Int → List (List Int) → List Int × Bool
  | 0, _, _, _, _ => (zeros32, false)
  | k + 1, n, i, row, sides => if n = 1 then (tagOf 7 [row], decide (sides.length = 0)) else if sides.length = 0 then (zeros32, false) else
    if i < frontZ n then (tagOf 8 [(madeP k (frontZ n) i row sides.dropLast).1, sides.getLast?.getD []], (madeP k (frontZ n) i row sides.dropLast).2)
    else (tagOf 8 [sides.getLast?.getD [], (madeP k (n - frontZ n) (i - frontZ n) row sides.dropLast).1], (madeP k (n - frontZ n) (i - frontZ n) row sides.dropLast).2)
theorem madeP_dig (k : Nat) (n i : Int) (row : List Int) (sides : List (List Int)) : Dig (madeP k n i row sides).1 := by
  cases k with
  | zero => exact zeros32_dig
  | succ k =>
    simp only [madeP]
    repeat' split
    all_goals first | exact tagOf_dig _ _ | exact zeros32_dig
theorem madeP_fits (k : Nat) : ∀ (n i : Int) (row : List Int) (sides : List (List Int)), 1 ≤ n → n ≤ 256 → n ≤ (k : Int) → 0 ≤ i → i < n →
    (madeP k n i row sides).2 = decide ((upL k n i).length = sides.length) ∧ ((upL k n i).length = sides.length → (madeP k n i row sides).1 = foldD (tagOf 7 [row]) (upL k n i).reverse sides) := by
  induction k with
  | zero => intro n i row sides h1 h2 h3; omega
  | succ k ih =>
    intro n i row sides h1 h2 h3 h4 h5
    by_cases hn : n = 1
    · have eu : upL (k + 1) n i = [] := by simp only [upL]; rw [if_pos (by omega)]
      have em : madeP (k + 1) n i row sides = (tagOf 7 [row], decide (sides.length = 0)) := by simp only [madeP]; rw [if_pos hn]
      rw [eu, em]
      refine ⟨?_, fun h => ?_⟩
      · simp only [List.length_nil]
        by_cases hs : sides.length = 0
        · simp [hs]
        · rw [decide_eq_false hs, decide_eq_false (fun e => hs e.symm)]
      · obtain rfl : sides = [] := List.eq_nil_of_length_eq_zero (by simpa using h.symm)
        rfl
    · have hf := frontZ_range n (by omega) h2
      by_cases hs : sides.length = 0
      · have em : madeP (k + 1) n i row sides = (zeros32, false) := by simp only [madeP]; rw [if_neg hn, if_pos hs]
        have eu : (upL (k + 1) n i).length ≠ sides.length := by
          rw [hs]
          simp only [upL]
          rw [if_neg (by omega)]
          split <;> simp
        rw [em]
        exact ⟨by rw [decide_eq_false eu], fun h => absurd h eu⟩
      · obtain ⟨rest, last, rfl⟩ : ∃ rest last, sides = rest ++ [last] := ⟨sides.dropLast, sides.getLast (by intro e; subst e; simp at hs), (List.dropLast_concat_getLast _).symm⟩
        by_cases hi : i < frontZ n
        · have eu : upL (k + 1) n i = false :: upL k (frontZ n) i := by simp only [upL]; rw [if_neg (by omega), if_neg (by omega)]
          have em : madeP (k + 1) n i row (rest ++ [last]) = (tagOf 8 [(madeP k (frontZ n) i row rest).1, last], (madeP k (frontZ n) i row rest).2) := by
            simp only [madeP]
            rw [if_neg hn, if_neg hs, if_pos hi]
            simp only [List.dropLast_concat, List.getLast?_concat, Option.getD_some]
          obtain ⟨e1, e2⟩ := ih (frontZ n) i row rest (by omega) (by omega) (by omega) (by omega) hi
          rw [eu, em]
          refine ⟨by rw [e1]; simp, fun h => ?_⟩
          have h' : (upL k (frontZ n) i).length = rest.length := by simpa using h
          rw [List.reverse_cons, foldD_snoc _ _ _ _ _ (by rw [List.length_reverse]; exact h'), e2 h']
          rfl
        · have eu : upL (k + 1) n i = true :: upL k (n - frontZ n) (i - frontZ n) := by simp only [upL]; rw [if_neg (by omega), if_pos (by omega)]
          have em : madeP (k + 1) n i row (rest ++ [last]) = (tagOf 8 [last, (madeP k (n - frontZ n) (i - frontZ n) row rest).1], (madeP k (n - frontZ n) (i - frontZ n) row rest).2) := by
            simp only [madeP]
            rw [if_neg hn, if_neg hs, if_neg hi]
            simp only [List.dropLast_concat, List.getLast?_concat, Option.getD_some]
          obtain ⟨e1, e2⟩ := ih (n - frontZ n) (i - frontZ n) row rest (by omega) (by omega) (by omega) (by omega) (by omega)
          rw [eu, em]
          refine ⟨by rw [e1]; simp, fun h => ?_⟩
          have h' : (upL k (n - frontZ n) (i - frontZ n)).length = rest.length := by simpa using h
          rw [List.reverse_cons, foldD_snoc _ _ _ _ _ (by rw [List.length_reverse]; exact h'), e2 h']
          rfl
theorem fits_made (root : List Int) (many i : Int) (row : List Int) (sides : List (List Int)) (h : outP many i row = false) : fitsP root many i row sides = ((madeP 256 many i row sides).2 && decide ((madeP 256 many i row sides).1 = root)) := by
  unfold fitsP
  rw [if_neg (by rw [h]; simp)]
  simp only [outP, Bool.or_eq_false_iff, decide_eq_false_iff_not] at h
  obtain ⟨⟨⟨a, b⟩, c⟩, d⟩ := h
  obtain ⟨e1, e2⟩ := madeP_fits 256 many i row sides (by omega) (by omega) (by omega) (by omega) (by omega)
  unfold turnsL
  rw [e1, List.length_reverse]
  by_cases hl : (upL 256 many i).length = sides.length
  · rw [e2 hl]
  · simp [hl]
end Go.Proofs.YtoaimcobcgomjaaDoor.Q
/-
  rows.turns: the way up from a row: the contract, by hand.
-/
namespace Go.Proofs.YtoaimcobcgomjaaDoor.Q
open Go.RowKit Go.Proofs.YtoaimcobcgomjaaDoorW.PrintWords Go.Proofs.YtoaimcobcgomjaaDoorW.PrintLast Go.Proofs.YtoaimcobcgomjaaDoorW.PrintMore
set_option linter.unusedVariables false
set_option linter.unusedSimpArgs false

theorem rev_l0 (n : Nat) (hn : n < 1000000) (d : Nat) : ∀ (k i : Nat) (x : List Bool), x.length = n → n ≤ 2 * i + d → 2 * i ≤ n + 1 → d + 1 < k → ∃ r, slices_Reverse_bool_bool.l0 k x (i : Int) ((n : Int) - 1 - i) = some r ∧ r.length = n ∧ ∀ m, m < n → r[m]? = if i ≤ m ∧ m + i < n then x[n - 1 - m]? else x[m]? := by
  induction d using Nat.strongRecOn with
  | ind d ih =>
    intro k i x hx hd hi hk
    obtain ⟨k, rfl⟩ : ∃ m, k = m + 1 := ⟨k - 1, by omega⟩
    simp only [slices_Reverse_bool_bool.l0]
    by_cases hlt : (i : Int) < (n : Int) - 1 - i
    · have e1 : wrap64 ((i : Int) + 1) = ((i + 1 : Nat) : Int) := by rw [wrap_id _ (by omega) (by omega)]; omega
      have e2 : wrap64 ((n : Int) - 1 - i - 1) = (n : Int) - 1 - ((i + 1 : Nat) : Int) := by rw [wrap_id _ (by omega) (by omega)]; omega
      rw [if_pos hlt, if_pos (by omega), if_pos (by omega), if_pos (by omega), if_pos (by omega), e1, e2]
      have et : ((n : Int) - 1 - i).toNat = n - 1 - i := by omega
      rw [Int.toNat_natCast, et]
      obtain ⟨r, h1, h2, h3⟩ := ih (d - 2) (by omega) k (i + 1) ((x.set i (rdOf false x ((n : Int) - 1 - i))).set (n - 1 - i) (rdOf false x (i : Int))) (by simp [hx]) (by omega) (by omega) (by omega)
      refine ⟨r, h1, h2, fun m hm => ?_⟩
      rw [h3 m hm]
      have ra : rdOf false x ((n : Int) - 1 - i) = x[n - 1 - i]'(by omega) := by
        unfold rdOf
        rw [et]
        simp [show n - 1 - i < x.length by omega]
      have rb : rdOf false x (i : Int) = x[i]'(by omega) := by
        unfold rdOf
        rw [Int.toNat_natCast]
        simp [show i < x.length by omega]
      rw [ra, rb]
      by_cases hin : i + 1 ≤ m ∧ m + (i + 1) < n
      · rw [if_pos hin, if_pos (by omega), List.getElem?_set_ne (by omega), List.getElem?_set_ne (by omega)]
      · rw [if_neg hin]
        by_cases hmi : m = i
        · subst hmi
          rw [if_pos (by omega), List.getElem?_set_ne (by omega), List.getElem?_set_self (by omega), List.getElem?_eq_getElem (by omega)]
        · by_cases hmj : m = n - 1 - i
          · subst hmj
            rw [if_pos (by omega), List.getElem?_set_self (by simp; omega), show n - 1 - (n - 1 - i) = i by omega, List.getElem?_eq_getElem (by omega)]
          · rw [if_neg (by omega), List.getElem?_set_ne (by omega), List.getElem?_set_ne (by omega)]
    · rw [if_neg hlt]
      refine ⟨x, rfl, hx, fun m hm => ?_⟩
      by_cases hin : i ≤ m ∧ m + i < n
      · rw [if_pos hin, show n - 1 - m = m by omega]
      · rw [if_neg hin]
theorem rev_f (l : List Bool) (h : l.length < 1000000) : slices_Reverse_bool_bool.f (l.length + 3) l = some l.reverse := by
  unfold slices_Reverse_bool_bool.f
  have e : wrap64 ((l.length : Int) - 1) = (l.length : Int) - 1 - ((0 : Nat) : Int) := by rw [wrap_id _ (by omega) (by omega)]; omega
  obtain ⟨r, h1, h2, h3⟩ := rev_l0 l.length h l.length (l.length + 3) 0 l rfl (by omega) (by omega) (by omega)
  rw [e]
  refine h1.trans (congrArg some (List.ext_getElem? fun m => ?_))
  rcases Nat.lt_or_ge m l.length with hm | hm
  · rw [h3 m hm, if_pos (by omega), List.getElem?_reverse hm]
  · rw [List.getElem?_eq_none (by omega), List.getElem?_eq_none (by simpa using hm)]
theorem info_bool : (Tryd.prog.info? 4).map (fun i => (i.zero, i.size, i.bytes)) = some (some (.bool false), 1, 1) := by kernel_rfl
structure TurnInv (W : World) (l : List Bool) (v : Value) (w : World) : Prop where
  r : Kd.bool.R 4 w W.heap.size (fun _ => True) v l
  hb : Below W.heap.size W w
set_option maxHeartbeats 4000000 in
set_option maxRecDepth 100000 in
theorem turns_walk (many i : Int) (h1 : 1 ≤ many) (h2 : many ≤ 256) (h3 : 0 ≤ i) (h4 : i < many) (W : World) :
    Calls Tryd.prog 43 #[.int .i64 many, .int .i64 i] W fun e W' => ∃ v, e = .returned v ∧ Kd.bool.R 4 W' W.heap.size (fun _ => True) v (turnsL many i) ∧ Below W.heap.size W W' := by
  have HI : Aside0 (TurnInv W [] (.slice none 0 0) W) := ⟨⟨Kd.R_nil _ _ _ _ _, Below.refl _ _⟩⟩
  go_enter Tryd.func43, Tryd.ntmps43
  go_wp2
  go_loopw [0, 1, 4, 5] (fun a b v _ wr => ∃ (n j : Int) (l : List Bool), 1 ≤ n ∧ n ≤ 256 ∧ 0 ≤ j ∧ j < n ∧ a = .int .i64 n ∧ b = .int .i64 j ∧ Aside0 (l ++ upL 256 n j = upL 256 many i) ∧ Aside0 (TurnInv W l v wr)) (fun a _ _ _ _ => (intOf a).toNat)
  case atStart => exact ⟨many, i, [], h1, h2, h3, h4, rfl, rfl, ⟨rfl⟩, HI⟩
  case round =>
    obtain ⟨n, j, l, a1, a2, a3, a4, rfl, rfl, HU, HI1⟩ := hrel
    clear HI
    by_cases hn : 1 < n
    · have hf := frontZ_range n (by omega) a2
      obtain ⟨f, ef⟩ : ∃ f, frontZ n = f := ⟨_, rfl⟩
      rw [ef] at hf
      obtain ⟨f1, f2, f3⟩ := hf
      have HF := Aside0.mk ef
      have HLL : Aside0 (l.length ≤ 256) := ⟨by
        have h := congrArg List.length HU.out
        rw [List.length_append] at h
        have := upL_len 256 many i
        omega⟩
      have HUE : Aside0 (upL 256 n j = if f ≤ j then true :: upL 256 (n - f) (j - f) else false :: upL 256 f j) := ⟨by
        rw [← ef]
        exact upL_256 n j hn a2⟩
      clear ef
      by_cases hj : f ≤ j
      · have HU2 : Aside0 ((l ++ [true]) ++ upL 256 (n - f) (j - f) = upL 256 many i) := ⟨by rw [← HU.out, HUE.out, if_pos hj]; simp⟩
        clear HUE
        go_wp2_with (
          first
          | (go_at_call 41; (with_reducible refine (rows_front.calls n f _ (HF.out ▸ front_f n (by omega) a2)).mono ?_); rintro e w' ⟨rfl, ⟨nd, rfl⟩⟩)
          | ((with_reducible refine gate_builtin (b := .append) (xs := #[.tmp 10, .tmp 14]) rfl ?_); at_builtin;
             refine Kd.R_append Kd.bool (w0 := W) W.heap.size rfl (.tmp 10) (.tmp 14) 68 4 (.bool false) 1 rfl Tryd.underlying68 info_bool rfl (by decide) (by decide) _ l true [.bool true] (fun _ => True) (fun _ => False) rfl rfl rfl (fun _ hk => hk.elim) (fun _ _ => trivial) (Kd.R_drewN HI1.out.r _) (pw_below_drewN HI1.out.hb _) (below_size (pw_below_drewN HI1.out.hb _)) ?hl ?_;
             (case hl => have := HLL.out; omega);
             intro v1 w1 hq hb hg hat; have HI2 : Aside0 (TurnInv W (l ++ [true]) v1 w1) := ⟨⟨hq, hb⟩⟩; clear hq hb hg hat HI1))
        exact ⟨⟨n - f, j - f, _, by omega, by omega, by omega, by omega, rfl, rfl, HU2, HI2⟩, by show (n - f).toNat < n.toNat; omega⟩
      · have hjd : decide (f ≤ j) = false := decide_eq_false hj
        have HU2 : Aside0 ((l ++ [false]) ++ upL 256 f j = upL 256 many i) := ⟨by rw [← HU.out, HUE.out, if_neg hj]; simp⟩
        clear HUE
        go_wp2_with (
          first
          | (go_at_call 41; (with_reducible refine (rows_front.calls n f _ (HF.out ▸ front_f n (by omega) a2)).mono ?_); rintro e w' ⟨rfl, ⟨nd, rfl⟩⟩)
          | ((with_reducible refine gate_builtin (b := .append) (xs := #[.tmp 10, .tmp 14]) rfl ?_); at_builtin;
             refine Kd.R_append Kd.bool (w0 := W) W.heap.size rfl (.tmp 10) (.tmp 14) 68 4 (.bool false) 1 rfl Tryd.underlying68 info_bool rfl (by decide) (by decide) _ l false [.bool false] (fun _ => True) (fun _ => False) rfl rfl rfl (fun _ hk => hk.elim) (fun _ _ => trivial) (Kd.R_drewN HI1.out.r _) (pw_below_drewN HI1.out.hb _) (below_size (pw_below_drewN HI1.out.hb _)) ?hl ?_;
             (case hl => have := HLL.out; omega);
             intro v1 w1 hq hb hg hat; have HI2 : Aside0 (TurnInv W (l ++ [false]) v1 w1) := ⟨⟨hq, hb⟩⟩; clear hq hb hg hat HI1))
        exact ⟨⟨f, j, _, by omega, by omega, by omega, by omega, rfl, rfl, HU2, HI2⟩, by show f.toNat < n.toNat; omega⟩
    · have HUL : Aside0 (l = upL 256 many i) := ⟨by rw [← HU.out, upL_one 256 n j (by omega), List.append_nil]⟩
      have HLL : Aside0 (l.length < 1000000) := ⟨by rw [HUL.out]; have := upL_len 256 many i; omega⟩
      go_wp2_with (
        first
        | (go_at_call 59; (with_reducible refine (slices_Reverse_bool_bool.calls (l.length + 3) (fun _ => True) _ l l.reverse W _ HI1.out.hb HI1.out.r (rev_f l HLL.out)).mono ?_); rintro e w' ⟨rfl, hr, hb, _⟩; have HR : Aside0 (Kd.bool.R 4 w' W.heap.size (fun _ => True) _ (turnsL many i)) := ⟨by unfold turnsL; rw [← HUL.out]; exact Kd.R_mono hr (fun _ _ => trivial)⟩; have HB := Aside0.mk hb; clear hr hb HI1))
      go_ret
      exact ⟨_, rfl, HR.out, HB.out⟩
end Go.Proofs.YtoaimcobcgomjaaDoor.Q
/-
  Slices of digests; a digest's bytes cut out of an array.
-/
namespace Go.Proofs.YtoaimcobcgomjaaDoor.Q
open Go.RowKit Go.Proofs.YtoaimcobcgomjaaDoorW.PrintWords Go.Proofs.YtoaimcobcgomjaaDoorW.PrintLast Go.Proofs.YtoaimcobcgomjaaDoorW.PrintMore
set_option linter.unusedVariables false
set_option linter.unusedSimpArgs false

theorem addr_add (a : Addr) (m n : Nat) : (a.add m).add n = a.add (m + n) := by
  unfold Addr.add
  by_cases hm : m = 0
  · subst hm; simp
  · by_cases hn : n = 0
    · subst hn; simp [hm]
    · rw [if_neg hm, if_neg hn, if_neg (by omega)]
      simp [Nat.add_assoc]
theorem cell_below {W w : World} {a : Addr} {v : Value} (h : W.cell? a = some v) (hb : Below W.heap.size W w) : w.cell? a = some v := (hb.cell (World.block_lt_of_cell? _ _ h)).trans h
/-- A slice of digests reads as a list. -/
structure Digs (W : World) (A : Option Addr) (n c : Nat) (l : List (List Int)) : Prop where
  len : l.length = n
  le : n ≤ c
  max : c ≤ 9223372036854775807
  at_ : ∀ (j : Nat) (hj : j < l.length), ∃ ad, A = some ad ∧ ∀ i, i < 32 → W.cell? (ad.add (j * 32 + i)) = some (.int .u8 (rd l[j] (i : Int)))
  dg : ∀ d ∈ l, Dig d
theorem Digs.below {W w : World} {A : Option Addr} {n c : Nat} {l : List (List Int)} (h : Digs W A n c l) (hb : Below W.heap.size W w) : Digs w A n c l :=
  ⟨h.len, h.le, h.max, fun j hj => by
    obtain ⟨ad, e, hc⟩ := h.at_ j hj
    exact ⟨ad, e, fun i hi => cell_below (hc i hi) hb⟩, h.dg⟩
theorem Digs.side {W : World} {A : Option Addr} {n c : Nat} {l : List (List Int)} (h : Digs W A n c l) (j : Nat) (hj : j < l.length) : ∃ ad, A = some ad ∧ Bts W (some (ad.add (j * 32))) 32 32 l[j] := by
  obtain ⟨ad, e, hc⟩ := h.at_ j hj
  have hd := h.dg l[j] (List.getElem_mem hj)
  refine ⟨ad, e, ⟨hd.1, by omega, fun _ => ⟨_, rfl, fun i p hi => ⟨[.int .u8 p], rfl, rfl, fun q u hu => ?_⟩⟩⟩, Nat.le_refl _, hd.2⟩
  cases q with
  | succ q => simp at hu
  | zero =>
    simp only [List.getElem?_cons_zero, Option.some.injEq] at hu
    subst hu
    obtain ⟨hil, rfl⟩ := List.getElem?_eq_some_iff.1 hi
    show W.cell? ((ad.add (j * 32)).add (i * 1 + 0)) = _
    rw [addr_add, Nat.mul_one, Nat.add_zero, hc i (by rw [← hd.1]; exact hil)]
    simp [rd, hil]
theorem dig_bts {w : World} {g t : Nat} {d : List Int} {fr : Nat × Nat} (h : w.heap[g]? = some (.cells (arr d) t fr)) (hd : Dig d) : Bts w (some ⟨g, 0, none⟩) 32 32 d := by
  have h2 := bytes_C h (by rw [hd.1]; omega)
  rw [hd.1] at h2
  exact ⟨h2, Nat.le_refl _, hd.2⟩
theorem idx_dgs (ad : Addr) (n cap i : Nat) (hi : i < n) (W : World) : (Instr.indexAt 31 (.slice (some ad) n cap) (.int .i64 (i : Int))).run Tryd.prog W = .ok (.pointer (some (ad.add (i * 32)))) W := by
  have hel : Tryd.prog.elem 31 = 25 := by kernel_rfl
  have hs : (sizeOf 25).run Tryd.prog W = .ok 32 W := by
    obtain ⟨j, hj, h1⟩ := Option.map_eq_some_iff.1 info_dig
    simp [sizeOf, typeInfo, hj, h1]
  rw [run_indexAt_slice W 31 _ _ _ _ _ (by rw [hel]; exact Tryd.underlying31)]
  simp [hi, hel, hs, Result.andThen]
theorem idx_bool (ad : Addr) (n cap i : Nat) (hi : i < n) (W : World) : (Instr.indexAt 68 (.slice (some ad) n cap) (.int .i64 (i : Int))).run Tryd.prog W = .ok (.pointer (some (ad.add i))) W := by
  have hel : Tryd.prog.elem 68 = 4 := by kernel_rfl
  obtain ⟨j, hj, h1, h2, h3⟩ := info_parts info_bool
  rw [run_indexAt_slice W 68 _ _ _ _ _ (by rw [hel]; exact Tryd.underlying68)]
  simp [hi, hel, sizeOf, typeInfo, hj, h2, Result.andThen]
theorem sl_dig (e : Addr) (W : World) : (Instr.sliceAt 25 (.pointer (some e)) none none none).run Tryd.prog W = .ok (.slice (some e) 32 32) W := by
  have hel : Tryd.prog.elem 25 = 5 := by kernel_rfl
  have hn : Tryd.prog.arrayLen 25 = 32 := by kernel_rfl
  obtain ⟨j, hj, h1, h2, h3⟩ := info_parts info5
  rw [run_sliceAt_array_all W 25 e (by rw [hn, hel]; exact Tryd.underlying25)]
  simp [hel, hn, sizeOf, typeInfo, hj, h2, Result.andThen, slicedAt, Addr.add]
end Go.Proofs.YtoaimcobcgomjaaDoor.Q
