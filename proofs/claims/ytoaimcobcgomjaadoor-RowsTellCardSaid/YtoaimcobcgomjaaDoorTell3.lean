/- What the law reaches of these texts: RowsOne, RowsTwo, RowsList, RowsRoot, RowsSideP, RowsSideM, RowsOf, RowsBeside, RowsHalves, RegionIn, RowsMem, RowsRootW, RowsRoots (joined by wip/tools/prune.py). -/
import Derived.Test.YtoaimcobcgomjaaDoorTell2
import Derived.WalkKit
import Derived.ProofKit
import Derived.OpenShut
import Derived.Deep.Slices
import Derived.Lib.SmallJoins
import Derived.Great.BuildSlice
import Derived.RangeFuncBox
import Derived.RangeFuncLeaves
import Derived.RangeFuncCalls
import Derived.Shelf.Abstract
import Derived.OwnWalkIn
import Derived.TacticsInMore
import Derived.LoopNIn
import Derived.LoopIn
import Derived.Lib.Hide
import Derived.Maps.AppendAt
import Derived.OrdersIn
namespace Go.Proofs.YtoaimcobcgomjaaDoor.Q
open Go.RowKit Go.Proofs.YtoaimcobcgomjaaDoorW.PrintWords Go.Proofs.YtoaimcobcgomjaaDoorW.PrintLast Go.Proofs.YtoaimcobcgomjaaDoorW.PrintMore
set_option linter.unusedVariables false
/-- The last s digits of n to the base of 256, the highest first. -/
def be (n : Int) : Nat → List Int
  | 0 => []
  | s + 1 => (n / 256 ^ s % 256) :: be n s
theorem be_length (n : Int) (s : Nat) : (be n s).length = s := by
  induction s with
  | zero => rfl
  | succ s ih => simp [be, ih]
theorem be_byte (n : Int) (s : Nat) : ∀ x ∈ be n s, 0 ≤ x ∧ x < 256 := by
  induction s with
  | zero => intro x hx; cases hx
  | succ s ih =>
    intro x hx
    rcases List.mem_cons.1 hx with rfl | hx
    · exact ⟨Int.emod_nonneg _ (by decide), Int.emod_lt_of_pos _ (by decide)⟩
    · exact ih x hx
theorem set_rep (m : Nat) (v : Int) (l : List Int) : (List.replicate (m + 1) (0 : Int) ++ l).set m v = List.replicate m 0 ++ v :: l := by
  induction m with
  | zero => rfl
  | succ m ih => rw [List.replicate_succ, List.cons_append, List.set_cons_succ, ih]; rfl
theorem pow8 (i : Nat) : (2 : Int) ^ (8 * i) = 256 ^ i := by
  rw [Int.pow_mul]; rfl
theorem shr_u64 (n : Int) (i : Nat) (h : i ≤ 8) : shr .u64 n (8 * (i : Int)) = n / 256 ^ i := by
  unfold shr
  have : min ((8 : Int) * (i : Int)).toNat (IntKind.bits .u64) = 8 * i := by
    have : IntKind.bits .u64 = 64 := rfl
    omega
  rw [this, pow8]
theorem wrap_id (n : Int) (h0 : -9223372036854775808 ≤ n) (h1 : n ≤ 9223372036854775807) : wrap64 n = n := by unfold wrap64; omega
theorem wrapu_id (n : Int) (h0 : 0 ≤ n) (h1 : n < 18446744073709551616) : IntKind.u64.wrap n = n := by
  show IntKind.wrap .u64 n = n
  unfold IntKind.wrap
  simp [IntKind.signed, IntKind.bits]
  omega
theorem pos_pow (s : Nat) : (0 : Int) < 256 ^ s := Int.pow_pos (by decide)
theorem div_step (n : Int) (i : Nat) : n / 256 ^ i / 256 = n / 256 ^ (i + 1) := by
  rw [Int.pow_succ, Int.ediv_ediv_of_nonneg (Int.le_of_lt (pos_pow i))]
theorem put_l0 (n : Int) (s : Nat) (hs : s ≤ 8) (d : Nat) : ∀ (k i : Nat), i + d = s → d < k →
    num_Put.l0 k n s (List.replicate d 0 ++ be n i) s i = some (be n s, 0) := by
  induction d with
  | zero =>
    intro k i hi hk
    obtain ⟨k, rfl⟩ : ∃ m, k = m + 1 := ⟨k - 1, by omega⟩
    obtain rfl : i = s := by omega
    simp only [num_Put.l0]
    rw [if_neg (by omega)]
    simp
  | succ d ih =>
    intro k i hi hk
    obtain ⟨k, rfl⟩ : ∃ m, k = m + 1 := ⟨k - 1, by omega⟩
    have e1 : wrap64 (8 * (i : Int)) = 8 * i := wrap_id _ (by omega) (by omega)
    have e2 : wrap64 ((s : Int) - 1) = s - 1 := wrap_id _ (by omega) (by omega)
    have e3 : wrap64 ((s : Int) - 1 - i) = (d : Int) := by rw [wrap_id _ (by omega) (by omega)]; omega
    have e4 : wrap64 ((i : Int) + 1) = ((i + 1 : Nat) : Int) := by rw [wrap_id _ (by omega) (by omega)]; omega
    simp only [num_Put.l0]
    rw [if_pos (by omega), e1, e2, e3, if_pos (by omega), if_pos (by omega), if_pos (by simp [be_length]; omega), Int.toNat_natCast, set_rep, shr_u64 n i (by omega), e4]
    exact ih k (i + 1) (by omega) (by omega)
/-- A number in so many bytes, or the error. -/
def put (n s : Int) : List Int × Int :=
  if s < 1 then ([], 2) else if 8 < s then ([], 2) else if n / 256 ^ s.toNat = 0 then (be n s.toNat, 0) else ([], 4)
theorem put_f (n s : Int) (h0 : 0 ≤ n) (h1 : n < 18446744073709551616) (k : Nat) (hk : 12 ≤ k) : num_Put.f k n s = some (put n s) := by
  obtain ⟨k, rfl⟩ : ∃ m, k = m + 2 := ⟨k - 2, by omega⟩
  unfold num_Put.f put
  by_cases c1 : s < 1
  · rw [if_pos c1, if_pos c1]; simp [num_Put.j0]
  rw [if_neg c1, if_neg c1]
  by_cases c2 : 8 < s
  · rw [if_pos c2]; simp [num_Put.j0, c2]
  rw [if_neg c2]
  obtain ⟨t, rfl⟩ := Int.eq_ofNat_of_zero_le (show 0 ≤ s by omega)
  have hj1 : num_Put.j1 (k + 1) n t = some (be n t, 0) := by
    simp only [num_Put.j1]
    rw [if_pos (by omega), if_pos (by omega), Int.toNat_natCast]
    have := put_l0 n t (by omega) t k 0 (by omega) (by omega)
    simpa [be] using this
  have e1 : wrap64 (8 * (t : Int)) = 8 * t := wrap_id _ (by omega) (by omega)
  have hd : decide ((t : Int) > 8) = false := decide_eq_false (by omega)
  rw [hd, Int.toNat_natCast]
  simp only [num_Put.j0, Bool.false_eq_true, if_false]
  by_cases c3 : (t : Int) < 8
  · rw [if_pos c3, e1, if_pos (by omega), shr_u64 n t (by omega)]
    have hge : 0 ≤ n / 256 ^ t := Int.ediv_nonneg h0 (Int.le_of_lt (pos_pow t))
    by_cases c4 : n / 256 ^ t = 0
    · rw [if_pos c4, if_neg (by omega), hj1]
    · rw [if_neg c4, if_pos (by omega)]
  · rw [if_neg c3, hj1]
    obtain rfl : t = 8 := by omega
    rw [if_pos (Int.ediv_eq_zero_of_lt h0 (by simpa using h1))]
/-- What is digested: a kind, then each part behind its length in four bytes. -/
def tagB (kind : Int) (ps : List (List Int)) : List Int := [kind] ++ (ps.map fun p => be p.length 4 ++ p).flatten
theorem put4 (n : Nat) (h : n < 4294967296) (k : Nat) (hk : 12 ≤ k) : num_Put.f k n 4 = some (be n 4, 0) := by
  rw [put_f n 4 (by omega) (by omega) k hk]
  unfold put
  rw [if_neg (by omega), if_neg (by omega), if_pos (by
    show (n : Int) / 256 ^ 4 = 0
    exact Int.ediv_eq_zero_of_lt (by omega) (by omega))]
  rfl
theorem rd_L1_at (ps : List (List Int)) (j : Nat) (h : j < ps.length) : rd_L1 ps (j : Int) = ps[j] := by
  unfold rd_L1
  simp [h]
theorem tag_l0 (ps : List (List Int)) (hl : ∀ p ∈ ps, p.length < 4294967296) (hs : (ps.map fun p => be p.length 4 ++ p).flatten.length < 100000000000) (hn : ps.length < 100000000000) (d : Nat) : ∀ (k j : Nat) (out : List Int), j + d = ps.length → d + 13 < k → out.length + ((ps.drop j).map fun p => be p.length 4 ++ p).flatten.length < 100000000001 →
    tag_Bytes.l0 k out ps (ps.length : Int) (j : Int) = some (out ++ ((ps.drop j).map fun p => be p.length 4 ++ p).flatten) := by
  induction d with
  | zero =>
    intro k j out hj hk ho
    obtain ⟨k, rfl⟩ : ∃ m, k = m + 1 := ⟨k - 1, by omega⟩
    simp only [tag_Bytes.l0]
    rw [if_neg (by omega), List.drop_eq_nil_of_le (by omega)]
    simp
  | succ d ih =>
    intro k j out hj hk ho
    obtain ⟨k, rfl⟩ : ∃ m, k = m + 1 := ⟨k - 1, by omega⟩
    have hjl : j < ps.length := by omega
    obtain ⟨p, hp⟩ : ∃ p, ps[j] = p := ⟨_, rfl⟩
    have hpl : p.length < 4294967296 := hl p (by rw [← hp]; exact List.getElem_mem hjl)
    have hd : ps.drop j = p :: ps.drop (j + 1) := by rw [← hp]; exact List.drop_eq_getElem_cons hjl
    have e4 : wrap64 ((j : Int) + 1) = ((j + 1 : Nat) : Int) := by rw [wrap_id _ (by omega) (by omega)]; omega
    have em : ((p.length : Int)) % 4294967296 = (p.length : Int) := by omega
    rw [hd] at ho ⊢
    simp only [List.map_cons, List.flatten_cons, List.length_append, be_length] at ho ⊢
    simp only [tag_Bytes.l0]
    rw [if_pos (by omega), if_pos (by omega), if_pos (by omega), rd_L1_at ps j hjl, hp, em, put4 p.length hpl k (by omega)]
    simp only [Option.bind_some]
    rw [if_pos (by rw [be_length]; omega), if_pos (by rw [List.length_append, be_length]; omega), e4]
    rw [ih k (j + 1) (out ++ be p.length 4 ++ p) (by omega) (by omega) (by rw [List.length_append, List.length_append, be_length]; omega)]
    simp [List.append_assoc]
theorem tag_f (kind : Int) (ps : List (List Int)) (hl : ∀ p ∈ ps, p.length < 4294967296) (hs : (ps.map fun p => be p.length 4 ++ p).flatten.length < 100000000000) (hn : ps.length < 100000000000) : tag_Bytes.f (ps.length + 14) kind ps = some (tagB kind ps) := by
  unfold tag_Bytes.f
  have := tag_l0 ps hl hs hn ps.length (ps.length + 14) 0 [kind] (by omega) (by omega) (by rw [List.drop_zero]; simp only [List.length_cons, List.length_nil]; omega)
  simpa [tagB] using this
/-- The digest of a kind and parts. -/
def tagOf (kind : Int) (ps : List (List Int)) : List Int := shaOf (tagB kind ps)
end Go.Proofs.YtoaimcobcgomjaaDoor.Q
namespace Go.Proofs.YtoaimcobcgomjaaDoor.Q
open Go.RowKit Go.Proofs.YtoaimcobcgomjaaDoorW.PrintWords Go.Proofs.YtoaimcobcgomjaaDoorW.PrintLast Go.Proofs.YtoaimcobcgomjaaDoorW.PrintMore
set_option linter.unusedVariables false
set_option linter.unusedSimpArgs false
theorem dig_l0 (n : Int) (h0 : 0 ≤ n) (h1 : n < 18446744073709551616) (s : Nat) (hs : s ≤ 8) (d : Nat) : ∀ (k i : Nat), i + d = s → d < k →
    beadrollref01_Digits.l0 k (n / 256 ^ i) (List.replicate d 0 ++ be n i) ((d : Int) - 1) = some (be n s, (n / 256 ^ s == 0)) := by
  induction d with
  | zero =>
    intro k i hi hk
    obtain ⟨k, rfl⟩ : ∃ m, k = m + 1 := ⟨k - 1, by omega⟩
    obtain rfl : i = s := by omega
    simp only [beadrollref01_Digits.l0]
    rw [if_neg (by omega)]
    simp
  | succ d ih =>
    intro k i hi hk
    obtain ⟨k, rfl⟩ : ∃ m, k = m + 1 := ⟨k - 1, by omega⟩
    have hge : 0 ≤ n / 256 ^ i := Int.ediv_nonneg h0 (Int.le_of_lt (pos_pow i))
    have hle : n / 256 ^ i ≤ n := Int.ediv_le_self _ h0
    have e0 : ((d + 1 : Nat) : Int) - 1 = (d : Int) := by omega
    have e4 : wrap64 ((d : Int) - 1) = (d : Int) - 1 := wrap_id _ (by omega) (by omega)
    have e5 : IntKind.u64.wrap (Int.tdiv (n / 256 ^ i) 256) = n / 256 ^ (i + 1) := by
      rw [Int.tdiv_eq_ediv_of_nonneg hge, div_step, wrapu_id]
      · exact Int.ediv_nonneg h0 (Int.le_of_lt (pos_pow _))
      · have := Int.ediv_le_self (256 ^ (i + 1)) h0; omega
    have e6 : Int.tmod (n / 256 ^ i) 256 % 256 = n / 256 ^ i % 256 := by
      rw [Int.tmod_eq_emod_of_nonneg hge, Int.emod_emod]
    simp only [beadrollref01_Digits.l0]
    rw [e0, if_pos (by omega), if_pos (by omega), if_pos (by simp [be_length]; omega), Int.toNat_natCast, set_rep, e4, e5, e6]
    exact ih k (i + 1) (by omega) (by omega)
theorem dig_f (n : Int) (h0 : 0 ≤ n) (h1 : n < 18446744073709551616) (s : Nat) (hs : s ≤ 8) (k : Nat) (hk : 10 ≤ k) : beadrollref01_Digits.f k n s = some (be n s, (n / 256 ^ s == 0)) := by
  unfold beadrollref01_Digits.f
  rw [if_pos (by omega), if_pos (by omega), Int.toNat_natCast, wrap_id _ (by omega) (by omega)]
  have := dig_l0 n h0 h1 s hs s k 0 (by omega) (by omega)
  simpa [be] using this
theorem rbytes_l0 (ps : List (List Int)) (hl : ∀ p ∈ ps, p.length < 4294967296) (hn : ps.length < 100000000000) (d : Nat) : ∀ (k j : Nat) (out : List Int), j + d = ps.length → d + 13 < k → out.length + ((ps.drop j).map fun p => be p.length 4 ++ p).flatten.length < 100000000001 →
    beadrollref03_Bytes.l0 k ps out (j : Int) = some (out ++ ((ps.drop j).map fun p => be p.length 4 ++ p).flatten) := by
  induction d with
  | zero =>
    intro k j out hj hk ho
    obtain ⟨k, rfl⟩ : ∃ m, k = m + 1 := ⟨k - 1, by omega⟩
    simp only [beadrollref03_Bytes.l0]
    rw [if_neg (by omega), List.drop_eq_nil_of_le (by omega)]
    simp
  | succ d ih =>
    intro k j out hj hk ho
    obtain ⟨k, rfl⟩ : ∃ m, k = m + 1 := ⟨k - 1, by omega⟩
    have hjl : j < ps.length := by omega
    obtain ⟨p, hp⟩ : ∃ p, ps[j] = p := ⟨_, rfl⟩
    have hpl : p.length < 4294967296 := hl p (by rw [← hp]; exact List.getElem_mem hjl)
    have hd : ps.drop j = p :: ps.drop (j + 1) := by rw [← hp]; exact List.drop_eq_getElem_cons hjl
    have e4 : wrap64 ((j : Int) + 1) = ((j + 1 : Nat) : Int) := by rw [wrap_id _ (by omega) (by omega)]; omega
    have em : Int.tmod (IntKind.u64.wrap (p.length : Int)) 4294967296 = (p.length : Int) := by
      rw [wrapu_id _ (by omega) (by omega), Int.tmod_eq_emod_of_nonneg (by omega)]
      omega
    rw [hd] at ho ⊢
    simp only [List.map_cons, List.flatten_cons, List.length_append, be_length] at ho ⊢
    simp only [beadrollref03_Bytes.l0]
    rw [if_pos (by omega), if_pos (by omega), rd_L1_at ps j hjl, hp, em, show beadrollref01_Digits.f k (p.length : Int) 4 = _ from dig_f (p.length : Int) (by omega) (by omega) 4 (by omega) k (by omega)]
    simp only [Option.bind_some]
    rw [if_pos (by rw [be_length]; omega), if_pos (by rw [List.length_append, be_length]; omega), e4]
    rw [ih k (j + 1) (out ++ be p.length 4 ++ p) (by omega) (by omega) (by rw [List.length_append, List.length_append, be_length]; omega)]
    simp [List.append_assoc]
theorem rbytes_f (kind : Int) (ps : List (List Int)) (hl : ∀ p ∈ ps, p.length < 4294967296) (hs : (ps.map fun p => be p.length 4 ++ p).flatten.length < 100000000000) (hn : ps.length < 100000000000) : beadrollref03_Bytes.f (ps.length + 14) kind ps = some (tagB kind ps) := by
  unfold beadrollref03_Bytes.f
  have := rbytes_l0 ps hl hn ps.length (ps.length + 14) 0 [kind] (by omega) (by omega) (by rw [List.drop_zero]; simp only [List.length_cons, List.length_nil]; omega)
  simpa [tagB] using this
theorem parts_len (ps : List (List Int)) : (ps.map fun p => be p.length 4 ++ p).flatten.length = 4 * ps.length + ps.flatten.length := by
  induction ps with
  | nil => rfl
  | cons p ps ih => simp only [List.map_cons, List.flatten_cons, List.length_append, List.length_cons, be_length, ih]; omega
theorem part_le (ps : List (List Int)) : ∀ p ∈ ps, p.length ≤ ps.flatten.length := by
  induction ps with
  | nil => intro p h; cases h
  | cons q ps ih =>
    intro p hp
    rw [List.flatten_cons, List.length_append]
    rcases List.mem_cons.1 hp with rfl | hp
    · omega
    · have := ih p hp; omega
/-- Parts that are bytes, not too many. -/
structure Prts (ps : List (List Int)) : Prop where
  by_ : ∀ p ∈ ps, ∀ x ∈ p, 0 ≤ x ∧ x < 256
  len : ps.flatten.length < 1000000000
  many : ps.length < 1000000000
theorem Prts.small {ps : List (List Int)} (h : Prts ps) : ∀ p ∈ ps, p.length < 4294967296 := fun p hp => by have := part_le ps p hp; have := h.len; omega
theorem Prts.sum {ps : List (List Int)} (h : Prts ps) : (ps.map fun p => be p.length 4 ++ p).flatten.length < 100000000000 := by rw [parts_len]; have := h.len; have := h.many; omega
theorem Prts.tag {ps : List (List Int)} (h : Prts ps) (kind : Int) (hk : 0 ≤ kind ∧ kind < 256) : ∀ x ∈ tagB kind ps, 0 ≤ x ∧ x < 256 := by
  intro x hx
  unfold tagB at hx
  rcases List.mem_append.1 hx with hx | hx
  · rw [List.mem_singleton.1 hx]; exact hk
  · obtain ⟨q, hq, hx⟩ := List.mem_flatten.1 hx
    obtain ⟨p, hp, rfl⟩ := List.mem_map.1 hq
    exact (List.mem_append.1 hx).elim (be_byte _ _ x) (h.by_ p hp x)
theorem Prts.tlen {ps : List (List Int)} (h : Prts ps) (kind : Int) : (tagB kind ps).length < 10000000000 := by
  unfold tagB
  rw [List.length_append, parts_len, List.length_singleton]
  have := h.len
  have := h.many
  omega
theorem tagOf_dig (kind : Int) (ps : List (List Int)) : Dig (tagOf kind ps) := dig_sha _
theorem tagOf_len (kind : Int) (ps : List (List Int)) : (tagOf kind ps).length = 32 := sha_len _
theorem R_bts {w : World} {base : Nat} {ok : Nat → Prop} {v : Value} {l : List Int} (h : (Kd.int .u8).R 5 w base ok v l) (hb : ∀ x ∈ l, 0 ≤ x ∧ x < 256) : ∃ A n c, v = .slice A n c ∧ Bts w A n c l := by
  have hQ := Kd.Q_of_R h
  obtain ⟨A, n, c, rfl, _⟩ := Q_form' hQ
  exact ⟨A, n, c, rfl, Q_bts hQ hb⟩
set_option maxHeartbeats 4000000 in
set_option maxRecDepth 100000 in
theorem tagOf_walk (kind : Int) (hk : 0 ≤ kind ∧ kind < 256) (A : Option Addr) (n c : Nat) (ps : List (List Int)) (W : World) (hR : (Kd.slice 5 (Kd.int .u8)).C W A n ps) (hc : n ≤ c) (hp : Prts ps) (hkt : KT W) :
    Calls Tryd.prog 44 #[.int .u8 kind, .slice A n c] W fun e W' => e = .returned (.agg (arr (tagOf kind ps))) ∧ Below W.heap.size W W' := by
  have HR := Aside0.mk hR
  have HC := Aside0.mk hc
  have HP := Aside0.mk hp
  have hn : ps.length = n := hR.1
  subst hn
  clear hR hc hp
  have HKD := Aside0.mk hk
  have HKT := Aside0.mk hkt
  clear hk hkt
  have HB := Aside0.mk (Below.refl W.heap.size W)
  go_enter Tryd.func44, Tryd.ntmps44
  go_wp2_with (
    first
    | ((with_reducible refine gate_dst (N := 4) rfl ?_); refine box_event ?hg (N := 4) ?hd (cs := arr zeros32) (t := 25) ?hr ?_; (case hd => rfl); (case hg => rfl); (case hr => first | (go_simp; done) | (go_simp; rfl));
       intro g4 hg w1 hbox hb; have BK4 := Aside0.mk hbox; have G4 := Aside0.mk (show W.heap.size ≤ g4 by rw [hg]; exact below_size HB.out); have HB1 := Aside0.mk (below_step HB.out hb); clear HB ; have HB := HB1; clear HB1 ; clear hb hbox hg)
    | (go_at_call 60; (with_reducible refine (tag_Bytes.calls (ps.length + 14) kind A c ps (tagB kind ps) _ (Kd.C_below HR.out HB.out) HC.out (tag_f kind ps HP.out.small HP.out.sum (by have := HP.out.many; omega))).mono ?_); rintro e w2 ⟨v, rfl, hq, hb⟩; obtain ⟨A2, n2, c2, rfl, hbt⟩ := R_bts hq (HP.out.tag kind HKD.out); have B2 := Aside0.mk hbt; have n1 := Aside0.mk (blk_below BK4.out hb); have HB1 := Aside0.mk (below_step HB.out hb); clear HB; have HB := HB1; clear HB1; clear BK4 hq hb hbt; have BK4 := n1; clear n1)
    | (go_at_call 13; (with_reducible refine (of_1 _ c2 A2 (tagB kind ps) n2 22 1 _ (blk_new _ _) (B2.out.alloc _) (by have := HP.out.tlen kind; omega) (HKT.out.below HKT.out.lt (below_alloc HB.out _))).mono ?_); rintro e w3 ⟨rfl, hb⟩; rw [show shaOf (tagB kind ps) = tagOf kind ps from rfl]; have n1 := Aside0.mk (blk_below (blk_alloc BK4.out _) hb); have HB1 := Aside0.mk (below_step (below_alloc HB.out _) hb); clear HB; have HB := HB1; clear HB1; clear BK4 hb; have BK4 := n1; clear n1)
    | ((with_reducible refine gate_store (p := 4) rfl ?_); refine dig_store rfl (.tmp 4) (.tmp 9) rfl g4 (tagOf kind ps) zeros32 rfl rfl BK4.out (tagOf_len _ _) rfl ?_; intro w3 bk hoth hbel; have nn := Aside0.mk bk; have HB1 := Aside0.mk (hbel _ _ HB.out G4.out); clear HB ; have HB := HB1; clear HB1 ; clear BK4; have BK4 := nn; clear nn bk hoth hbel))
  refine bodyPost_ret (results_c rfl _ _ g4 25 (arr (tagOf kind ps)) (0, 0) _ rfl BK4.out Tryd.underlying25 rfl (by rw [arr_size, tagOf_len]; exact info_dig)) rfl ?_
  exact ⟨rfl, HB.out⟩
set_option maxHeartbeats 4000000 in
set_option maxRecDepth 100000 in
theorem tagNone_walk (W : World) (hkt : KT W) :
    Calls Tryd.prog 45 #[] W fun e W' => e = .returned (.agg (arr (tagOf 0 []))) ∧ Below W.heap.size W W' := by
  have HKT := Aside0.mk hkt
  clear hkt
  have HB := Aside0.mk (Below.refl W.heap.size W)
  go_enter Tryd.func45, Tryd.ntmps45
  go_wp2_with (
    first
    | ((with_reducible refine gate_dst (N := 0) rfl ?_); refine box_event ?hg (N := 0) ?hd (cs := arr zeros32) (t := 25) ?hr ?_; (case hd => rfl); (case hg => rfl); (case hr => first | (go_simp; done) | (go_simp; rfl));
       intro g0 hg w1 hbox hb; have BK0 := Aside0.mk hbox; have G0 := Aside0.mk (show W.heap.size ≤ g0 by rw [hg]; exact below_size HB.out); have HB1 := Aside0.mk (below_step HB.out hb); clear HB ; have HB := HB1; clear HB1 ; clear hb hbox hg)
    | (go_at_call 44; (with_reducible refine (tagOf_walk 0 (by decide) none 0 0 [] _ (none_C _) (Nat.le_refl _) ⟨by simp, by simp, by simp⟩ (HKT.out.below HKT.out.lt HB.out)).mono ?_); rintro e w3 ⟨rfl, hb⟩; have n1 := Aside0.mk (blk_below BK0.out hb); have HB1 := Aside0.mk (below_step HB.out hb); clear HB; have HB := HB1; clear HB1; clear BK0 hb; have BK0 := n1; clear n1)
    | ((with_reducible refine gate_store (p := 0) rfl ?_); refine dig_store rfl (.tmp 0) (.tmp 1) rfl g0 (tagOf 0 []) zeros32 rfl rfl BK0.out (tagOf_len _ _) rfl ?_; intro w3 bk hoth hbel; have nn := Aside0.mk bk; have HB1 := Aside0.mk (hbel _ _ HB.out G0.out); clear HB ; have HB := HB1; clear HB1 ; clear BK0; have BK0 := nn; clear nn bk hoth hbel))
  refine bodyPost_ret (results_c rfl _ _ g0 25 (arr (tagOf 0 [])) (0, 0) _ rfl BK0.out Tryd.underlying25 rfl (by rw [arr_size, tagOf_len]; exact info_dig)) rfl ?_
  exact ⟨rfl, HB.out⟩
set_option maxHeartbeats 4000000 in
set_option maxRecDepth 100000 in
theorem rOf_walk (kind : Int) (hk : 0 ≤ kind ∧ kind < 256) (A : Option Addr) (n c : Nat) (ps : List (List Int)) (W : World) (hR : (Kd.slice 5 (Kd.int .u8)).C W A n ps) (hc : n ≤ c) (hp : Prts ps) :
    Calls Tryd.prog 75 #[.int .u8 kind, .slice A n c] W fun e W' => e = .returned (.agg (arr (tagOf kind ps))) ∧ Below W.heap.size W W' := by
  have HR := Aside0.mk hR
  have HC := Aside0.mk hc
  have HP := Aside0.mk hp
  have hn : ps.length = n := hR.1
  subst hn
  clear hR hc hp
  have HKD := Aside0.mk hk
  clear hk
  have HB := Aside0.mk (Below.refl W.heap.size W)
  go_enter Tryd.func75, Tryd.ntmps75
  go_wp2_with (
    first
    | ((with_reducible refine gate_dst (N := 4) rfl ?_); refine box_event ?hg (N := 4) ?hd (cs := arr zeros32) (t := 25) ?hr ?_; (case hd => rfl); (case hg => rfl); (case hr => first | (go_simp; done) | (go_simp; rfl));
       intro g4 hg w1 hbox hb; have BK4 := Aside0.mk hbox; have G4 := Aside0.mk (show W.heap.size ≤ g4 by rw [hg]; exact below_size HB.out); have HB1 := Aside0.mk (below_step HB.out hb); clear HB ; have HB := HB1; clear HB1 ; clear hb hbox hg)
    | (go_at_call 76; (with_reducible refine (beadrollref03_Bytes.calls (ps.length + 14) kind A c ps (tagB kind ps) _ (Kd.C_below HR.out HB.out) HC.out (rbytes_f kind ps HP.out.small HP.out.sum (by have := HP.out.many; omega))).mono ?_); rintro e w2 ⟨v, rfl, hq, hb⟩; obtain ⟨A2, n2, c2, rfl, hbt⟩ := R_bts hq (HP.out.tag kind HKD.out); have B2 := Aside0.mk hbt; have n1 := Aside0.mk (blk_below BK4.out hb); have HB1 := Aside0.mk (below_step HB.out hb); clear HB; have HB := HB1; clear HB1; clear BK4 hq hb hbt; have BK4 := n1; clear n1)
    | (go_at_call 14; (with_reducible refine (sum_walk A2 n2 c2 (tagB kind ps) _ B2.out (by have := HP.out.tlen kind; omega)).mono ?_); rintro e w3 ⟨rfl, hb⟩; rw [show shaOf (tagB kind ps) = tagOf kind ps from rfl]; have n1 := Aside0.mk (blk_below BK4.out hb); have HB1 := Aside0.mk (below_step HB.out hb); clear HB; have HB := HB1; clear HB1; clear BK4 hb; have BK4 := n1; clear n1)
    | ((with_reducible refine gate_store (p := 4) rfl ?_); refine dig_store rfl (.tmp 4) (.tmp 8) rfl g4 (tagOf kind ps) zeros32 rfl rfl BK4.out (tagOf_len _ _) rfl ?_; intro w3 bk hoth hbel; have nn := Aside0.mk bk; have HB1 := Aside0.mk (hbel _ _ HB.out G4.out); clear HB ; have HB := HB1; clear HB1 ; clear BK4; have BK4 := nn; clear nn bk hoth hbel))
  refine bodyPost_ret (results_c rfl _ _ g4 25 (arr (tagOf kind ps)) (0, 0) _ rfl BK4.out Tryd.underlying25 rfl (by rw [arr_size, tagOf_len]; exact info_dig)) rfl ?_
  exact ⟨rfl, HB.out⟩
theorem parts1_C {w : World} {g t c n : Nat} {A : Option Addr} {p : List Int} (h : w.heap[g]? = some (.cells #[.slice A n c] t (0, 0))) (b : Bts w A n c p) : (Kd.slice 5 (Kd.int .u8)).C w (some ⟨g, 0, none⟩) 1 [p] := by
  have e1 := b.len
  subst e1
  refine parts_C h (by simp) fun j q hj => ?_
  match j, hj with
  | 0, hj => exact ⟨A, c, by simp at hj; subst hj; rfl, by simp at hj; subst hj; exact b.le, by simp at hj; subst hj; exact b.rd_⟩
  | j + 1, hj => simp at hj
theorem parts2_C {w : World} {g t c1 n1 c2 n2 : Nat} {A1 A2 : Option Addr} {p1 p2 : List Int} (h : w.heap[g]? = some (.cells #[.slice A1 n1 c1, .slice A2 n2 c2] t (0, 0))) (b1 : Bts w A1 n1 c1 p1) (b2 : Bts w A2 n2 c2 p2) : (Kd.slice 5 (Kd.int .u8)).C w (some ⟨g, 0, none⟩) 2 [p1, p2] := by
  have e1 := b1.len
  have e2 := b2.len
  subst e1 e2
  refine parts_C h (by simp) fun j q hj => ?_
  match j, hj with
  | 0, hj => exact ⟨A1, c1, by simp at hj; subst hj; rfl, by simp at hj; subst hj; exact b1.le, by simp at hj; subst hj; exact b1.rd_⟩
  | 1, hj => exact ⟨A2, c2, by simp at hj; subst hj; rfl, by simp at hj; subst hj; exact b2.le, by simp at hj; subst hj; exact b2.rd_⟩
  | j + 2, hj => simp at hj
theorem prts1 {p : List Int} (hb : ∀ x ∈ p, 0 ≤ x ∧ x < 256) (hl : p.length < 1000000) : Prts [p] := ⟨by simpa using hb, by simp; omega, by simp⟩
theorem prts2 {p q : List Int} (hb : ∀ x ∈ p, 0 ≤ x ∧ x < 256) (hb2 : ∀ x ∈ q, 0 ≤ x ∧ x < 256) (hl : p.length < 1000000) (hl2 : q.length < 1000000) : Prts [p, q] := ⟨by simpa using ⟨hb, hb2⟩, by simp; omega, by simp⟩
/-- tag.Of of one part, of two. -/
theorem tag1 (kind : Int) (hk : 0 ≤ kind ∧ kind < 256) (g cap t c n : Nat) (A : Option Addr) (p : List Int) (W : World) (h : W.heap[g]? = some (.cells #[.slice A n c] t (0, 0))) (b : Bts W A n c p) (hcap : 1 ≤ cap) (hl : p.length < 1000000) (hkt : KT W) :
    Calls Tryd.prog 44 #[.int .u8 kind, .slice (some ⟨g, 0, none⟩) 1 cap] W fun e W' => e = .returned (.agg (arr (tagOf kind [p]))) ∧ Below W.heap.size W W' := tagOf_walk kind hk _ 1 cap [p] W (parts1_C h b) hcap (prts1 b.by_ hl) hkt
set_option maxHeartbeats 4000000 in
set_option maxRecDepth 100000 in
theorem rOne_walk (kind : Int) (hk : 0 ≤ kind ∧ kind < 256) (A : Option Addr) (n c : Nat) (p : List Int) (W : World) (b : Bts W A n c p) (hl : p.length < 1000000) :
    Calls Tryd.prog 63 #[.int .u8 kind, .slice A n c] W fun e W' => e = .returned (.agg (arr (tagOf kind [p]))) ∧ Below W.heap.size W W' := by
  have HKD := Aside0.mk hk
  have BB := Aside0.mk b
  have HL := Aside0.mk hl
  clear hk b hl
  have HB := Aside0.mk (Below.refl W.heap.size W)
  go_enter Tryd.func63, Tryd.ntmps63
  go_wp2_with (
    first
    | ((with_reducible refine gate_dst (N := 4) rfl ?_); refine box_event ?hg (N := 4) ?hd (cs := arr zeros32) (t := 25) ?hr ?_; (case hd => rfl); (case hg => rfl); (case hr => first | (go_simp; done) | (go_simp; rfl));
       intro g4 hg w1 hbox hb; have BK4 := Aside0.mk hbox; have G4 := Aside0.mk (show W.heap.size ≤ g4 by rw [hg]; exact below_size HB.out); have HB1 := Aside0.mk (below_step HB.out hb); clear HB ; have HB := HB1; clear HB1 ; clear hb hbox hg)
    | (go_at_call 75; (with_reducible refine (rOf_walk kind HKD.out _ 1 1 [p] _ (parts1_C (blk_new _ _) ((BB.out.below HB.out).alloc _)) (Nat.le_refl _) (prts1 BB.out.by_ HL.out)).mono ?_); rintro e w3 ⟨rfl, hb⟩; have n1 := Aside0.mk (blk_below (blk_alloc BK4.out _) hb); have HB1 := Aside0.mk (below_step (below_alloc HB.out _) hb); clear HB; have HB := HB1; clear HB1; clear BK4 hb; have BK4 := n1; clear n1)
    | ((with_reducible refine gate_store (p := 4) rfl ?_); refine dig_store rfl (.tmp 4) (.tmp 8) rfl g4 (tagOf kind [p]) zeros32 rfl rfl BK4.out (tagOf_len _ _) rfl ?_; intro w3 bk hoth hbel; have nn := Aside0.mk bk; have HB1 := Aside0.mk (hbel _ _ HB.out G4.out); clear HB ; have HB := HB1; clear HB1 ; clear BK4; have BK4 := nn; clear nn bk hoth hbel))
  refine bodyPost_ret (results_c rfl _ _ g4 25 (arr (tagOf kind [p])) (0, 0) _ rfl BK4.out Tryd.underlying25 rfl (by rw [arr_size, tagOf_len]; exact info_dig)) rfl ?_
  exact ⟨rfl, HB.out⟩
set_option maxHeartbeats 4000000 in
set_option maxRecDepth 100000 in
theorem rTwo_walk (kind : Int) (hk : 0 ≤ kind ∧ kind < 256) (A1 A2 : Option Addr) (n1 c1 n2 c2 : Nat) (p1 p2 : List Int) (W : World) (b1 : Bts W A1 n1 c1 p1) (b2 : Bts W A2 n2 c2 p2) (hl1 : p1.length < 1000000) (hl2 : p2.length < 1000000) :
    Calls Tryd.prog 65 #[.int .u8 kind, .slice A1 n1 c1, .slice A2 n2 c2] W fun e W' => e = .returned (.agg (arr (tagOf kind [p1, p2]))) ∧ Below W.heap.size W W' := by
  have HKD := Aside0.mk hk
  have B1 := Aside0.mk b1
  have B2 := Aside0.mk b2
  have HL1 := Aside0.mk hl1
  have HL2 := Aside0.mk hl2
  clear hk b1 b2 hl1 hl2
  have HB := Aside0.mk (Below.refl W.heap.size W)
  go_enter Tryd.func65, Tryd.ntmps65
  go_wp2_with (
    first
    | ((with_reducible refine gate_dst (N := 6) rfl ?_); refine box_event ?hg (N := 6) ?hd (cs := arr zeros32) (t := 25) ?hr ?_; (case hd => rfl); (case hg => rfl); (case hr => first | (go_simp; done) | (go_simp; rfl));
       intro g6 hg w1 hbox hb; have BK6 := Aside0.mk hbox; have G6 := Aside0.mk (show W.heap.size ≤ g6 by rw [hg]; exact below_size HB.out); have HB1 := Aside0.mk (below_step HB.out hb); clear HB ; have HB := HB1; clear HB1 ; clear hb hbox hg)
    | (go_at_call 75; (with_reducible refine (rOf_walk kind HKD.out _ 2 2 [p1, p2] _ (parts2_C (blk_new _ _) ((B1.out.below HB.out).alloc _) ((B2.out.below HB.out).alloc _)) (Nat.le_refl _) (prts2 B1.out.by_ B2.out.by_ HL1.out HL2.out)).mono ?_); rintro e w3 ⟨rfl, hb⟩; have n1 := Aside0.mk (blk_below (blk_alloc BK6.out _) hb); have HB1 := Aside0.mk (below_step (below_alloc HB.out _) hb); clear HB; have HB := HB1; clear HB1; clear BK6 hb; have BK6 := n1; clear n1)
    | ((with_reducible refine gate_store (p := 6) rfl ?_); refine dig_store rfl (.tmp 6) (.tmp 11) rfl g6 (tagOf kind [p1, p2]) zeros32 rfl rfl BK6.out (tagOf_len _ _) rfl ?_; intro w3 bk hoth hbel; have nn := Aside0.mk bk; have HB1 := Aside0.mk (hbel _ _ HB.out G6.out); clear HB ; have HB := HB1; clear HB1 ; clear BK6; have BK6 := nn; clear nn bk hoth hbel))
  refine bodyPost_ret (results_c rfl _ _ g6 25 (arr (tagOf kind [p1, p2])) (0, 0) _ rfl BK6.out Tryd.underlying25 rfl (by rw [arr_size, tagOf_len]; exact info_dig)) rfl ?_
  exact ⟨rfl, HB.out⟩
set_option maxHeartbeats 4000000 in
set_option maxRecDepth 100000 in
theorem rNone_walk (W : World) :
    Calls Tryd.prog 66 #[] W fun e W' => e = .returned (.agg (arr (tagOf 0 []))) ∧ Below W.heap.size W W' := by

  have HB := Aside0.mk (Below.refl W.heap.size W)
  go_enter Tryd.func66, Tryd.ntmps66
  go_wp2_with (
    first
    | ((with_reducible refine gate_dst (N := 0) rfl ?_); refine box_event ?hg (N := 0) ?hd (cs := arr zeros32) (t := 25) ?hr ?_; (case hd => rfl); (case hg => rfl); (case hr => first | (go_simp; done) | (go_simp; rfl));
       intro g0 hg w1 hbox hb; have BK0 := Aside0.mk hbox; have G0 := Aside0.mk (show W.heap.size ≤ g0 by rw [hg]; exact below_size HB.out); have HB1 := Aside0.mk (below_step HB.out hb); clear HB ; have HB := HB1; clear HB1 ; clear hb hbox hg)
    | (go_at_call 75; (with_reducible refine (rOf_walk 0 (by decide) none 0 0 [] _ (none_C _) (Nat.le_refl _) ⟨by simp, by simp, by simp⟩).mono ?_); rintro e w3 ⟨rfl, hb⟩; have n1 := Aside0.mk (blk_below BK0.out hb); have HB1 := Aside0.mk (below_step HB.out hb); clear HB; have HB := HB1; clear HB1; clear BK0 hb; have BK0 := n1; clear n1)
    | ((with_reducible refine gate_store (p := 0) rfl ?_); refine dig_store rfl (.tmp 0) (.tmp 1) rfl g0 (tagOf 0 []) zeros32 rfl rfl BK0.out (tagOf_len _ _) rfl ?_; intro w3 bk hoth hbel; have nn := Aside0.mk bk; have HB1 := Aside0.mk (hbel _ _ HB.out G0.out); clear HB ; have HB := HB1; clear HB1 ; clear BK0; have BK0 := nn; clear nn bk hoth hbel))
  refine bodyPost_ret (results_c rfl _ _ g0 25 (arr (tagOf 0 [])) (0, 0) _ rfl BK0.out Tryd.underlying25 rfl (by rw [arr_size, tagOf_len]; exact info_dig)) rfl ?_
  exact ⟨rfl, HB.out⟩
end Go.Proofs.YtoaimcobcgomjaaDoor.Q
namespace Go.Proofs.YtoaimcobcgomjaaDoor.Q
open Go.RowKit Go.Proofs.YtoaimcobcgomjaaDoorW.PrintWords Go.Proofs.YtoaimcobcgomjaaDoorW.PrintLast Go.Proofs.YtoaimcobcgomjaaDoorW.PrintMore
set_option linter.unusedVariables false
/-- How many of so many stand in the first part. -/
def frontZ (n : Int) : Int := 2 ^ (lenZ (n - 1) - 1).toNat
theorem frontZ_range (n : Int) (h0 : 2 ≤ n) (h1 : n ≤ 256) : 1 ≤ frontZ n ∧ frontZ n < n ∧ n ≤ 2 * frontZ n := by
  have : ∀ m : Fin 257, 2 ≤ ((m.1 : Nat) : Int) → 1 ≤ frontZ ((m.1 : Nat) : Int) ∧ frontZ ((m.1 : Nat) : Int) < ((m.1 : Nat) : Int) ∧ ((m.1 : Nat) : Int) ≤ 2 * frontZ ((m.1 : Nat) : Int) := by decide +kernel
  obtain ⟨m, rfl⟩ := Int.eq_ofNat_of_zero_le (show 0 ≤ n by omega)
  exact this ⟨m, by omega⟩ h0
theorem front_f (n : Int) (h0 : 2 ≤ n) (h1 : n ≤ 256) : rows_front.f n = some (frontZ n) := by
  have : ∀ m : Fin 257, 2 ≤ ((m.1 : Nat) : Int) → rows_front.f ((m.1 : Nat) : Int) = some (frontZ ((m.1 : Nat) : Int)) := by decide +kernel
  obtain ⟨m, rfl⟩ := Int.eq_ofNat_of_zero_le (show 0 ≤ n by omega)
  exact this ⟨m, by omega⟩ h0
theorem first_f (n : Int) (h0 : 2 ≤ n) (h1 : n ≤ 256) : beadrollref13_First.f 12 n = some (frontZ n) := by
  have : ∀ m : Fin 257, 2 ≤ ((m.1 : Nat) : Int) → beadrollref13_First.f 12 ((m.1 : Nat) : Int) = some (frontZ ((m.1 : Nat) : Int)) := by decide +kernel
  obtain ⟨m, rfl⟩ := Int.eq_ofNat_of_zero_le (show 0 ≤ n by omega)
  exact this ⟨m, by omega⟩ h0
/-- Whether in the right part, from the root on; k: how many steps at most. -/
def upL : Nat → Int → Int → List Bool
  | 0, _, _ => []
  | k + 1, n, i => if n ≤ 1 then [] else if frontZ n ≤ i then true :: upL k (n - frontZ n) (i - frontZ n) else false :: upL k (frontZ n) i
theorem upL_fuel (k : Nat) : ∀ (m : Nat) (n i : Int), n ≤ 256 → n ≤ (k : Int) + 1 → n ≤ (m : Int) + 1 → upL k n i = upL m n i := by
  induction k with
  | zero =>
    intro m n i h h1 h2
    cases m with
    | zero => rfl
    | succ m => simp only [upL]; rw [if_pos (by omega)]
  | succ k ih =>
    intro m n i h h1 h2
    cases m with
    | zero => simp only [upL]; rw [if_pos (by omega)]
    | succ m =>
      simp only [upL]
      by_cases hn : n ≤ 1
      · rw [if_pos hn, if_pos hn]
      · have hf := frontZ_range n (by omega) h
        rw [if_neg hn, if_neg hn, ih m (n - frontZ n) _ (by omega) (by omega) (by omega), ih m (frontZ n) _ (by omega) (by omega) (by omega)]
theorem upL_step (k : Nat) (n j : Int) (h1 : 1 < n) (h2 : n ≤ 256) (hk : n ≤ (k : Int) + 1) : upL (k + 1) n j = if frontZ n ≤ j then true :: upL (k + 1) (n - frontZ n) (j - frontZ n) else false :: upL (k + 1) (frontZ n) j := by
  have hf := frontZ_range n (by omega) h2
  rw [← upL_fuel k (k + 1) (n - frontZ n) (j - frontZ n) (by omega) (by omega) (by omega), ← upL_fuel k (k + 1) (frontZ n) j (by omega) (by omega) (by omega)]
  show (if n ≤ 1 then [] else if frontZ n ≤ j then true :: upL k (n - frontZ n) (j - frontZ n) else false :: upL k (frontZ n) j) = _
  rw [if_neg (by omega)]
theorem upL_256 (n j : Int) (h1 : 1 < n) (h2 : n ≤ 256) : upL 256 n j = if frontZ n ≤ j then true :: upL 256 (n - frontZ n) (j - frontZ n) else false :: upL 256 (frontZ n) j := upL_step 255 n j h1 h2 (by omega)
theorem upL_one (k : Nat) (n j : Int) (h : n ≤ 1) : upL k n j = [] := by
  cases k with
  | zero => rfl
  | succ k => exact if_pos h
/-- The way up from a row. -/
def turnsL (n i : Int) : List Bool := (upL 256 n i).reverse
end Go.Proofs.YtoaimcobcgomjaaDoor.Q
namespace Go.Proofs.YtoaimcobcgomjaaDoor.Q
open Go.RowKit Go.Proofs.YtoaimcobcgomjaaDoorW.PrintWords Go.Proofs.YtoaimcobcgomjaaDoorW.PrintLast Go.Proofs.YtoaimcobcgomjaaDoorW.PrintMore
set_option linter.unusedVariables false
set_option linter.unusedSimpArgs false
end Go.Proofs.YtoaimcobcgomjaaDoor.Q
namespace Go.Proofs.YtoaimcobcgomjaaDoor.Q
open Go.RowKit Go.Proofs.YtoaimcobcgomjaaDoorW.PrintWords Go.Proofs.YtoaimcobcgomjaaDoorW.PrintLast Go.Proofs.YtoaimcobcgomjaaDoorW.PrintMore
set_option linter.unusedVariables false
set_option linter.unusedSimpArgs false
theorem addr_add (a : Addr) (m n : Nat) : (a.add m).add n = a.add (m + n) := by
  unfold Addr.add
  by_cases hm : m = 0
  · subst hm; simp
  · by_cases hn : n = 0
    · subst hn; simp [hm]
    · rw [if_neg hm, if_neg hn, if_neg (by omega)]
      simp [Nat.add_assoc]
theorem cell_below {W w : World} {a : Addr} {v : Value} (h : W.cell? a = some v) (hb : Below W.heap.size W w) : w.cell? a = some v := (hb.cell (World.block_lt_of_cell? _ _ h)).trans h
/-- A slice of digests reads as a list. -/
structure Digs (W : World) (A : Option Addr) (n c : Nat) (l : List (List Int)) : Prop where
  len : l.length = n
  le : n ≤ c
  max : c ≤ 9223372036854775807
  at_ : ∀ (j : Nat) (hj : j < l.length), ∃ ad, A = some ad ∧ ∀ i, i < 32 → W.cell? (ad.add (j * 32 + i)) = some (.int .u8 (rd l[j] (i : Int)))
  dg : ∀ d ∈ l, Dig d
theorem Digs.below {W w : World} {A : Option Addr} {n c : Nat} {l : List (List Int)} (h : Digs W A n c l) (hb : Below W.heap.size W w) : Digs w A n c l :=
  ⟨h.len, h.le, h.max, fun j hj => by
    obtain ⟨ad, e, hc⟩ := h.at_ j hj
    exact ⟨ad, e, fun i hi => cell_below (hc i hi) hb⟩, h.dg⟩
theorem dig_bts {w : World} {g t : Nat} {d : List Int} {fr : Nat × Nat} (h : w.heap[g]? = some (.cells (arr d) t fr)) (hd : Dig d) : Bts w (some ⟨g, 0, none⟩) 32 32 d := by
  have h2 := bytes_C h (by rw [hd.1]; omega)
  rw [hd.1] at h2
  exact ⟨h2, Nat.le_refl _, hd.2⟩
theorem idx_dgs (ad : Addr) (n cap i : Nat) (hi : i < n) (W : World) : (Instr.indexAt 31 (.slice (some ad) n cap) (.int .i64 (i : Int))).run Tryd.prog W = .ok (.pointer (some (ad.add (i * 32)))) W := by
  have hel : Tryd.prog.elem 31 = 25 := by kernel_rfl
  have hs : (sizeOf 25).run Tryd.prog W = .ok 32 W := by
    obtain ⟨j, hj, h1⟩ := Option.map_eq_some_iff.1 info_dig
    simp [sizeOf, typeInfo, hj, h1]
  rw [run_indexAt_slice W 31 _ _ _ _ _ (by rw [hel]; exact Tryd.underlying31)]
  simp [hi, hel, hs, Result.andThen]
theorem sl_dig (e : Addr) (W : World) : (Instr.sliceAt 25 (.pointer (some e)) none none none).run Tryd.prog W = .ok (.slice (some e) 32 32) W := by
  have hel : Tryd.prog.elem 25 = 5 := by kernel_rfl
  have hn : Tryd.prog.arrayLen 25 = 32 := by kernel_rfl
  obtain ⟨j, hj, h1, h2, h3⟩ := info_parts info5
  rw [run_sliceAt_array_all W 25 e (by rw [hn, hel]; exact Tryd.underlying25)]
  simp [hel, hn, sizeOf, typeInfo, hj, h2, Result.andThen, slicedAt, Addr.add]
end Go.Proofs.YtoaimcobcgomjaaDoor.Q
namespace Go.Proofs.YtoaimcobcgomjaaDoor.Q
open Go.RowKit Go.Proofs.YtoaimcobcgomjaaDoorW.PrintWords Go.Proofs.YtoaimcobcgomjaaDoorW.PrintLast Go.Proofs.YtoaimcobcgomjaaDoorW.PrintMore
set_option linter.unusedVariables false
set_option linter.unusedSimpArgs false
end Go.Proofs.YtoaimcobcgomjaaDoor.Q
namespace Go.Proofs.YtoaimcobcgomjaaDoor.Q
open Go.RowKit Go.Proofs.YtoaimcobcgomjaaDoorW.PrintWords Go.Proofs.YtoaimcobcgomjaaDoorW.PrintLast Go.Proofs.YtoaimcobcgomjaaDoorW.PrintMore
set_option linter.unusedVariables false
set_option linter.unusedSimpArgs false
/-- A digest loaded out of the middle of a row. -/
theorem run_loadVar_dig (w : World) (e : Addr) (ds : List Int) (hl : ds.length = 32) (hc : ∀ i, i < 32 → w.cell? (e.add i) = some (.int .u8 (rd ds (i : Int)))) : (loadVar 25 e).run Tryd.prog w = .ok (.agg (arr ds)) w := by
  have hr : (loadCells e (arr ds).toList.length).run Tryd.prog w = .ok (arr ds).toList.toArray w :=
    run_loadCells_list (P := Tryd.prog) w e (arr ds).toList (fun j v hv => by
      have hj : j < 32 := by
        have := (List.getElem?_eq_some_iff.1 hv).1
        rw [Array.length_toList, arr_size, hl] at this
        exact this
      rw [hc j hj]
      rw [Array.getElem?_toList, arr_get ds j (by omega)] at hv
      exact hv)
  obtain ⟨i, hq, hs⟩ := Option.map_eq_some_iff.1 info_dig
  have hagg : (isAgg 25).run Tryd.prog w = .ok true w := by
    unfold isAgg
    rw [Sem.run_bind, run_underlying Tryd.underlying25 w]
    rfl
  rw [Array.length_toList, arr_size, hl, Array.toArray_toList] at hr
  simp [loadVar, Sem.run_bind, hagg, sizeOf, typeInfo, hq, hs, hr]
end Go.Proofs.YtoaimcobcgomjaaDoor.Q
namespace Go.Proofs.YtoaimcobcgomjaaDoor.Q
open Go.RowKit Go.Proofs.YtoaimcobcgomjaaDoorW.PrintWords Go.Proofs.YtoaimcobcgomjaaDoorW.PrintLast Go.Proofs.YtoaimcobcgomjaaDoorW.PrintMore
set_option linter.unusedVariables false
set_option linter.unusedSimpArgs false
end Go.Proofs.YtoaimcobcgomjaaDoor.Q
namespace Go.Proofs.YtoaimcobcgomjaaDoor.Q
open Go.RowKit Go.ChangeShapes Go.WideShapes Go.ChangeAt Go.Deep Go.Joins Go.Proofs.YtoaimcobcgomjaaDoorW.PrintWords
end Go.Proofs.YtoaimcobcgomjaaDoor.Q
namespace Go.Proofs.YtoaimcobcgomjaaDoor.Q
open Go.RowKit Go.Proofs.YtoaimcobcgomjaaDoorW.PrintWords Go.Proofs.YtoaimcobcgomjaaDoorW.PrintLast Go.Proofs.YtoaimcobcgomjaaDoorW.PrintMore
set_option linter.unusedVariables false
set_option linter.unusedSimpArgs false
/-- A slice of rows reads as a list. -/
structure Rws (W : World) (A : Option Addr) (n c : Nat) (l : List (List Int)) : Prop where
  rd_ : (Kd.slice 5 (Kd.int .u8)).C W A n l
  le : n ≤ c
  by_ : ∀ p ∈ l, ∀ x ∈ p, 0 ≤ x ∧ x < 256
theorem Rws.len {W : World} {A : Option Addr} {n c : Nat} {l : List (List Int)} (h : Rws W A n c l) : l.length = n := h.rd_.1
theorem Rws.below {W w : World} {A : Option Addr} {n c : Nat} {l : List (List Int)} (h : Rws W A n c l) (hb : Below W.heap.size W w) : Rws w A n c l := ⟨Kd.C_below h.rd_ hb, h.le, h.by_⟩
theorem Rws.max {W : World} {A : Option Addr} {n c : Nat} {l : List (List Int)} (h : Rws W A n c l) : n ≤ 9223372036854775807 := h.rd_.2.1
theorem Rws.take {W : World} {A : Option Addr} {n c : Nat} {l : List (List Int)} (h : Rws W A n c l) (m : Nat) (hm : m ≤ n) : Rws W A m c (l.take m) := by
  have hl := h.len
  subst hl
  have h2 := Kd.C_take h.rd_ hm
  rw [List.length_take, Nat.min_eq_left hm] at h2
  exact ⟨h2, by have := h.le; omega, fun p hp => h.by_ p (List.mem_of_mem_take hp)⟩
theorem Rws.drop {W : World} {A : Option Addr} {n c : Nat} {l : List (List Int)} (h : Rws W A n c l) (m : Nat) (hm : m ≤ n) : Rws W (if c = m then A else A.map (·.add (m * 1))) (n - m) (c - m) (l.drop m) := by
  have hl := h.len
  subst hl
  have h2 := Kd.C_drop h.rd_ hm h.le
  rw [List.length_drop] at h2
  exact ⟨h2, by have := h.le; omega, fun p hp => h.by_ p (List.mem_of_mem_drop hp)⟩
theorem Rws.row {W : World} {A : Option Addr} {n c : Nat} {l : List (List Int)} (h : Rws W A n c l) (j : Nat) (hj : j < l.length) : ∃ ad A0 c0, A = some ad ∧ W.cell? (ad.add j) = some (.slice A0 l[j].length c0) ∧ Bts W A0 l[j].length c0 l[j] := by
  have hl := h.len
  obtain ⟨ad, A0, c0, e, hc, hle, hC⟩ := at_L1 h.rd_ (j : Int) (by omega) (by omega)
  rw [rd_L1_at l j hj, Int.toNat_natCast] at hc
  rw [rd_L1_at l j hj] at hle hC
  exact ⟨ad, A0, c0, e, hc, hC, hle, h.by_ _ (List.getElem_mem hj)⟩
/-- Whether rows are a list. -/
def listP (l : List (List Int)) : Bool := decide (l.length ≤ 256) && !(l.any fun p => decide (4096 < p.length))
/-- The predicate of rows.list. -/
theorem long_walk (A : Option Addr) (n c : Nat) (w : World) :
    Calls Tryd.prog 56 #[.slice A n c] w fun e w' => e = .returned (.bool (decide (4096 < (n : Int)))) ∧ w' = w := by
  go_enter Tryd.func56, Tryd.ntmps56
  go_wp2
  go_ret
  exact ⟨rfl, rfl⟩
set_option maxHeartbeats 4000000 in
set_option maxRecDepth 100000 in
theorem indexLong_walk (A : Option Addr) (n c : Nat) (l : List (List Int)) (W : World) (br : Rws W A n c l) :
    Calls Tryd.prog 68 #[.slice A n c, .func (.func 56) #[] #[]] W fun e W' => ∃ i : Int, e = .returned (.int .i64 i) ∧ decide (0 ≤ i) = l.any (fun p => decide (4096 < p.length)) ∧ Below W.heap.size W W' := by
  have BR := Aside0.mk br
  have hln := br.len
  have hmx := br.max
  have HB := Aside0.mk (Below.refl W.heap.size W)
  have HLN := Aside0.mk hln
  clear br hln
  go_enter Tryd.func68, Tryd.ntmps68
  go_wp2
  go_loopw [5, 8] (fun _ x wr => ∃ k : Nat, k ≤ n ∧ x = .int .i64 (k : Int) ∧ Aside0 (∀ j, (hj : j < l.length) → j < k → l[j].length ≤ 4096) ∧ Aside0 (Below W.heap.size W wr)) (fun _ x _ => n - (intOf x).toNat)
  case atStart => exact ⟨0, by omega, rfl, ⟨fun j _ hj => by omega⟩, HB⟩
  case round =>
    obtain ⟨k, hk, rfl, hall, hB⟩ := hrel
    clear HB
    have HB := hB
    clear hB
    by_cases hlt : k < n
    · obtain ⟨ad, A0, c0, hA, hcell, _⟩ := (BR.out.below HB.out).row k (by rw [HLN.out]; exact hlt)
      subst hA
      obtain ⟨m, hm⟩ : ∃ m, (l[k]'(by rw [HLN.out]; exact hlt)).length = m := ⟨_, rfl⟩
      rw [hm] at hcell
      have HM := Aside0.mk hm
      clear hm
      by_cases hlong : 4096 < (m : Int)
      · have hd : decide (4096 < (m : Int)) = true := decide_eq_true hlong
        have HANY : Aside0 (l.any (fun p => decide (4096 < p.length)) = true) := ⟨by
          have hkl : k < l.length := by rw [HLN.out]; exact hlt
          exact List.any_eq_true.2 ⟨l[k], List.getElem_mem hkl, decide_eq_true (by have := HM.out; omega)⟩⟩
        clear hlong
        go_wp2_with (go_at_call 56; refine (long_walk A0 m c0 _).mono ?_; rintro e w' ⟨rfl, rfl⟩; rw [hd])
        go_ret
        exact ⟨(k : Int), rfl, by
          rw [decide_eq_true (show (0 : Int) ≤ (k : Int) by omega)]
          exact HANY.out.symm, HB.out⟩
      · have hd : decide (4096 < (m : Int)) = false := decide_eq_false hlong
        have HL := Aside0.mk hlong
        clear hlong
        go_wp2_with (go_at_call 56; refine (long_walk A0 m c0 _).mono ?_; rintro e w' ⟨rfl, rfl⟩; rw [hd])
        exact ⟨⟨k + 1, by omega, by simp, ⟨fun j hj hjk => by
          by_cases e : j = k
          · subst e
            have := HL.out; have := HM.out; omega
          · exact hall.out j hj (by omega)⟩, HB⟩, by simp [intOf]; omega⟩
    · go_wp2
      go_ret
      exact ⟨-1, rfl, by
        rw [decide_eq_false (by omega)]
        refine (List.any_eq_false.2 fun p hp => ?_).symm
        obtain ⟨j, hj, rfl⟩ := List.mem_iff_getElem.1 hp
        have := hall.out j hj (by rw [HLN.out] at hj; omega)
        simp; omega, HB.out⟩
theorem contains_walk (A : Option Addr) (n c : Nat) (l : List (List Int)) (W : World) (br : Rws W A n c l) :
    Calls Tryd.prog 55 #[.slice A n c, .func (.func 56) #[] #[]] W fun e W' => e = .returned (.bool (l.any (fun p => decide (4096 < p.length)))) ∧ Below W.heap.size W W' := by
  have HI : Aside0 (∀ w, W = w → Calls Tryd.prog 68 #[.slice A n c, .func (.func 56) #[] #[]] w fun e W' => ∃ i : Int, e = .returned (.int .i64 i) ∧ decide (0 ≤ i) = l.any (fun p => decide (4096 < p.length)) ∧ Below w.heap.size w W') := ⟨fun w hw => by subst hw; exact indexLong_walk A n c l W br⟩
  clear br
  obtain ⟨b, hb⟩ : ∃ b, l.any (fun p => decide (4096 < p.length)) = b := ⟨_, rfl⟩
  rw [hb] at HI ⊢
  clear hb
  go_enter Tryd.func55, Tryd.ntmps55
  go_wp2_with (go_at_call 68; (with_reducible refine (HI.out _ rfl).mono ?_); rintro e w1 ⟨i, rfl, hd, hB⟩; have HD := Aside0.mk hd; have HB := Aside0.mk hB; clear hd hB)
  go_ret
  exact ⟨HD.out ▸ rfl, HB.out⟩
theorem list_walk (A : Option Addr) (n c : Nat) (l : List (List Int)) (W : World) (br : Rws W A n c l) :
    Calls Tryd.prog 39 #[.slice A n c] W fun e W' => e = .returned (.bool (listP l)) ∧ Below W.heap.size W W' := by
  have HI : Aside0 (∀ w, W = w → Calls Tryd.prog 55 #[.slice A n c, .func (.func 56) #[] #[]] w fun e W' => e = .returned (.bool (l.any (fun p => decide (4096 < p.length)))) ∧ Below w.heap.size w W') := ⟨fun w hw => by subst hw; exact contains_walk A n c l W br⟩
  have hln := br.len
  unfold listP
  rw [hln]
  clear br hln
  obtain ⟨b, hb⟩ : ∃ b, l.any (fun p => decide (4096 < p.length)) = b := ⟨_, rfl⟩
  rw [hb] at HI ⊢
  clear hb
  by_cases h : (n : Int) ≤ 256
  · have h2 : decide (n ≤ 256) = true := decide_eq_true (by omega)
    rw [h2, Bool.true_and]
    clear h2
    go_enter Tryd.func39, Tryd.ntmps39
    go_wp2_with (go_at_call 55; (with_reducible refine (HI.out _ rfl).mono ?_); rintro e w1 ⟨rfl, hB⟩; have HB := Aside0.mk hB; clear hB)
    go_ret
    exact ⟨rfl, HB.out⟩
  · have h2 : decide (n ≤ 256) = false := decide_eq_false (by omega)
    rw [h2, Bool.false_and]
    clear h2
    go_enter Tryd.func39, Tryd.ntmps39
    go_wp2
    go_ret
    exact ⟨rfl, Below.refl _ _⟩
end Go.Proofs.YtoaimcobcgomjaaDoor.Q
namespace Go.Proofs.YtoaimcobcgomjaaDoor.Q
open Go.RowKit Go.Proofs.YtoaimcobcgomjaaDoorW.PrintWords Go.Proofs.YtoaimcobcgomjaaDoorW.PrintLast Go.Proofs.YtoaimcobcgomjaaDoorW.PrintMore
set_option linter.unusedVariables false
set_option linter.unusedSimpArgs false
/-- How many of so many stand in the first part: a count. -/
def frontN (n : Nat) : Nat := (frontZ (n : Int)).toNat
theorem frontN_range (n : Nat) (h0 : 2 ≤ n) (h1 : n ≤ 256) : 1 ≤ frontN n ∧ frontN n < n ∧ ((frontN n : Nat) : Int) = frontZ (n : Int) := by
  obtain ⟨a, b, c⟩ := frontZ_range (n : Int) (by omega) (by omega)
  unfold frontN
  omega
/-- The root of rows; k: how many rows at most. -/
def rootK : Nat → List (List Int) → List Int
  | 0, _ => tagOf 0 []
  | k + 1, l => if l.length = 0 then tagOf 0 [] else if l.length = 1 then tagOf 7 [l.headD []] else tagOf 8 [rootK k (l.take (frontN l.length)), rootK k (l.drop (frontN l.length))]
theorem rootK_dig (k : Nat) (l : List (List Int)) : Dig (rootK k l) := by
  cases k with
  | zero => exact tagOf_dig _ _
  | succ k =>
    simp only [rootK]
    repeat' split
    all_goals exact tagOf_dig _ _
theorem rootK_fuel (k : Nat) : ∀ (m : Nat) (l : List (List Int)), l.length ≤ 256 → l.length ≤ k → l.length ≤ m → rootK k l = rootK m l := by
  induction k with
  | zero =>
    intro m l h h1 h2
    cases m with
    | zero => rfl
    | succ m => simp only [rootK]; rw [if_pos (by omega)]
  | succ k ih =>
    intro m l h h1 h2
    cases m with
    | zero => simp only [rootK]; rw [if_pos (by omega)]
    | succ m =>
      simp only [rootK]
      by_cases h3 : l.length = 0
      · rw [if_pos h3, if_pos h3]
      · rw [if_neg h3, if_neg h3]
        by_cases h4 : l.length = 1
        · rw [if_pos h4, if_pos h4]
        · rw [if_neg h4, if_neg h4]
          obtain ⟨a, b, _⟩ := frontN_range l.length (by omega) h
          rw [ih m (l.take (frontN l.length)) (by rw [List.length_take]; omega) (by rw [List.length_take]; omega) (by rw [List.length_take]; omega), ih m (l.drop (frontN l.length)) (by rw [List.length_drop]; omega) (by rw [List.length_drop]; omega) (by rw [List.length_drop]; omega)]
def rootP (l : List (List Int)) : List Int := rootK 256 l
theorem rootP_dig (l : List (List Int)) : Dig (rootP l) := rootK_dig _ _
theorem rootP_none (l : List (List Int)) (h : l.length = 0) : rootP l = tagOf 0 [] := if_pos h
theorem rootP_one (l : List (List Int)) (h : l.length = 1) : rootP l = tagOf 7 [l[0]'(by omega)] := by
  unfold rootP
  show (if l.length = 0 then tagOf 0 [] else if l.length = 1 then tagOf 7 [l.headD []] else tagOf 8 [rootK 255 (l.take (frontN l.length)), rootK 255 (l.drop (frontN l.length))]) = _
  rw [if_neg (by omega), if_pos h]
  match l, h with
  | [x], _ => rfl
theorem rootP_two (l : List (List Int)) (h : 2 ≤ l.length) (h2 : l.length ≤ 256) : rootP l = tagOf 8 [rootP (l.take (frontN l.length)), rootP (l.drop (frontN l.length))] := by
  have e : rootP l = (if l.length = 0 then tagOf 0 [] else if l.length = 1 then tagOf 7 [l.headD []] else tagOf 8 [rootK 255 (l.take (frontN l.length)), rootK 255 (l.drop (frontN l.length))]) := rfl
  obtain ⟨a, b, _⟩ := frontN_range l.length h h2
  rw [e, if_neg (by omega), if_neg (by omega), rootK_fuel 255 256 (l.take (frontN l.length)) (by rw [List.length_take]; omega) (by rw [List.length_take]; omega) (by rw [List.length_take]; omega), rootK_fuel 255 256 (l.drop (frontN l.length)) (by rw [List.length_drop]; omega) (by rw [List.length_drop]; omega) (by rw [List.length_drop]; omega)]
  rfl
theorem rows_to (A : Option Addr) (n c m : Nat) (hm : m ≤ n) (hc : n ≤ c) : ∀ W : World, (Instr.slice 29 (.slice A n c) none (some (.int .i64 (m : Int))) none).run Tryd.prog W = .ok (.slice A m c) W := fun W => by
  obtain ⟨j, hj, _⟩ := info_parts info22
  have := cut_to 29 22 .i64 Tryd.underlying29 hj A n c (m : Int) (by omega) (by omega) hc W
  rwa [Int.toNat_natCast] at this
theorem rows_from (A : Option Addr) (n c m : Nat) (hm : m ≤ n) : ∀ W : World, (Instr.slice 29 (.slice A n c) (some (.int .i64 (m : Int))) none none).run Tryd.prog W = .ok (.slice (if c = m then A else A.map (·.add (m * 1))) (n - m) (c - m)) W := fun W => by
  obtain ⟨j, hj, _, hs, _⟩ := info_parts info22
  have := cut_from 29 22 .i64 Tryd.underlying29 hj 1 hs A n c (m : Int) (by omega) (by omega) W
  rwa [Int.toNat_natCast] at this
/-- Rows that are short enough. -/
def Short (l : List (List Int)) : Prop := ∀ p ∈ l, p.length < 1000000
theorem Short.take {l : List (List Int)} (h : Short l) (m : Nat) : Short (l.take m) := fun p hp => h p (List.mem_of_mem_take hp)
theorem Short.drop {l : List (List Int)} (h : Short l) (m : Nat) : Short (l.drop m) := fun p hp => h p (List.mem_of_mem_drop hp)
end Go.Proofs.YtoaimcobcgomjaaDoor.Q
namespace Go.Proofs.YtoaimcobcgomjaaDoor.Q
open Go.RowKit Go.Proofs.YtoaimcobcgomjaaDoorW.PrintWords Go.Proofs.YtoaimcobcgomjaaDoorW.PrintLast Go.Proofs.YtoaimcobcgomjaaDoorW.PrintMore
set_option linter.unusedVariables false
set_option linter.unusedSimpArgs false
/-- A row's sides; k: how many rows at most. -/
def sidesK : Nat → List (List Int) → Nat → List (List Int)
  | 0, _, _ => []
  | k + 1, l, i => if l.length ≤ 1 then [] else if i < frontN l.length then sidesK k (l.take (frontN l.length)) i ++ [rootP (l.drop (frontN l.length))] else sidesK k (l.drop (frontN l.length)) (i - frontN l.length) ++ [rootP (l.take (frontN l.length))]
theorem sidesK_fuel (k : Nat) : ∀ (m : Nat) (l : List (List Int)) (i : Nat), l.length ≤ 256 → l.length ≤ k → l.length ≤ m → sidesK k l i = sidesK m l i := by
  induction k with
  | zero =>
    intro m l i h h1 h2
    cases m with
    | zero => rfl
    | succ m => simp only [sidesK]; rw [if_pos (by omega)]
  | succ k ih =>
    intro m l i h h1 h2
    cases m with
    | zero => simp only [sidesK]; rw [if_pos (by omega)]
    | succ m =>
      simp only [sidesK]
      by_cases h3 : l.length ≤ 1
      · rw [if_pos h3, if_pos h3]
      · obtain ⟨a, b, _⟩ := frontN_range l.length (by omega) h
        rw [if_neg h3, if_neg h3, ih m (l.take (frontN l.length)) i (by rw [List.length_take]; omega) (by rw [List.length_take]; omega) (by rw [List.length_take]; omega), ih m (l.drop (frontN l.length)) (i - frontN l.length) (by rw [List.length_drop]; omega) (by rw [List.length_drop]; omega) (by rw [List.length_drop]; omega)]
def sidesP (l : List (List Int)) (i : Nat) : List (List Int) := sidesK 256 l i
theorem sidesP_one (l : List (List Int)) (i : Nat) (h : l.length ≤ 1) : sidesP l i = [] := if_pos h
theorem sidesP_two (l : List (List Int)) (i : Nat) (h : 2 ≤ l.length) (h2 : l.length ≤ 256) : sidesP l i = if i < frontN l.length then sidesP (l.take (frontN l.length)) i ++ [rootP (l.drop (frontN l.length))] else sidesP (l.drop (frontN l.length)) (i - frontN l.length) ++ [rootP (l.take (frontN l.length))] := by
  have e : sidesP l i = (if l.length ≤ 1 then [] else if i < frontN l.length then sidesK 255 (l.take (frontN l.length)) i ++ [rootP (l.drop (frontN l.length))] else sidesK 255 (l.drop (frontN l.length)) (i - frontN l.length) ++ [rootP (l.take (frontN l.length))]) := rfl
  obtain ⟨a, b, _⟩ := frontN_range l.length h h2
  rw [e, if_neg (by omega), sidesK_fuel 255 256 (l.take (frontN l.length)) i (by rw [List.length_take]; omega) (by rw [List.length_take]; omega) (by rw [List.length_take]; omega), sidesK_fuel 255 256 (l.drop (frontN l.length)) (i - frontN l.length) (by rw [List.length_drop]; omega) (by rw [List.length_drop]; omega) (by rw [List.length_drop]; omega)]
  rfl
theorem sidesK_dig (k : Nat) : ∀ (l : List (List Int)) (i : Nat), ∀ d ∈ sidesK k l i, Dig d := by
  induction k with
  | zero => intro l i d hd; cases hd
  | succ k ih =>
    intro l i d hd
    simp only [sidesK] at hd
    split at hd
    · cases hd
    · split at hd
      all_goals
        rcases List.mem_append.1 hd with h | h
        · exact ih _ _ d h
        · rw [List.mem_singleton.1 h]; exact rootP_dig _
theorem sidesP_dig (l : List (List Int)) (i : Nat) : ∀ d ∈ sidesP l i, Dig d := sidesK_dig 256 l i
theorem turnsL_one (n i : Int) (h : n ≤ 1) : turnsL n i = [] := by unfold turnsL; rw [upL_one 256 n i h]; rfl
theorem turnsL_left (n i : Int) (h1 : 1 < n) (h2 : n ≤ 256) (h : i < frontZ n) : turnsL n i = turnsL (frontZ n) i ++ [false] := by
  unfold turnsL
  rw [upL_256 n i h1 h2, if_neg (by omega), List.reverse_cons]
theorem turnsL_right (n i : Int) (h1 : 1 < n) (h2 : n ≤ 256) (h : frontZ n ≤ i) : turnsL n i = turnsL (n - frontZ n) (i - frontZ n) ++ [true] := by
  unfold turnsL
  rw [upL_256 n i h1 h2, if_pos h, List.reverse_cons]
theorem sides_len (k : Nat) : ∀ (l : List (List Int)) (i : Nat), l.length ≤ k → l.length ≤ 256 → i < l.length → (sidesP l i).length = (turnsL (l.length : Int) (i : Int)).length := by
  induction k with
  | zero => intro l i h1 h2 h3; omega
  | succ k ih =>
    intro l i h1 h2 h3
    by_cases h : l.length ≤ 1
    · rw [sidesP_one l i h, turnsL_one _ _ (by omega)]
      rfl
    · obtain ⟨a, b, c⟩ := frontN_range l.length (by omega) h2
      rw [sidesP_two l i (by omega) h2]
      by_cases hi : i < frontN l.length
      · have := ih (l.take (frontN l.length)) i (by rw [List.length_take]; omega) (by rw [List.length_take]; omega) (by rw [List.length_take]; omega)
        rw [List.length_take, Nat.min_eq_left (by omega), c] at this
        rw [if_pos hi, turnsL_left _ _ (by omega) (by omega) (by omega), List.length_append, List.length_append, this]
        rfl
      · have := ih (l.drop (frontN l.length)) (i - frontN l.length) (by rw [List.length_drop]; omega) (by rw [List.length_drop]; omega) (by rw [List.length_drop]; omega)
        rw [List.length_drop, Int.ofNat_sub (by omega), Int.ofNat_sub (by omega), c] at this
        rw [if_neg hi, turnsL_right _ _ (by omega) (by omega) (by omega), List.length_append, List.length_append, this]
        rfl
theorem front_pow : ∀ (m : Fin 8) (n : Fin 257), 2 ≤ n.1 → n.1 ≤ 2 ^ (m.1 + 1) → frontZ (n.1 : Int) ≤ 2 ^ m.1 := by decide +kernel
theorem up_pow (m : Nat) : ∀ (n i : Int), m ≤ 8 → n ≤ 2 ^ m → (upL 256 n i).length ≤ m := by
  induction m with
  | zero => intro n i hm h; rw [upL_one 256 n i (by simpa using h)]; exact Nat.le_refl _
  | succ m ih =>
    intro n i hm h
    by_cases h1 : n ≤ 1
    · rw [upL_one 256 n i h1]; exact Nat.zero_le _
    · have h8 : n ≤ 256 := Int.le_trans h (by
        have : ∀ m : Fin 8, (2 : Int) ^ (m.1 + 1) ≤ 256 := by decide +kernel
        exact this ⟨m, by omega⟩)
      have hr := frontZ_range n (by omega) h8
      have hf : frontZ n ≤ 2 ^ m := by
        obtain ⟨q, rfl⟩ := Int.eq_ofNat_of_zero_le (show 0 ≤ n by omega)
        exact front_pow ⟨m, by omega⟩ ⟨q, by omega⟩ (by simp only; omega) (by simp only; exact_mod_cast h)
      rw [upL_256 n i (by omega) h8]
      split
      · rw [List.length_cons]; have := ih (n - frontZ n) (i - frontZ n) (by omega) (by omega); omega
      · rw [List.length_cons]; have := ih (frontZ n) i (by omega) hf; omega
theorem sides_eight (l : List (List Int)) (i : Nat) (h : l.length ≤ 256) (hi : i < l.length) : (sidesP l i).length ≤ 8 := by
  rw [sides_len 256 l i h h hi]
  unfold turnsL
  rw [List.length_reverse]
  exact up_pow 8 _ _ (Nat.le_refl _) (by omega)
end Go.Proofs.YtoaimcobcgomjaaDoor.Q
namespace Go.Proofs.YtoaimcobcgomjaaDoor.Q
open Go.RowKit Go.Proofs.YtoaimcobcgomjaaDoorW.PrintWords Go.Proofs.YtoaimcobcgomjaaDoorW.PrintLast Go.Proofs.YtoaimcobcgomjaaDoorW.PrintMore
set_option linter.unusedVariables false
set_option linter.unusedSimpArgs false
/-- Digests' cells, one behind the other. -/
def flatD (ds : List (List Int)) : List Value := ds.flatMap fun d => (arr d).toList
theorem flatD_append (a b : List (List Int)) : flatD (a ++ b) = flatD a ++ flatD b := List.flatMap_append
theorem flatD_one (d : List Int) : flatD [d] = (arr d).toList := by simp [flatD]
theorem flatD_len (ds : List (List Int)) (h : ∀ d ∈ ds, Dig d) : (flatD ds).length = ds.length * 32 := by
  induction ds with
  | nil => rfl
  | cons d ds ih =>
    have hd := h d List.mem_cons_self
    have e := ih fun x hx => h x (List.mem_cons_of_mem _ hx)
    have e1 : flatD (d :: ds) = (arr d).toList ++ flatD ds := by simp [flatD]
    rw [e1, List.length_append, e, Array.length_toList, arr_size, hd.1, List.length_cons]
    omega
theorem flatD_get (ds : List (List Int)) (h : ∀ d ∈ ds, Dig d) : ∀ (j i : Nat) (hj : j < ds.length), i < 32 → (flatD ds)[j * 32 + i]? = some (.int .u8 (rd ds[j] (i : Int))) := by
  induction ds with
  | nil => intro j i hj; simp at hj
  | cons d ds ih =>
    intro j i hj hi
    have hd := h d List.mem_cons_self
    have e1 : flatD (d :: ds) = (arr d).toList ++ flatD ds := by simp [flatD]
    have e2 : (arr d).toList.length = 32 := by rw [Array.length_toList, arr_size, hd.1]
    rw [e1]
    cases j with
    | zero =>
      rw [List.getElem?_append_left (by omega), Array.getElem?_toList, Nat.zero_mul, Nat.zero_add, arr_get d i (by rw [hd.1]; exact hi)]
      rfl
    | succ j =>
      rw [List.getElem?_append_right (by omega), e2, show (j + 1) * 32 + i - 32 = j * 32 + i by omega]
      exact ih (fun x hx => h x (List.mem_cons_of_mem _ hx)) j i (by simpa using hj) hi
theorem flatD_cell (ds : List (List Int)) : ∀ u ∈ flatD ds, u.oneCell' = true := fun u hu => by
  obtain ⟨d, _, hd⟩ := List.mem_flatMap.1 hu
  obtain ⟨j, hj, rfl⟩ := List.mem_iff_getElem.1 hd
  have h1 := arr_one d
  rw [Array.all_eq_true] at h1
  have := h1 j (by simpa using hj)
  simpa using this
theorem info_digs : (Tryd.prog.info? 25).map (fun i => (i.zero, i.size, i.bytes)) = some (some (.agg (arr zeros32)), 32, 32) := by kernel_rfl
/-- What a call's own slice of digests reads as. -/
theorem own_digs {W : World} {base n : Nat} {v : Value} {ds : List (List Int)} (h : W.ownsRow base 25 32 v n (flatD ds)) (hd : ∀ d ∈ ds, Dig d) : ∃ A c, v = .slice A n c ∧ Digs W A n c ds := by
  have hl := h.1
  rw [flatD_len ds hd] at hl
  rcases h.2 with ⟨rfl, h0⟩ | ⟨g, cap, cur, rfl, _, hh, hn, hcm, hsz, htk⟩
  · subst h0
    obtain rfl : ds = [] := List.eq_nil_of_length_eq_zero (by omega)
    exact ⟨none, 0, rfl, ⟨rfl, Nat.le_refl _, by omega, fun j hj => by simp at hj, fun d hd => by cases hd⟩⟩
  · refine ⟨some ⟨g, 0, none⟩, cap, rfl, ⟨by omega, hn, by unfold maxLen at hcm; omega, fun j hj => ⟨_, rfl, fun i hi => ?_⟩, hd⟩⟩
    have e := flatD_get ds hd j i hj hi
    rw [← htk, List.getElem?_take, if_pos (by omega), Array.getElem?_toList] at e
    have e2 : (⟨g, 0, none⟩ : Addr).add (j * 32 + i) = ⟨g, j * 32 + i, none⟩ := by
      unfold Addr.add
      by_cases h0 : j * 32 + i = 0
      · rw [h0]; rfl
      · rw [if_neg h0, Nat.zero_add]
    rw [e2]
    exact (cell_of_row W g (j * 32 + i) cur 25 (0, 0) hh).trans e
/-- A slice literal of digests. -/
theorem fill_digs (ds : List (List Int)) (h : ∀ d ∈ ds, Dig d) (cells : Array Value) (hc : cells.size = ds.length * 32) :
    Instr.fill (fun i => some (i * 32, 32)) cells (((ds.map fun d => Value.agg (arr d)).zipIdx 0).map fun x => (x.2, x.1)) = some (flatD ds).toArray := by
  obtain ⟨r, hr, hsz, hk⟩ := Great.fill_dense (s := 32) (by omega) (ds.map fun d => Value.agg (arr d)) 0 cells (fun v hv => by
    obtain ⟨d, hd, rfl⟩ := List.mem_map.1 hv
    show (arr d).size = 32
    rw [arr_size, (h d hd).1]) (by rw [List.length_map, hc]; omega)
  rw [hr]
  congr 1
  refine Array.ext_getElem? fun k => ?_
  rw [hk k, show (flatD ds).toArray[k]? = (flatD ds)[k]? from List.getElem?_toArray]
  have hlen := flatD_len ds h
  simp only [Nat.zero_mul, Nat.zero_le, true_and, Nat.zero_add, List.length_map, Nat.sub_zero]
  by_cases hlt : k < ds.length * 32
  · rw [if_pos hlt]
    have e := flatD_get ds h (k / 32) (k % 32) (by omega) (by omega)
    rw [show k / 32 * 32 + k % 32 = k by omega] at e
    rw [e, List.getElem?_map, List.getElem?_eq_getElem (show k / 32 < ds.length by omega)]
    show (arr (ds[k / 32]'(by omega)))[k % 32]? = _
    exact arr_get _ _ (by rw [(h _ (List.getElem_mem _)).1]; omega)
  · rw [if_neg hlt, Array.getElem?_eq_none (by rw [hc]; omega), List.getElem?_eq_none (by rw [hlen]; omega)]
theorem run_build_digs (w : World) (ds : List (List Int)) (h : ∀ d ∈ ds, Dig d) (parts : Array (Nat × Value)) (hp : parts.toList = ((ds.map fun d => Value.agg (arr d)).zipIdx 0).map fun x => (x.2, x.1)) (h0 : 0 < ds.length) (h1 : ds.length ≤ 100) :
    (Instr.buildSlice 31 ds.length parts).run Tryd.prog w = .ok (.slice (some ⟨w.heap.size, 0, none⟩) ds.length ds.length) (w.alloc (.cells (flatD ds).toArray 25)) := by
  obtain ⟨i0, hi0, hz0, hz1, hz2⟩ := info_parts info_digs
  refine run_buildSlice w 31 25 ds.length parts _ i0 (.agg (arr zeros32)) Tryd.underlying31 hi0 hz0 (by rw [hz1]; omega) (by rw [hz1]; omega) ?_
  rw [hz1, hp]
  exact fill_digs ds h _ (by simp)
/-- The literal of one digest, as an operation. -/
theorem build_one {o : Oper} {a : Act} {w : World} {x : Operand} {d : List Int} (ho : o.op = .buildSlice 31 1 #[(0, x)]) (hx : a.eval x = .agg (arr d)) (hd : Dig d) :
    (execOp a.eval o).run Tryd.prog w = .ok (.value (.slice (some ⟨w.heap.size, 0, none⟩) 1 1)) (w.alloc (.cells (arr d) 25)) := by
  have h := run_build_digs w [d] (fun x hx => by rw [List.mem_singleton.1 hx]; exact hd) #[(0, .agg (arr d))] rfl (by simp) (by simp)
  have e : (flatD [d]).toArray = arr d := by rw [flatD_one]
  rw [e] at h
  unfold execOp
  simp only [ho, List.map_toArray, List.map_cons, List.map_nil, hx]
  simp only [List.length_cons, List.length_nil, Nat.zero_add] at h
  simp [h, Sem.run_bind, Result.andThen]
/-- A call of a function value. -/
theorem goes_dyn {ops : Array Oper} {oi : Oper} {N : Option Tmp} {a : Act} {w : World} {K : Act → World → Prop} {f : FuncId} {fn : Func} {ars : Array Operand} {ts : Array TypeId} {x : Operand} {cap all : Array Value} {Q : Exit → Act → World → Prop} (hf : Tryd.prog.funcs[f]? = some fn) (hname : (fn.name == "runtime.NumGoroutine") = false) (hb : fn.body.isSome = true) (args : Array Value)
    (hw : Region.wanted oi (yielded ops a.tmps) = true) (hN : oi.dst = N) (hop : oi.op = .call { callee := .value x, args := ars, argTypes := ts }) (hx : a.eval x = .func (.func f) #[] cap) (hargs : ars.map a.eval = args) (hall : args ++ cap = all)
    (h : Calls Tryd.prog f all w fun e w' => ∃ v, e = .returned v ∧ K (a.put N v) w') : if Region.wanted oi (yielded ops a.tmps) = true then Oper.wp Tryd.prog oi a w K Q else K (a.put N undef) w := by
  subst hall
  refine call_ f (args ++ cap) hw hN ?_ h
  have he := enters_ hf hname hb (args ++ cap) w
  unfold execOp
  simp [hop, resolve, hx, Deferred.ofValue, invoke, hargs, he]
end Go.Proofs.YtoaimcobcgomjaaDoor.Q
namespace Go.Proofs.YtoaimcobcgomjaaDoor.Q
open Go.RowKit Go.Proofs.YtoaimcobcgomjaaDoorW.PrintWords Go.Proofs.YtoaimcobcgomjaaDoorW.PrintLast Go.Proofs.YtoaimcobcgomjaaDoorW.PrintMore
set_option linter.unusedVariables false
set_option linter.unusedSimpArgs false
def of6_T : Bool × List (List Nat × List Nat) := (true, [([], []), ([], []), ([0, 1], [0, 1]), ([2], [2]), ([], []), ([], []), ([4, 5], [4, 5]), ([6, 3], [6]), ([], []), ([], []), ([8, 3, 7, 0, 1, 2, 3, 7, 8, 9], [3, 8]), ([9, 7, 10, 0, 1, 2, 3, 4, 5, 6, 7, 8, 9, 10], [7, 9])])
def of6_B : List Nat := [0, 0, 3, 7, 0, 0, 48, 127, 0, 0, 1023, 2047]
theorem of6_tab : rtab .any (opsOf Tryd.f51 6) = of6_T := by kernel_rfl
theorem of6_bits : waitsOk of6_T.2 of6_B = true := by kernel_rfl
def of7_T : Bool × List (List Nat × List Nat) := (true, [([], []), ([], []), ([0, 1], [0, 1]), ([2, 2, 0, 1, 2], [2])])
def of7_B : List Nat := [0, 0, 3, 7]
theorem of7_tab : rtab .any (opsOf Tryd.f51 7) = of7_T := by kernel_rfl
theorem of7_bits : waitsOk of7_T.2 of7_B = true := by kernel_rfl
set_option maxHeartbeats 8000000 in
set_option maxRecDepth 100000 in
theorem of13_small (A : Option Addr) (n c : Nat) (l : List (List Int)) (W : World) (br : Rws W A n c l) (hs : Short l) (hn : n ≤ 1) :
    Calls Tryd.prog 51 #[.slice A n c] W fun e W' => e = .returned (.agg (arr (rootP l))) ∧ Below W.heap.size W W' := by
  have hln := br.len
  by_cases h0 : n = 0
  · subst h0
    rw [rootP_none l hln]
    have HB := Aside0.mk (Below.refl W.heap.size W)
    clear br hln
    go_enter Tryd.func51, Tryd.ntmps51
    go_wp2_with (
      first
      | ((with_reducible refine gate_dst (N := 2) rfl ?_); refine box_event ?hg (N := 2) ?hd (cs := arr zeros32) (t := 25) ?hr ?_; (case hd => rfl); (case hg => rfl); (case hr => first | (go_simp; done) | (go_simp; rfl));
                         intro g2 hg w1 hbox hb; have BK2 := Aside0.mk hbox; have G2 := Aside0.mk (show W.heap.size ≤ g2 by rw [hg]; exact below_size HB.out); have n0 := Aside0.mk (below_step HB.out hb); clear HB; have HB := n0; clear n0; clear hb hbox hg)
      | (go_at_call 66; (with_reducible refine (rNone_walk _).mono ?_); rintro e wq ⟨rfl, hb⟩; have n0 := Aside0.mk (blk_below BK2.out hb); have n1 := Aside0.mk (below_step HB.out hb); clear BK2 HB; have BK2 := n0; have HB := n1; clear n0 n1; clear hb)
      | ((with_reducible refine gate_store (p := 2) rfl ?_); refine dig_store rfl (.tmp 2) (.tmp 9) rfl g2 (tagOf 0 []) (zeros32) rfl rfl BK2.out (tagOf_len _ _) (rfl) ?_; intro ws bk hoth hbel; have nn := Aside0.mk bk; have n0 := Aside0.mk (hbel _ _ HB.out G2.out); clear HB; have HB := n0; clear n0; clear BK2 bk hoth hbel; have BK2 := nn; clear nn))
    refine bodyPost_ret (results_c rfl _ _ g2 25 (arr (tagOf 0 [])) (0, 0) _ rfl BK2.out Tryd.underlying25 rfl (by rw [arr_size, tagOf_len]; exact info_dig)) rfl ?_
    exact ⟨rfl, HB.out⟩
  · obtain rfl : n = 1 := by omega
    rw [rootP_one l hln]
    obtain ⟨ad, A0, c0, hA, hcell, bb⟩ := br.row 0 (by omega)
    subst hA
    have e0 : ad.add 0 = ad := by simp [Addr.add]
    rw [e0] at hcell
    have hsh := hs _ (List.getElem_mem (show 0 < l.length by omega))
    obtain ⟨p, hp⟩ : ∃ p, l[0]'(by omega) = p := ⟨_, rfl⟩
    rw [hp] at hcell bb hsh ⊢
    have HC := Aside0.mk hcell
    have HSH := Aside0.mk hsh
    have BB := Aside0.mk bb
    have HB := Aside0.mk (Below.refl W.heap.size W)
    clear br hln hp hs hsh bb hcell
    go_enter Tryd.func51, Tryd.ntmps51
    go_wp2_with (
      first
      | ((with_reducible refine gate_dst (N := 2) rfl ?_); refine box_event ?hg (N := 2) ?hd (cs := arr zeros32) (t := 25) ?hr ?_; (case hd => rfl); (case hg => rfl); (case hr => first | (go_simp; done) | (go_simp; rfl));
                         intro g2 hg w1 hbox hb; have BK2 := Aside0.mk hbox; have G2 := Aside0.mk (show W.heap.size ≤ g2 by rw [hg]; exact below_size HB.out); have n0 := Aside0.mk (below_step HB.out hb); clear HB; have HB := n0; clear n0; clear hb hbox hg; have hc1 := cell_below HC.out HB.out)
      | (go_at_call 63; (with_reducible refine (rOne_walk 7 (by decide) A0 p.length c0 p _ (BB.out.below HB.out) HSH.out).mono ?_); rintro e wq ⟨rfl, hb⟩; have n0 := Aside0.mk (blk_below BK2.out hb); have n1 := Aside0.mk (below_step HB.out hb); clear BK2 HB; have BK2 := n0; have HB := n1; clear n0 n1; clear hb)
      | ((with_reducible refine gate_store (p := 2) rfl ?_); refine dig_store rfl (.tmp 2) (.tmp 16) rfl g2 (tagOf 7 [p]) (zeros32) rfl rfl BK2.out (tagOf_len _ _) (rfl) ?_; intro ws bk hoth hbel; have nn := Aside0.mk bk; have n0 := Aside0.mk (hbel _ _ HB.out G2.out); clear HB; have HB := n0; clear n0; clear BK2 bk hoth hbel; have BK2 := nn; clear nn))
    refine bodyPost_ret (results_c rfl _ _ g2 25 (arr (tagOf 7 [p])) (0, 0) _ rfl BK2.out Tryd.underlying25 rfl (by rw [arr_size, tagOf_len]; exact info_dig)) rfl ?_
    exact ⟨rfl, HB.out⟩
set_option maxHeartbeats 16000000 in
set_option maxRecDepth 100000 in
theorem of13_walk (k : Nat) : ∀ (A : Option Addr) (n c : Nat) (l : List (List Int)) (W : World), Rws W A n c l → Short l → n ≤ k → n ≤ 256 →
    Calls Tryd.prog 51 #[.slice A n c] W fun e W' => e = .returned (.agg (arr (rootP l))) ∧ Below W.heap.size W W' := by
  induction k with
  | zero => intro A n c l W br hs h1 h2; exact of13_small A n c l W br hs (by omega)
  | succ k ih =>
    intro A n c l W br hs h1 h2
    by_cases h3 : n ≤ 1
    · exact of13_small A n c l W br hs h3
    · have hln := br.len
      have e := rootP_two l (by omega) (by omega)
      rw [hln] at e
      obtain ⟨m, hm⟩ : ∃ m, frontN n = m := ⟨_, rfl⟩
      have hmr := frontN_range n (by omega) h2
      rw [hm] at hmr e
      obtain ⟨hm1, hm2, hm3⟩ := hmr
      have HM3 : Aside0 (frontZ (n : Int) = (m : Int)) := ⟨hm3.symm⟩
      have hct := rows_to A n c m (by omega) br.le
      have hcf := rows_from A n c m (by omega)
      have HD2 : ∀ w, Below W.heap.size W w → Rws w (if c = m then A else A.map (·.add (m * 1))) (n - m) (c - m) (l.drop m) := fun w hw => (br.below hw).drop m (by omega)
      obtain ⟨A2, hA2⟩ : ∃ A2, (if c = m then A else A.map (·.add (m * 1))) = A2 := ⟨_, rfl⟩
      rw [hA2] at HD2
      simp only [hA2] at hcf
      obtain ⟨d1, hd1⟩ : ∃ d, rootP (l.take m) = d := ⟨_, rfl⟩
      obtain ⟨d2, hd2⟩ : ∃ d, rootP (l.drop m) = d := ⟨_, rfl⟩
      rw [hd1, hd2] at e
      have D1 : Aside0 (Dig d1) := ⟨by rw [← hd1]; exact rootP_dig _⟩
      have D2 : Aside0 (Dig d2) := ⟨by rw [← hd2]; exact rootP_dig _⟩
      have HC1 : Aside0 (∀ w, Below W.heap.size W w → Calls Tryd.prog 51 #[.slice A m c] w fun e W' => e = .returned (.agg (arr d1)) ∧ Below w.heap.size w W') := ⟨fun w hw => by
        have := ih A m c (l.take m) w ((br.below hw).take m (by omega)) (hs.take m) (by omega) (by omega)
        rwa [hd1] at this⟩
      have HC2 : Aside0 (∀ w, Below W.heap.size W w → Calls Tryd.prog 51 #[.slice A2 (n - m) (c - m)] w fun e W' => e = .returned (.agg (arr d2)) ∧ Below w.heap.size w W') := ⟨fun w hw => by
        have := ih A2 (n - m) (c - m) (l.drop m) w (HD2 w hw) (hs.drop m) (by omega) (by omega)
        rwa [hd2] at this⟩
      have HB := Aside0.mk (Below.refl W.heap.size W)
      have FF : Aside0 (beadrollref13_First.f 12 (n : Int) = some (m : Int)) := ⟨by rw [first_f (n : Int) (by omega) (by omega), HM3.out]⟩
      rw [e]
      clear e hd1 hd2 HD2 hA2 hm hm3 HM3 br hs ih hln
      go_enter Tryd.func51, Tryd.ntmps51
      go_wp2_with (
        first
        | ((with_reducible refine gate_dst (N := 2) rfl ?_); refine box_event ?hg (N := 2) ?hd (cs := arr zeros32) (t := 25) ?hr ?_; (case hd => rfl); (case hg => rfl); (case hr => first | (go_simp; done) | (go_simp; rfl));
                         intro g2 hg w1 hbox hb; have BK2 := Aside0.mk hbox; have G2 := Aside0.mk (show W.heap.size ≤ g2 by rw [hg]; exact below_size HB.out); have n0 := Aside0.mk (below_step HB.out hb); clear HB; have HB := n0; clear n0; clear hb hbox hg)
        | (go_at_call 64; (with_reducible refine (beadrollref13_First.calls 12 (n : Int) (m : Int) _ FF.out).mono ?_); rintro e wq ⟨rfl, ⟨nd, rfl⟩⟩; have n0 := Aside0.mk (blk_below BK2.out (pw_below_drewN (Below.refl _ _) nd)); have n1 := Aside0.mk (pw_below_drewN HB.out nd); clear BK2 HB; have BK2 := n0; have HB := n1; clear n0 n1))
      obtain ⟨w2, hw1⟩ : ∃ w', World.drewN w1 nd = w' := ⟨_, rfl⟩
      rw [hw1] at BK2 HB ⊢
      clear hw1
      have hb : Below w2.heap.size w2 w2.drew := below_drew (Below.refl _ _)
      refine start_ (n := 12) (S := fun w' => True) (ds := []) #[false, false, false, false, false, false, false, false, false, false, false, false] (by kernel_rfl) rfl rfl trivial (fun hHeld => ?_)
      refine with_tabW of6_tab of6_bits (fun HT_ HW_ => ?_)
      have n0 := Aside0.mk (blk_below BK2.out hb)
      have n1 := Aside0.mk (below_step HB.out hb)
      clear BK2 HB
      have BK2 := n0
      have HB := n1
      clear n0 n1
      clear hb
      generalize w2.drew = wa at BK2 HB ⊢
      refine pure_ (i := 0) (N := (some 20)) (v := ?_) (a' := ?_) #[true, false, false, false, false, false, false, false, false, false, false, false] rfl rfl (any_of HT_.out (by kernel_rfl)) (fun _ _ _ h => h) (Or.inl ⟨by rfl, ?_⟩) ?_ ?_
      rotate_left
      · intro w'
        go_simp
        first | with_reducible rfl | (simp; done) | rfl
      rotate_left
      · simp only [Act.put, List.setIfInBounds_toArray, List.set_cons_zero, List.set_cons_succ, i64_w, i32_w]
        rfl
      refine pure_ (i := 1) (N := (some 21)) (v := ?_) (a' := ?_) #[true, true, false, false, false, false, false, false, false, false, false, false] rfl rfl (any_of HT_.out (by kernel_rfl)) (fun _ _ _ h => h) (Or.inl ⟨by rfl, ?_⟩) ?_ ?_
      rotate_left
      · intro w'
        go_simp
        first | with_reducible rfl | (simp; done) | rfl
      rotate_left
      · simp only [Act.put, List.setIfInBounds_toArray, List.set_cons_zero, List.set_cons_succ, i64_w, i32_w]
        rfl
      refine pure_ (i := 2) (N := (some 22)) (v := ?_) (a' := ?_) #[true, true, true, false, false, false, false, false, false, false, false, false] rfl rfl (any_of HT_.out (by kernel_rfl)) (fun _ _ _ h => h) (Or.inl ⟨by rfl, ?_⟩) ?_ ?_
      rotate_left
      · intro w'
        go_simp
        first | with_reducible rfl | (simp; done) | rfl
      rotate_left
      · simp only [Act.put, List.setIfInBounds_toArray, List.set_cons_zero, List.set_cons_succ, i64_w, i32_w]
        rfl
      refine pure_ (i := 4) (N := (some 24)) (v := ?_) (a' := ?_) #[true, true, true, false, true, false, false, false, false, false, false, false] rfl rfl (any_of HT_.out (by kernel_rfl)) (fun _ _ _ h => h) (Or.inl ⟨by rfl, ?_⟩) ?_ ?_
      rotate_left
      · intro w'
        go_simp
        first | with_reducible rfl | (simp; done) | rfl
      rotate_left
      · simp only [Act.put, List.setIfInBounds_toArray, List.set_cons_zero, List.set_cons_succ, i64_w, i32_w]
        rfl
      refine pure_ (i := 5) (N := (some 25)) (v := ?_) (a' := ?_) #[true, true, true, false, true, true, false, false, false, false, false, false] rfl rfl (any_of HT_.out (by kernel_rfl)) (fun _ _ _ h => h) (Or.inl ⟨by rfl, ?_⟩) ?_ ?_
      rotate_left
      · intro w'
        go_simp
        first | with_reducible rfl | (simp; done) | rfl
      rotate_left
      · simp only [Act.put, List.setIfInBounds_toArray, List.set_cons_zero, List.set_cons_succ, i64_w, i32_w]
        rfl
      refine pure_ (i := 6) (N := (some 26)) (v := ?_) (a' := ?_) #[true, true, true, false, true, true, true, false, false, false, false, false] rfl rfl (any_of HT_.out (by kernel_rfl)) (fun _ _ _ h => h) (Or.inl ⟨by rfl, ?_⟩) ?_ ?_
      rotate_left
      · intro w'
        go_simp
        first | with_reducible rfl | (simp; done) | rfl
      rotate_left
      · simp only [Act.put, List.setIfInBounds_toArray, List.set_cons_zero, List.set_cons_succ, i64_w, i32_w]
        rfl
      refine join_ (σ := Nat × Nat) 2 #[true, true, true, true, true, true, true, true, true, true, false, false] (fun s => [(23, .agg (arr d1)), (27, .agg (arr d2)), (4, .pointer (some ⟨s.1, 0, none⟩)), (5, .pointer (some ⟨s.2, 0, none⟩))]) (fun s w' => w'.heap[s.1]? = some (.cells (arr zeros32) 25 (0, 0)) ∧ w'.heap[s.2]? = some (.cells (arr zeros32) 25 (0, 0)) ∧ s.1 ≠ s.2 ∧ g2 ≠ s.1 ∧ g2 ≠ s.2 ∧ W.heap.size ≤ s.1 ∧ W.heap.size ≤ s.2 ∧ w'.heap[g2]? = some (.cells (arr zeros32) 25 (0, 0)) ∧ Below W.heap.size W w') ?_ ?_
      rotate_left
      · intro hcont
        refine three_ (i := 3) (j := 8) (k := 9) #[true, true, true, true, true, true, true, false, false, false, false, false] #[true, true, true, false, true, true, true, false, true, false, false, false] #[true, true, true, false, true, true, true, false, false, true, false, false] rfl rfl rfl rfl rfl rfl (three_of HT_.out (by kernel_rfl)) (by decide) (by decide) (by decide) (fun K hK => ?_) (fun K hK => ?_) (fun K hK => ?_)
        · refine goes_ Tryd.func51 (by kernel_rfl) rfl #[.slice A m c] (by rfl) rfl rfl (by (try simp only [List.map_toArray, List.map_cons, List.map_nil]); first | done | rfl) ?_
          with_reducible refine (HC1.out _ HB.out).mono ?_
          rintro e0 v1 ⟨rfl, hb⟩
          refine ⟨_, rfl, ?_⟩
          have n0 := Aside0.mk (blk_below BK2.out hb)
          have n1 := Aside0.mk (below_step HB.out hb)
          clear BK2 HB
          have BK2 := n0
          have HB := n1
          clear n0 n1
          clear hb
          refine hK.out _ _ trivial (fun _ => ?_)
          clear hK K
          refine norm_ (a' := ?_) ?_ ?_
          rotate_left
          · show Act.put _ (some 23) _ = _
            simp only [Act.put, List.setIfInBounds_toArray, List.set_cons_zero, List.set_cons_succ, i64_w, i32_w]
            rfl
          refine three_ (i := 7) (j := 8) (k := 9) #[true, true, true, true, true, true, true, true, false, false, false, false] #[true, true, true, true, true, true, true, false, true, false, false, false] #[true, true, true, true, true, true, true, false, false, true, false, false] rfl rfl rfl rfl rfl rfl (three_of HT_.out (by kernel_rfl)) (by decide) (by decide) (by decide) (fun K hK => ?_) (fun K hK => ?_) (fun K hK => ?_)
          · refine goes_ Tryd.func51 (by kernel_rfl) rfl #[.slice A2 (n - m) (c - m)] (by rfl) rfl rfl (by (try simp only [List.map_toArray, List.map_cons, List.map_nil]); first | done | rfl) ?_
            with_reducible refine (HC2.out _ HB.out).mono ?_
            rintro e0 v2 ⟨rfl, hb⟩
            refine ⟨_, rfl, ?_⟩
            have n0 := Aside0.mk (blk_below BK2.out hb)
            have n1 := Aside0.mk (below_step HB.out hb)
            clear BK2 HB
            have BK2 := n0
            have HB := n1
            clear n0 n1
            clear hb
            refine hK.out _ _ trivial (fun _ => ?_)
            clear hK K
            refine norm_ (a' := ?_) ?_ ?_
            rotate_left
            · show Act.put _ (some 27) _ = _
              simp only [Act.put, List.setIfInBounds_toArray, List.set_cons_zero, List.set_cons_succ, i64_w, i32_w]
              rfl
            refine two_ (i := 8) (j := 9) #[true, true, true, true, true, true, true, true, true, false, false, false] #[true, true, true, true, true, true, true, true, false, true, false, false] rfl rfl rfl rfl (two_of HT_.out (by kernel_rfl)) (by decide) (by decide) (fun K hK => ?_) (fun K hK => ?_)
            · refine value_ (v := .pointer (some ⟨v2.heap.size, 0, none⟩)) (w1 := v2.alloc (.cells (arr zeros32) 25)) (by rfl) rfl ?_ ?_
              · go_simp
                first | done | rfl
              obtain ⟨g4, hg⟩ : ∃ g, v2.heap.size = g := ⟨_, rfl⟩
              have hb := below_new v2 (.cells (arr zeros32) 25)
              have hk := blk_new v2 (.cells (arr zeros32) 25)
              have G4 := Aside0.mk (show W.heap.size ≤ g4 by rw [← hg]; exact below_size HB.out)
              have N2_4 := Aside0.mk (show g2 ≠ g4 by rw [← hg]; exact Nat.ne_of_lt (blk_lt BK2.out))
              generalize v2.alloc (.cells (arr zeros32) 25) = v3 at hb hk ⊢
              have n0 := Aside0.mk (blk_below BK2.out hb)
              have n1 := Aside0.mk (below_step HB.out hb)
              clear BK2 HB
              have BK2 := n0
              have HB := n1
              clear n0 n1
              clear hb
              rw [hg] at hk ⊢
              have BK4 := Aside0.mk hk
              clear hk hg
              refine hK.out _ _ trivial (fun _ => ?_)
              clear hK K
              refine norm_ (a' := ?_) ?_ ?_
              rotate_left
              · show Act.put _ (some 4) _ = _
                simp only [Act.put, List.setIfInBounds_toArray, List.set_cons_zero, List.set_cons_succ, i64_w, i32_w]
                rfl
              refine one_ (i := 9) (N := some 5) #[true, true, true, true, true, true, true, true, true, true, false, false] rfl rfl (one_of HT_.out (by kernel_rfl)) (by decide) (fun K hK => ?_)
              refine value_ (v := .pointer (some ⟨v3.heap.size, 0, none⟩)) (w1 := v3.alloc (.cells (arr zeros32) 25)) (by rfl) rfl ?_ ?_
              · go_simp
                first | done | rfl
              obtain ⟨g5, hg⟩ : ∃ g, v3.heap.size = g := ⟨_, rfl⟩
              have hb := below_new v3 (.cells (arr zeros32) 25)
              have hk := blk_new v3 (.cells (arr zeros32) 25)
              have G5 := Aside0.mk (show W.heap.size ≤ g5 by rw [← hg]; exact below_size HB.out)
              have N2_5 := Aside0.mk (show g2 ≠ g5 by rw [← hg]; exact Nat.ne_of_lt (blk_lt BK2.out))
              have N45 := Aside0.mk (show g4 ≠ g5 by rw [← hg]; exact Nat.ne_of_lt (blk_lt BK4.out))
              generalize v3.alloc (.cells (arr zeros32) 25) = v4 at hb hk ⊢
              have n0 := Aside0.mk (blk_below BK2.out hb)
              have n1 := Aside0.mk (blk_below BK4.out hb)
              have n2 := Aside0.mk (below_step HB.out hb)
              clear BK2 BK4 HB
              have BK2 := n0
              have BK4 := n1
              have HB := n2
              clear n0 n1 n2
              clear hb
              rw [hg] at hk ⊢
              have BK5 := Aside0.mk hk
              clear hk hg
              refine hK.out _ _ trivial (fun _ => ?_)
              clear hK K
              refine norm_ (a' := ?_) ?_ ?_
              rotate_left
              · show Act.put _ (some 5) _ = _
                simp only [Act.put, List.setIfInBounds_toArray, List.set_cons_zero, List.set_cons_succ, i64_w, i32_w]
                rfl
              have hz := hcont (g4, g5) _ ⟨BK4.out, BK5.out, N45.out, N2_4.out, N2_5.out, G4.out, G5.out, BK2.out, HB.out⟩
              simp only [putAll, Act.put, List.setIfInBounds_toArray, List.set_cons_zero, List.set_cons_succ, i64_w, i32_w] at hz
              exact hz
            · refine value_ (v := .pointer (some ⟨v2.heap.size, 0, none⟩)) (w1 := v2.alloc (.cells (arr zeros32) 25)) (by rfl) rfl ?_ ?_
              · go_simp
                first | done | rfl
              obtain ⟨g5, hg⟩ : ∃ g, v2.heap.size = g := ⟨_, rfl⟩
              have hb := below_new v2 (.cells (arr zeros32) 25)
              have hk := blk_new v2 (.cells (arr zeros32) 25)
              have G5 := Aside0.mk (show W.heap.size ≤ g5 by rw [← hg]; exact below_size HB.out)
              have N2_5 := Aside0.mk (show g2 ≠ g5 by rw [← hg]; exact Nat.ne_of_lt (blk_lt BK2.out))
              generalize v2.alloc (.cells (arr zeros32) 25) = v5 at hb hk ⊢
              have n0 := Aside0.mk (blk_below BK2.out hb)
              have n1 := Aside0.mk (below_step HB.out hb)
              clear BK2 HB
              have BK2 := n0
              have HB := n1
              clear n0 n1
              clear hb
              rw [hg] at hk ⊢
              have BK5 := Aside0.mk hk
              clear hk hg
              refine hK.out _ _ trivial (fun _ => ?_)
              clear hK K
              refine norm_ (a' := ?_) ?_ ?_
              rotate_left
              · show Act.put _ (some 5) _ = _
                simp only [Act.put, List.setIfInBounds_toArray, List.set_cons_zero, List.set_cons_succ, i64_w, i32_w]
                rfl
              refine one_ (i := 8) (N := some 4) #[true, true, true, true, true, true, true, true, true, true, false, false] rfl rfl (one_of HT_.out (by kernel_rfl)) (by decide) (fun K hK => ?_)
              refine value_ (v := .pointer (some ⟨v5.heap.size, 0, none⟩)) (w1 := v5.alloc (.cells (arr zeros32) 25)) (by rfl) rfl ?_ ?_
              · go_simp
                first | done | rfl
              obtain ⟨g4, hg⟩ : ∃ g, v5.heap.size = g := ⟨_, rfl⟩
              have hb := below_new v5 (.cells (arr zeros32) 25)
              have hk := blk_new v5 (.cells (arr zeros32) 25)
              have G4 := Aside0.mk (show W.heap.size ≤ g4 by rw [← hg]; exact below_size HB.out)
              have N2_4 := Aside0.mk (show g2 ≠ g4 by rw [← hg]; exact Nat.ne_of_lt (blk_lt BK2.out))
              have N45 := Aside0.mk (show g4 ≠ g5 by rw [← hg]; exact Nat.ne_of_gt (blk_lt BK5.out))
              generalize v5.alloc (.cells (arr zeros32) 25) = v6 at hb hk ⊢
              have n0 := Aside0.mk (blk_below BK2.out hb)
              have n1 := Aside0.mk (blk_below BK5.out hb)
              have n2 := Aside0.mk (below_step HB.out hb)
              clear BK2 BK5 HB
              have BK2 := n0
              have BK5 := n1
              have HB := n2
              clear n0 n1 n2
              clear hb
              rw [hg] at hk ⊢
              have BK4 := Aside0.mk hk
              clear hk hg
              refine hK.out _ _ trivial (fun _ => ?_)
              clear hK K
              refine norm_ (a' := ?_) ?_ ?_
              rotate_left
              · show Act.put _ (some 4) _ = _
                simp only [Act.put, List.setIfInBounds_toArray, List.set_cons_zero, List.set_cons_succ, i64_w, i32_w]
                rfl
              have hz := hcont (g4, g5) _ ⟨BK4.out, BK5.out, N45.out, N2_4.out, N2_5.out, G4.out, G5.out, BK2.out, HB.out⟩
              simp only [putAll, Act.put, List.setIfInBounds_toArray, List.set_cons_zero, List.set_cons_succ, i64_w, i32_w] at hz
              exact hz
          · refine value_ (v := .pointer (some ⟨v1.heap.size, 0, none⟩)) (w1 := v1.alloc (.cells (arr zeros32) 25)) (by rfl) rfl ?_ ?_
            · go_simp
              first | done | rfl
            obtain ⟨g4, hg⟩ : ∃ g, v1.heap.size = g := ⟨_, rfl⟩
            have hb := below_new v1 (.cells (arr zeros32) 25)
            have hk := blk_new v1 (.cells (arr zeros32) 25)
            have G4 := Aside0.mk (show W.heap.size ≤ g4 by rw [← hg]; exact below_size HB.out)
            have N2_4 := Aside0.mk (show g2 ≠ g4 by rw [← hg]; exact Nat.ne_of_lt (blk_lt BK2.out))
            generalize v1.alloc (.cells (arr zeros32) 25) = v7 at hb hk ⊢
            have n0 := Aside0.mk (blk_below BK2.out hb)
            have n1 := Aside0.mk (below_step HB.out hb)
            clear BK2 HB
            have BK2 := n0
            have HB := n1
            clear n0 n1
            clear hb
            rw [hg] at hk ⊢
            have BK4 := Aside0.mk hk
            clear hk hg
            refine hK.out _ _ trivial (fun _ => ?_)
            clear hK K
            refine norm_ (a' := ?_) ?_ ?_
            rotate_left
            · show Act.put _ (some 4) _ = _
              simp only [Act.put, List.setIfInBounds_toArray, List.set_cons_zero, List.set_cons_succ, i64_w, i32_w]
              rfl
            refine two_ (i := 7) (j := 9) #[true, true, true, true, true, true, true, true, true, false, false, false] #[true, true, true, true, true, true, true, false, true, true, false, false] rfl rfl rfl rfl (two_of HT_.out (by kernel_rfl)) (by decide) (by decide) (fun K hK => ?_) (fun K hK => ?_)
            · refine goes_ Tryd.func51 (by kernel_rfl) rfl #[.slice A2 (n - m) (c - m)] (by rfl) rfl rfl (by (try simp only [List.map_toArray, List.map_cons, List.map_nil]); first | done | rfl) ?_
              with_reducible refine (HC2.out _ HB.out).mono ?_
              rintro e0 v8 ⟨rfl, hb⟩
              refine ⟨_, rfl, ?_⟩
              have n0 := Aside0.mk (blk_below BK2.out hb)
              have n1 := Aside0.mk (blk_below BK4.out hb)
              have n2 := Aside0.mk (below_step HB.out hb)
              clear BK2 BK4 HB
              have BK2 := n0
              have BK4 := n1
              have HB := n2
              clear n0 n1 n2
              clear hb
              refine hK.out _ _ trivial (fun _ => ?_)
              clear hK K
              refine norm_ (a' := ?_) ?_ ?_
              rotate_left
              · show Act.put _ (some 27) _ = _
                simp only [Act.put, List.setIfInBounds_toArray, List.set_cons_zero, List.set_cons_succ, i64_w, i32_w]
                rfl
              refine one_ (i := 9) (N := some 5) #[true, true, true, true, true, true, true, true, true, true, false, false] rfl rfl (one_of HT_.out (by kernel_rfl)) (by decide) (fun K hK => ?_)
              refine value_ (v := .pointer (some ⟨v8.heap.size, 0, none⟩)) (w1 := v8.alloc (.cells (arr zeros32) 25)) (by rfl) rfl ?_ ?_
              · go_simp
                first | done | rfl
              obtain ⟨g5, hg⟩ : ∃ g, v8.heap.size = g := ⟨_, rfl⟩
              have hb := below_new v8 (.cells (arr zeros32) 25)
              have hk := blk_new v8 (.cells (arr zeros32) 25)
              have G5 := Aside0.mk (show W.heap.size ≤ g5 by rw [← hg]; exact below_size HB.out)
              have N2_5 := Aside0.mk (show g2 ≠ g5 by rw [← hg]; exact Nat.ne_of_lt (blk_lt BK2.out))
              have N45 := Aside0.mk (show g4 ≠ g5 by rw [← hg]; exact Nat.ne_of_lt (blk_lt BK4.out))
              generalize v8.alloc (.cells (arr zeros32) 25) = v9 at hb hk ⊢
              have n0 := Aside0.mk (blk_below BK2.out hb)
              have n1 := Aside0.mk (blk_below BK4.out hb)
              have n2 := Aside0.mk (below_step HB.out hb)
              clear BK2 BK4 HB
              have BK2 := n0
              have BK4 := n1
              have HB := n2
              clear n0 n1 n2
              clear hb
              rw [hg] at hk ⊢
              have BK5 := Aside0.mk hk
              clear hk hg
              refine hK.out _ _ trivial (fun _ => ?_)
              clear hK K
              refine norm_ (a' := ?_) ?_ ?_
              rotate_left
              · show Act.put _ (some 5) _ = _
                simp only [Act.put, List.setIfInBounds_toArray, List.set_cons_zero, List.set_cons_succ, i64_w, i32_w]
                rfl
              have hz := hcont (g4, g5) _ ⟨BK4.out, BK5.out, N45.out, N2_4.out, N2_5.out, G4.out, G5.out, BK2.out, HB.out⟩
              simp only [putAll, Act.put, List.setIfInBounds_toArray, List.set_cons_zero, List.set_cons_succ, i64_w, i32_w] at hz
              exact hz
            · refine value_ (v := .pointer (some ⟨v7.heap.size, 0, none⟩)) (w1 := v7.alloc (.cells (arr zeros32) 25)) (by rfl) rfl ?_ ?_
              · go_simp
                first | done | rfl
              obtain ⟨g5, hg⟩ : ∃ g, v7.heap.size = g := ⟨_, rfl⟩
              have hb := below_new v7 (.cells (arr zeros32) 25)
              have hk := blk_new v7 (.cells (arr zeros32) 25)
              have G5 := Aside0.mk (show W.heap.size ≤ g5 by rw [← hg]; exact below_size HB.out)
              have N2_5 := Aside0.mk (show g2 ≠ g5 by rw [← hg]; exact Nat.ne_of_lt (blk_lt BK2.out))
              have N45 := Aside0.mk (show g4 ≠ g5 by rw [← hg]; exact Nat.ne_of_lt (blk_lt BK4.out))
              generalize v7.alloc (.cells (arr zeros32) 25) = v10 at hb hk ⊢
              have n0 := Aside0.mk (blk_below BK2.out hb)
              have n1 := Aside0.mk (blk_below BK4.out hb)
              have n2 := Aside0.mk (below_step HB.out hb)
              clear BK2 BK4 HB
              have BK2 := n0
              have BK4 := n1
              have HB := n2
              clear n0 n1 n2
              clear hb
              rw [hg] at hk ⊢
              have BK5 := Aside0.mk hk
              clear hk hg
              refine hK.out _ _ trivial (fun _ => ?_)
              clear hK K
              refine norm_ (a' := ?_) ?_ ?_
              rotate_left
              · show Act.put _ (some 5) _ = _
                simp only [Act.put, List.setIfInBounds_toArray, List.set_cons_zero, List.set_cons_succ, i64_w, i32_w]
                rfl
              refine one_ (i := 7) (N := some 27) #[true, true, true, true, true, true, true, true, true, true, false, false] rfl rfl (one_of HT_.out (by kernel_rfl)) (by decide) (fun K hK => ?_)
              refine goes_ Tryd.func51 (by kernel_rfl) rfl #[.slice A2 (n - m) (c - m)] (by rfl) rfl rfl (by (try simp only [List.map_toArray, List.map_cons, List.map_nil]); first | done | rfl) ?_
              with_reducible refine (HC2.out _ HB.out).mono ?_
              rintro e0 v11 ⟨rfl, hb⟩
              refine ⟨_, rfl, ?_⟩
              have n0 := Aside0.mk (blk_below BK2.out hb)
              have n1 := Aside0.mk (blk_below BK4.out hb)
              have n2 := Aside0.mk (blk_below BK5.out hb)
              have n3 := Aside0.mk (below_step HB.out hb)
              clear BK2 BK4 BK5 HB
              have BK2 := n0
              have BK4 := n1
              have BK5 := n2
              have HB := n3
              clear n0 n1 n2 n3
              clear hb
              refine hK.out _ _ trivial (fun _ => ?_)
              clear hK K
              refine norm_ (a' := ?_) ?_ ?_
              rotate_left
              · show Act.put _ (some 27) _ = _
                simp only [Act.put, List.setIfInBounds_toArray, List.set_cons_zero, List.set_cons_succ, i64_w, i32_w]
                rfl
              have hz := hcont (g4, g5) _ ⟨BK4.out, BK5.out, N45.out, N2_4.out, N2_5.out, G4.out, G5.out, BK2.out, HB.out⟩
              simp only [putAll, Act.put, List.setIfInBounds_toArray, List.set_cons_zero, List.set_cons_succ, i64_w, i32_w] at hz
              exact hz
          · refine value_ (v := .pointer (some ⟨v1.heap.size, 0, none⟩)) (w1 := v1.alloc (.cells (arr zeros32) 25)) (by rfl) rfl ?_ ?_
            · go_simp
              first | done | rfl
            obtain ⟨g5, hg⟩ : ∃ g, v1.heap.size = g := ⟨_, rfl⟩
            have hb := below_new v1 (.cells (arr zeros32) 25)
            have hk := blk_new v1 (.cells (arr zeros32) 25)
            have G5 := Aside0.mk (show W.heap.size ≤ g5 by rw [← hg]; exact below_size HB.out)
            have N2_5 := Aside0.mk (show g2 ≠ g5 by rw [← hg]; exact Nat.ne_of_lt (blk_lt BK2.out))
            generalize v1.alloc (.cells (arr zeros32) 25) = v12 at hb hk ⊢
            have n0 := Aside0.mk (blk_below BK2.out hb)
            have n1 := Aside0.mk (below_step HB.out hb)
            clear BK2 HB
            have BK2 := n0
            have HB := n1
            clear n0 n1
            clear hb
            rw [hg] at hk ⊢
            have BK5 := Aside0.mk hk
            clear hk hg
            refine hK.out _ _ trivial (fun _ => ?_)
            clear hK K
            refine norm_ (a' := ?_) ?_ ?_
            rotate_left
            · show Act.put _ (some 5) _ = _
              simp only [Act.put, List.setIfInBounds_toArray, List.set_cons_zero, List.set_cons_succ, i64_w, i32_w]
              rfl
            refine two_ (i := 7) (j := 8) #[true, true, true, true, true, true, true, true, false, true, false, false] #[true, true, true, true, true, true, true, false, true, true, false, false] rfl rfl rfl rfl (two_of HT_.out (by kernel_rfl)) (by decide) (by decide) (fun K hK => ?_) (fun K hK => ?_)
            · refine goes_ Tryd.func51 (by kernel_rfl) rfl #[.slice A2 (n - m) (c - m)] (by rfl) rfl rfl (by (try simp only [List.map_toArray, List.map_cons, List.map_nil]); first | done | rfl) ?_
              with_reducible refine (HC2.out _ HB.out).mono ?_
              rintro e0 v13 ⟨rfl, hb⟩
              refine ⟨_, rfl, ?_⟩
              have n0 := Aside0.mk (blk_below BK2.out hb)
              have n1 := Aside0.mk (blk_below BK5.out hb)
              have n2 := Aside0.mk (below_step HB.out hb)
              clear BK2 BK5 HB
              have BK2 := n0
              have BK5 := n1
              have HB := n2
              clear n0 n1 n2
              clear hb
              refine hK.out _ _ trivial (fun _ => ?_)
              clear hK K
              refine norm_ (a' := ?_) ?_ ?_
              rotate_left
              · show Act.put _ (some 27) _ = _
                simp only [Act.put, List.setIfInBounds_toArray, List.set_cons_zero, List.set_cons_succ, i64_w, i32_w]
                rfl
              refine one_ (i := 8) (N := some 4) #[true, true, true, true, true, true, true, true, true, true, false, false] rfl rfl (one_of HT_.out (by kernel_rfl)) (by decide) (fun K hK => ?_)
              refine value_ (v := .pointer (some ⟨v13.heap.size, 0, none⟩)) (w1 := v13.alloc (.cells (arr zeros32) 25)) (by rfl) rfl ?_ ?_
              · go_simp
                first | done | rfl
              obtain ⟨g4, hg⟩ : ∃ g, v13.heap.size = g := ⟨_, rfl⟩
              have hb := below_new v13 (.cells (arr zeros32) 25)
              have hk := blk_new v13 (.cells (arr zeros32) 25)
              have G4 := Aside0.mk (show W.heap.size ≤ g4 by rw [← hg]; exact below_size HB.out)
              have N2_4 := Aside0.mk (show g2 ≠ g4 by rw [← hg]; exact Nat.ne_of_lt (blk_lt BK2.out))
              have N45 := Aside0.mk (show g4 ≠ g5 by rw [← hg]; exact Nat.ne_of_gt (blk_lt BK5.out))
              generalize v13.alloc (.cells (arr zeros32) 25) = v14 at hb hk ⊢
              have n0 := Aside0.mk (blk_below BK2.out hb)
              have n1 := Aside0.mk (blk_below BK5.out hb)
              have n2 := Aside0.mk (below_step HB.out hb)
              clear BK2 BK5 HB
              have BK2 := n0
              have BK5 := n1
              have HB := n2
              clear n0 n1 n2
              clear hb
              rw [hg] at hk ⊢
              have BK4 := Aside0.mk hk
              clear hk hg
              refine hK.out _ _ trivial (fun _ => ?_)
              clear hK K
              refine norm_ (a' := ?_) ?_ ?_
              rotate_left
              · show Act.put _ (some 4) _ = _
                simp only [Act.put, List.setIfInBounds_toArray, List.set_cons_zero, List.set_cons_succ, i64_w, i32_w]
                rfl
              have hz := hcont (g4, g5) _ ⟨BK4.out, BK5.out, N45.out, N2_4.out, N2_5.out, G4.out, G5.out, BK2.out, HB.out⟩
              simp only [putAll, Act.put, List.setIfInBounds_toArray, List.set_cons_zero, List.set_cons_succ, i64_w, i32_w] at hz
              exact hz
            · refine value_ (v := .pointer (some ⟨v12.heap.size, 0, none⟩)) (w1 := v12.alloc (.cells (arr zeros32) 25)) (by rfl) rfl ?_ ?_
              · go_simp
                first | done | rfl
              obtain ⟨g4, hg⟩ : ∃ g, v12.heap.size = g := ⟨_, rfl⟩
              have hb := below_new v12 (.cells (arr zeros32) 25)
              have hk := blk_new v12 (.cells (arr zeros32) 25)
              have G4 := Aside0.mk (show W.heap.size ≤ g4 by rw [← hg]; exact below_size HB.out)
              have N2_4 := Aside0.mk (show g2 ≠ g4 by rw [← hg]; exact Nat.ne_of_lt (blk_lt BK2.out))
              have N45 := Aside0.mk (show g4 ≠ g5 by rw [← hg]; exact Nat.ne_of_gt (blk_lt BK5.out))
              generalize v12.alloc (.cells (arr zeros32) 25) = v15 at hb hk ⊢
              have n0 := Aside0.mk (blk_below BK2.out hb)
              have n1 := Aside0.mk (blk_below BK5.out hb)
              have n2 := Aside0.mk (below_step HB.out hb)
              clear BK2 BK5 HB
              have BK2 := n0
              have BK5 := n1
              have HB := n2
              clear n0 n1 n2
              clear hb
              rw [hg] at hk ⊢
              have BK4 := Aside0.mk hk
              clear hk hg
              refine hK.out _ _ trivial (fun _ => ?_)
              clear hK K
              refine norm_ (a' := ?_) ?_ ?_
              rotate_left
              · show Act.put _ (some 4) _ = _
                simp only [Act.put, List.setIfInBounds_toArray, List.set_cons_zero, List.set_cons_succ, i64_w, i32_w]
                rfl
              refine one_ (i := 7) (N := some 27) #[true, true, true, true, true, true, true, true, true, true, false, false] rfl rfl (one_of HT_.out (by kernel_rfl)) (by decide) (fun K hK => ?_)
              refine goes_ Tryd.func51 (by kernel_rfl) rfl #[.slice A2 (n - m) (c - m)] (by rfl) rfl rfl (by (try simp only [List.map_toArray, List.map_cons, List.map_nil]); first | done | rfl) ?_
              with_reducible refine (HC2.out _ HB.out).mono ?_
              rintro e0 v16 ⟨rfl, hb⟩
              refine ⟨_, rfl, ?_⟩
              have n0 := Aside0.mk (blk_below BK2.out hb)
              have n1 := Aside0.mk (blk_below BK4.out hb)
              have n2 := Aside0.mk (blk_below BK5.out hb)
              have n3 := Aside0.mk (below_step HB.out hb)
              clear BK2 BK4 BK5 HB
              have BK2 := n0
              have BK4 := n1
              have BK5 := n2
              have HB := n3
              clear n0 n1 n2 n3
              clear hb
              refine hK.out _ _ trivial (fun _ => ?_)
              clear hK K
              refine norm_ (a' := ?_) ?_ ?_
              rotate_left
              · show Act.put _ (some 27) _ = _
                simp only [Act.put, List.setIfInBounds_toArray, List.set_cons_zero, List.set_cons_succ, i64_w, i32_w]
                rfl
              have hz := hcont (g4, g5) _ ⟨BK4.out, BK5.out, N45.out, N2_4.out, N2_5.out, G4.out, G5.out, BK2.out, HB.out⟩
              simp only [putAll, Act.put, List.setIfInBounds_toArray, List.set_cons_zero, List.set_cons_succ, i64_w, i32_w] at hz
              exact hz
        · refine value_ (v := .pointer (some ⟨wa.heap.size, 0, none⟩)) (w1 := wa.alloc (.cells (arr zeros32) 25)) (by rfl) rfl ?_ ?_
          · go_simp
            first | done | rfl
          obtain ⟨g4, hg⟩ : ∃ g, wa.heap.size = g := ⟨_, rfl⟩
          have hb := below_new wa (.cells (arr zeros32) 25)
          have hk := blk_new wa (.cells (arr zeros32) 25)
          have G4 := Aside0.mk (show W.heap.size ≤ g4 by rw [← hg]; exact below_size HB.out)
          have N2_4 := Aside0.mk (show g2 ≠ g4 by rw [← hg]; exact Nat.ne_of_lt (blk_lt BK2.out))
          generalize wa.alloc (.cells (arr zeros32) 25) = v17 at hb hk ⊢
          have n0 := Aside0.mk (blk_below BK2.out hb)
          have n1 := Aside0.mk (below_step HB.out hb)
          clear BK2 HB
          have BK2 := n0
          have HB := n1
          clear n0 n1
          clear hb
          rw [hg] at hk ⊢
          have BK4 := Aside0.mk hk
          clear hk hg
          refine hK.out _ _ trivial (fun _ => ?_)
          clear hK K
          refine norm_ (a' := ?_) ?_ ?_
          rotate_left
          · show Act.put _ (some 4) _ = _
            simp only [Act.put, List.setIfInBounds_toArray, List.set_cons_zero, List.set_cons_succ, i64_w, i32_w]
            rfl
          refine two_ (i := 3) (j := 9) #[true, true, true, true, true, true, true, false, true, false, false, false] #[true, true, true, false, true, true, true, false, true, true, false, false] rfl rfl rfl rfl (two_of HT_.out (by kernel_rfl)) (by decide) (by decide) (fun K hK => ?_) (fun K hK => ?_)
          · refine goes_ Tryd.func51 (by kernel_rfl) rfl #[.slice A m c] (by rfl) rfl rfl (by (try simp only [List.map_toArray, List.map_cons, List.map_nil]); first | done | rfl) ?_
            with_reducible refine (HC1.out _ HB.out).mono ?_
            rintro e0 v18 ⟨rfl, hb⟩
            refine ⟨_, rfl, ?_⟩
            have n0 := Aside0.mk (blk_below BK2.out hb)
            have n1 := Aside0.mk (blk_below BK4.out hb)
            have n2 := Aside0.mk (below_step HB.out hb)
            clear BK2 BK4 HB
            have BK2 := n0
            have BK4 := n1
            have HB := n2
            clear n0 n1 n2
            clear hb
            refine hK.out _ _ trivial (fun _ => ?_)
            clear hK K
            refine norm_ (a' := ?_) ?_ ?_
            rotate_left
            · show Act.put _ (some 23) _ = _
              simp only [Act.put, List.setIfInBounds_toArray, List.set_cons_zero, List.set_cons_succ, i64_w, i32_w]
              rfl
            refine two_ (i := 7) (j := 9) #[true, true, true, true, true, true, true, true, true, false, false, false] #[true, true, true, true, true, true, true, false, true, true, false, false] rfl rfl rfl rfl (two_of HT_.out (by kernel_rfl)) (by decide) (by decide) (fun K hK => ?_) (fun K hK => ?_)
            · refine goes_ Tryd.func51 (by kernel_rfl) rfl #[.slice A2 (n - m) (c - m)] (by rfl) rfl rfl (by (try simp only [List.map_toArray, List.map_cons, List.map_nil]); first | done | rfl) ?_
              with_reducible refine (HC2.out _ HB.out).mono ?_
              rintro e0 v19 ⟨rfl, hb⟩
              refine ⟨_, rfl, ?_⟩
              have n0 := Aside0.mk (blk_below BK2.out hb)
              have n1 := Aside0.mk (blk_below BK4.out hb)
              have n2 := Aside0.mk (below_step HB.out hb)
              clear BK2 BK4 HB
              have BK2 := n0
              have BK4 := n1
              have HB := n2
              clear n0 n1 n2
              clear hb
              refine hK.out _ _ trivial (fun _ => ?_)
              clear hK K
              refine norm_ (a' := ?_) ?_ ?_
              rotate_left
              · show Act.put _ (some 27) _ = _
                simp only [Act.put, List.setIfInBounds_toArray, List.set_cons_zero, List.set_cons_succ, i64_w, i32_w]
                rfl
              refine one_ (i := 9) (N := some 5) #[true, true, true, true, true, true, true, true, true, true, false, false] rfl rfl (one_of HT_.out (by kernel_rfl)) (by decide) (fun K hK => ?_)
              refine value_ (v := .pointer (some ⟨v19.heap.size, 0, none⟩)) (w1 := v19.alloc (.cells (arr zeros32) 25)) (by rfl) rfl ?_ ?_
              · go_simp
                first | done | rfl
              obtain ⟨g5, hg⟩ : ∃ g, v19.heap.size = g := ⟨_, rfl⟩
              have hb := below_new v19 (.cells (arr zeros32) 25)
              have hk := blk_new v19 (.cells (arr zeros32) 25)
              have G5 := Aside0.mk (show W.heap.size ≤ g5 by rw [← hg]; exact below_size HB.out)
              have N2_5 := Aside0.mk (show g2 ≠ g5 by rw [← hg]; exact Nat.ne_of_lt (blk_lt BK2.out))
              have N45 := Aside0.mk (show g4 ≠ g5 by rw [← hg]; exact Nat.ne_of_lt (blk_lt BK4.out))
              generalize v19.alloc (.cells (arr zeros32) 25) = v20 at hb hk ⊢
              have n0 := Aside0.mk (blk_below BK2.out hb)
              have n1 := Aside0.mk (blk_below BK4.out hb)
              have n2 := Aside0.mk (below_step HB.out hb)
              clear BK2 BK4 HB
              have BK2 := n0
              have BK4 := n1
              have HB := n2
              clear n0 n1 n2
              clear hb
              rw [hg] at hk ⊢
              have BK5 := Aside0.mk hk
              clear hk hg
              refine hK.out _ _ trivial (fun _ => ?_)
              clear hK K
              refine norm_ (a' := ?_) ?_ ?_
              rotate_left
              · show Act.put _ (some 5) _ = _
                simp only [Act.put, List.setIfInBounds_toArray, List.set_cons_zero, List.set_cons_succ, i64_w, i32_w]
                rfl
              have hz := hcont (g4, g5) _ ⟨BK4.out, BK5.out, N45.out, N2_4.out, N2_5.out, G4.out, G5.out, BK2.out, HB.out⟩
              simp only [putAll, Act.put, List.setIfInBounds_toArray, List.set_cons_zero, List.set_cons_succ, i64_w, i32_w] at hz
              exact hz
            · refine value_ (v := .pointer (some ⟨v18.heap.size, 0, none⟩)) (w1 := v18.alloc (.cells (arr zeros32) 25)) (by rfl) rfl ?_ ?_
              · go_simp
                first | done | rfl
              obtain ⟨g5, hg⟩ : ∃ g, v18.heap.size = g := ⟨_, rfl⟩
              have hb := below_new v18 (.cells (arr zeros32) 25)
              have hk := blk_new v18 (.cells (arr zeros32) 25)
              have G5 := Aside0.mk (show W.heap.size ≤ g5 by rw [← hg]; exact below_size HB.out)
              have N2_5 := Aside0.mk (show g2 ≠ g5 by rw [← hg]; exact Nat.ne_of_lt (blk_lt BK2.out))
              have N45 := Aside0.mk (show g4 ≠ g5 by rw [← hg]; exact Nat.ne_of_lt (blk_lt BK4.out))
              generalize v18.alloc (.cells (arr zeros32) 25) = v21 at hb hk ⊢
              have n0 := Aside0.mk (blk_below BK2.out hb)
              have n1 := Aside0.mk (blk_below BK4.out hb)
              have n2 := Aside0.mk (below_step HB.out hb)
              clear BK2 BK4 HB
              have BK2 := n0
              have BK4 := n1
              have HB := n2
              clear n0 n1 n2
              clear hb
              rw [hg] at hk ⊢
              have BK5 := Aside0.mk hk
              clear hk hg
              refine hK.out _ _ trivial (fun _ => ?_)
              clear hK K
              refine norm_ (a' := ?_) ?_ ?_
              rotate_left
              · show Act.put _ (some 5) _ = _
                simp only [Act.put, List.setIfInBounds_toArray, List.set_cons_zero, List.set_cons_succ, i64_w, i32_w]
                rfl
              refine one_ (i := 7) (N := some 27) #[true, true, true, true, true, true, true, true, true, true, false, false] rfl rfl (one_of HT_.out (by kernel_rfl)) (by decide) (fun K hK => ?_)
              refine goes_ Tryd.func51 (by kernel_rfl) rfl #[.slice A2 (n - m) (c - m)] (by rfl) rfl rfl (by (try simp only [List.map_toArray, List.map_cons, List.map_nil]); first | done | rfl) ?_
              with_reducible refine (HC2.out _ HB.out).mono ?_
              rintro e0 v22 ⟨rfl, hb⟩
              refine ⟨_, rfl, ?_⟩
              have n0 := Aside0.mk (blk_below BK2.out hb)
              have n1 := Aside0.mk (blk_below BK4.out hb)
              have n2 := Aside0.mk (blk_below BK5.out hb)
              have n3 := Aside0.mk (below_step HB.out hb)
              clear BK2 BK4 BK5 HB
              have BK2 := n0
              have BK4 := n1
              have BK5 := n2
              have HB := n3
              clear n0 n1 n2 n3
              clear hb
              refine hK.out _ _ trivial (fun _ => ?_)
              clear hK K
              refine norm_ (a' := ?_) ?_ ?_
              rotate_left
              · show Act.put _ (some 27) _ = _
                simp only [Act.put, List.setIfInBounds_toArray, List.set_cons_zero, List.set_cons_succ, i64_w, i32_w]
                rfl
              have hz := hcont (g4, g5) _ ⟨BK4.out, BK5.out, N45.out, N2_4.out, N2_5.out, G4.out, G5.out, BK2.out, HB.out⟩
              simp only [putAll, Act.put, List.setIfInBounds_toArray, List.set_cons_zero, List.set_cons_succ, i64_w, i32_w] at hz
              exact hz
          · refine value_ (v := .pointer (some ⟨v17.heap.size, 0, none⟩)) (w1 := v17.alloc (.cells (arr zeros32) 25)) (by rfl) rfl ?_ ?_
            · go_simp
              first | done | rfl
            obtain ⟨g5, hg⟩ : ∃ g, v17.heap.size = g := ⟨_, rfl⟩
            have hb := below_new v17 (.cells (arr zeros32) 25)
            have hk := blk_new v17 (.cells (arr zeros32) 25)
            have G5 := Aside0.mk (show W.heap.size ≤ g5 by rw [← hg]; exact below_size HB.out)
            have N2_5 := Aside0.mk (show g2 ≠ g5 by rw [← hg]; exact Nat.ne_of_lt (blk_lt BK2.out))
            have N45 := Aside0.mk (show g4 ≠ g5 by rw [← hg]; exact Nat.ne_of_lt (blk_lt BK4.out))
            generalize v17.alloc (.cells (arr zeros32) 25) = v23 at hb hk ⊢
            have n0 := Aside0.mk (blk_below BK2.out hb)
            have n1 := Aside0.mk (blk_below BK4.out hb)
            have n2 := Aside0.mk (below_step HB.out hb)
            clear BK2 BK4 HB
            have BK2 := n0
            have BK4 := n1
            have HB := n2
            clear n0 n1 n2
            clear hb
            rw [hg] at hk ⊢
            have BK5 := Aside0.mk hk
            clear hk hg
            refine hK.out _ _ trivial (fun _ => ?_)
            clear hK K
            refine norm_ (a' := ?_) ?_ ?_
            rotate_left
            · show Act.put _ (some 5) _ = _
              simp only [Act.put, List.setIfInBounds_toArray, List.set_cons_zero, List.set_cons_succ, i64_w, i32_w]
              rfl
            refine one_ (i := 3) (N := some 23) #[true, true, true, true, true, true, true, false, true, true, false, false] rfl rfl (one_of HT_.out (by kernel_rfl)) (by decide) (fun K hK => ?_)
            refine goes_ Tryd.func51 (by kernel_rfl) rfl #[.slice A m c] (by rfl) rfl rfl (by (try simp only [List.map_toArray, List.map_cons, List.map_nil]); first | done | rfl) ?_
            with_reducible refine (HC1.out _ HB.out).mono ?_
            rintro e0 v24 ⟨rfl, hb⟩
            refine ⟨_, rfl, ?_⟩
            have n0 := Aside0.mk (blk_below BK2.out hb)
            have n1 := Aside0.mk (blk_below BK4.out hb)
            have n2 := Aside0.mk (blk_below BK5.out hb)
            have n3 := Aside0.mk (below_step HB.out hb)
            clear BK2 BK4 BK5 HB
            have BK2 := n0
            have BK4 := n1
            have BK5 := n2
            have HB := n3
            clear n0 n1 n2 n3
            clear hb
            refine hK.out _ _ trivial (fun _ => ?_)
            clear hK K
            refine norm_ (a' := ?_) ?_ ?_
            rotate_left
            · show Act.put _ (some 23) _ = _
              simp only [Act.put, List.setIfInBounds_toArray, List.set_cons_zero, List.set_cons_succ, i64_w, i32_w]
              rfl
            refine one_ (i := 7) (N := some 27) #[true, true, true, true, true, true, true, true, true, true, false, false] rfl rfl (one_of HT_.out (by kernel_rfl)) (by decide) (fun K hK => ?_)
            refine goes_ Tryd.func51 (by kernel_rfl) rfl #[.slice A2 (n - m) (c - m)] (by rfl) rfl rfl (by (try simp only [List.map_toArray, List.map_cons, List.map_nil]); first | done | rfl) ?_
            with_reducible refine (HC2.out _ HB.out).mono ?_
            rintro e0 v25 ⟨rfl, hb⟩
            refine ⟨_, rfl, ?_⟩
            have n0 := Aside0.mk (blk_below BK2.out hb)
            have n1 := Aside0.mk (blk_below BK4.out hb)
            have n2 := Aside0.mk (blk_below BK5.out hb)
            have n3 := Aside0.mk (below_step HB.out hb)
            clear BK2 BK4 BK5 HB
            have BK2 := n0
            have BK4 := n1
            have BK5 := n2
            have HB := n3
            clear n0 n1 n2 n3
            clear hb
            refine hK.out _ _ trivial (fun _ => ?_)
            clear hK K
            refine norm_ (a' := ?_) ?_ ?_
            rotate_left
            · show Act.put _ (some 27) _ = _
              simp only [Act.put, List.setIfInBounds_toArray, List.set_cons_zero, List.set_cons_succ, i64_w, i32_w]
              rfl
            have hz := hcont (g4, g5) _ ⟨BK4.out, BK5.out, N45.out, N2_4.out, N2_5.out, G4.out, G5.out, BK2.out, HB.out⟩
            simp only [putAll, Act.put, List.setIfInBounds_toArray, List.set_cons_zero, List.set_cons_succ, i64_w, i32_w] at hz
            exact hz
        · refine value_ (v := .pointer (some ⟨wa.heap.size, 0, none⟩)) (w1 := wa.alloc (.cells (arr zeros32) 25)) (by rfl) rfl ?_ ?_
          · go_simp
            first | done | rfl
          obtain ⟨g5, hg⟩ : ∃ g, wa.heap.size = g := ⟨_, rfl⟩
          have hb := below_new wa (.cells (arr zeros32) 25)
          have hk := blk_new wa (.cells (arr zeros32) 25)
          have G5 := Aside0.mk (show W.heap.size ≤ g5 by rw [← hg]; exact below_size HB.out)
          have N2_5 := Aside0.mk (show g2 ≠ g5 by rw [← hg]; exact Nat.ne_of_lt (blk_lt BK2.out))
          generalize wa.alloc (.cells (arr zeros32) 25) = v26 at hb hk ⊢
          have n0 := Aside0.mk (blk_below BK2.out hb)
          have n1 := Aside0.mk (below_step HB.out hb)
          clear BK2 HB
          have BK2 := n0
          have HB := n1
          clear n0 n1
          clear hb
          rw [hg] at hk ⊢
          have BK5 := Aside0.mk hk
          clear hk hg
          refine hK.out _ _ trivial (fun _ => ?_)
          clear hK K
          refine norm_ (a' := ?_) ?_ ?_
          rotate_left
          · show Act.put _ (some 5) _ = _
            simp only [Act.put, List.setIfInBounds_toArray, List.set_cons_zero, List.set_cons_succ, i64_w, i32_w]
            rfl
          refine two_ (i := 3) (j := 8) #[true, true, true, true, true, true, true, false, false, true, false, false] #[true, true, true, false, true, true, true, false, true, true, false, false] rfl rfl rfl rfl (two_of HT_.out (by kernel_rfl)) (by decide) (by decide) (fun K hK => ?_) (fun K hK => ?_)
          · refine goes_ Tryd.func51 (by kernel_rfl) rfl #[.slice A m c] (by rfl) rfl rfl (by (try simp only [List.map_toArray, List.map_cons, List.map_nil]); first | done | rfl) ?_
            with_reducible refine (HC1.out _ HB.out).mono ?_
            rintro e0 v27 ⟨rfl, hb⟩
            refine ⟨_, rfl, ?_⟩
            have n0 := Aside0.mk (blk_below BK2.out hb)
            have n1 := Aside0.mk (blk_below BK5.out hb)
            have n2 := Aside0.mk (below_step HB.out hb)
            clear BK2 BK5 HB
            have BK2 := n0
            have BK5 := n1
            have HB := n2
            clear n0 n1 n2
            clear hb
            refine hK.out _ _ trivial (fun _ => ?_)
            clear hK K
            refine norm_ (a' := ?_) ?_ ?_
            rotate_left
            · show Act.put _ (some 23) _ = _
              simp only [Act.put, List.setIfInBounds_toArray, List.set_cons_zero, List.set_cons_succ, i64_w, i32_w]
              rfl
            refine two_ (i := 7) (j := 8) #[true, true, true, true, true, true, true, true, false, true, false, false] #[true, true, true, true, true, true, true, false, true, true, false, false] rfl rfl rfl rfl (two_of HT_.out (by kernel_rfl)) (by decide) (by decide) (fun K hK => ?_) (fun K hK => ?_)
            · refine goes_ Tryd.func51 (by kernel_rfl) rfl #[.slice A2 (n - m) (c - m)] (by rfl) rfl rfl (by (try simp only [List.map_toArray, List.map_cons, List.map_nil]); first | done | rfl) ?_
              with_reducible refine (HC2.out _ HB.out).mono ?_
              rintro e0 v28 ⟨rfl, hb⟩
              refine ⟨_, rfl, ?_⟩
              have n0 := Aside0.mk (blk_below BK2.out hb)
              have n1 := Aside0.mk (blk_below BK5.out hb)
              have n2 := Aside0.mk (below_step HB.out hb)
              clear BK2 BK5 HB
              have BK2 := n0
              have BK5 := n1
              have HB := n2
              clear n0 n1 n2
              clear hb
              refine hK.out _ _ trivial (fun _ => ?_)
              clear hK K
              refine norm_ (a' := ?_) ?_ ?_
              rotate_left
              · show Act.put _ (some 27) _ = _
                simp only [Act.put, List.setIfInBounds_toArray, List.set_cons_zero, List.set_cons_succ, i64_w, i32_w]
                rfl
              refine one_ (i := 8) (N := some 4) #[true, true, true, true, true, true, true, true, true, true, false, false] rfl rfl (one_of HT_.out (by kernel_rfl)) (by decide) (fun K hK => ?_)
              refine value_ (v := .pointer (some ⟨v28.heap.size, 0, none⟩)) (w1 := v28.alloc (.cells (arr zeros32) 25)) (by rfl) rfl ?_ ?_
              · go_simp
                first | done | rfl
              obtain ⟨g4, hg⟩ : ∃ g, v28.heap.size = g := ⟨_, rfl⟩
              have hb := below_new v28 (.cells (arr zeros32) 25)
              have hk := blk_new v28 (.cells (arr zeros32) 25)
              have G4 := Aside0.mk (show W.heap.size ≤ g4 by rw [← hg]; exact below_size HB.out)
              have N2_4 := Aside0.mk (show g2 ≠ g4 by rw [← hg]; exact Nat.ne_of_lt (blk_lt BK2.out))
              have N45 := Aside0.mk (show g4 ≠ g5 by rw [← hg]; exact Nat.ne_of_gt (blk_lt BK5.out))
              generalize v28.alloc (.cells (arr zeros32) 25) = v29 at hb hk ⊢
              have n0 := Aside0.mk (blk_below BK2.out hb)
              have n1 := Aside0.mk (blk_below BK5.out hb)
              have n2 := Aside0.mk (below_step HB.out hb)
              clear BK2 BK5 HB
              have BK2 := n0
              have BK5 := n1
              have HB := n2
              clear n0 n1 n2
              clear hb
              rw [hg] at hk ⊢
              have BK4 := Aside0.mk hk
              clear hk hg
              refine hK.out _ _ trivial (fun _ => ?_)
              clear hK K
              refine norm_ (a' := ?_) ?_ ?_
              rotate_left
              · show Act.put _ (some 4) _ = _
                simp only [Act.put, List.setIfInBounds_toArray, List.set_cons_zero, List.set_cons_succ, i64_w, i32_w]
                rfl
              have hz := hcont (g4, g5) _ ⟨BK4.out, BK5.out, N45.out, N2_4.out, N2_5.out, G4.out, G5.out, BK2.out, HB.out⟩
              simp only [putAll, Act.put, List.setIfInBounds_toArray, List.set_cons_zero, List.set_cons_succ, i64_w, i32_w] at hz
              exact hz
            · refine value_ (v := .pointer (some ⟨v27.heap.size, 0, none⟩)) (w1 := v27.alloc (.cells (arr zeros32) 25)) (by rfl) rfl ?_ ?_
              · go_simp
                first | done | rfl
              obtain ⟨g4, hg⟩ : ∃ g, v27.heap.size = g := ⟨_, rfl⟩
              have hb := below_new v27 (.cells (arr zeros32) 25)
              have hk := blk_new v27 (.cells (arr zeros32) 25)
              have G4 := Aside0.mk (show W.heap.size ≤ g4 by rw [← hg]; exact below_size HB.out)
              have N2_4 := Aside0.mk (show g2 ≠ g4 by rw [← hg]; exact Nat.ne_of_lt (blk_lt BK2.out))
              have N45 := Aside0.mk (show g4 ≠ g5 by rw [← hg]; exact Nat.ne_of_gt (blk_lt BK5.out))
              generalize v27.alloc (.cells (arr zeros32) 25) = v30 at hb hk ⊢
              have n0 := Aside0.mk (blk_below BK2.out hb)
              have n1 := Aside0.mk (blk_below BK5.out hb)
              have n2 := Aside0.mk (below_step HB.out hb)
              clear BK2 BK5 HB
              have BK2 := n0
              have BK5 := n1
              have HB := n2
              clear n0 n1 n2
              clear hb
              rw [hg] at hk ⊢
              have BK4 := Aside0.mk hk
              clear hk hg
              refine hK.out _ _ trivial (fun _ => ?_)
              clear hK K
              refine norm_ (a' := ?_) ?_ ?_
              rotate_left
              · show Act.put _ (some 4) _ = _
                simp only [Act.put, List.setIfInBounds_toArray, List.set_cons_zero, List.set_cons_succ, i64_w, i32_w]
                rfl
              refine one_ (i := 7) (N := some 27) #[true, true, true, true, true, true, true, true, true, true, false, false] rfl rfl (one_of HT_.out (by kernel_rfl)) (by decide) (fun K hK => ?_)
              refine goes_ Tryd.func51 (by kernel_rfl) rfl #[.slice A2 (n - m) (c - m)] (by rfl) rfl rfl (by (try simp only [List.map_toArray, List.map_cons, List.map_nil]); first | done | rfl) ?_
              with_reducible refine (HC2.out _ HB.out).mono ?_
              rintro e0 v31 ⟨rfl, hb⟩
              refine ⟨_, rfl, ?_⟩
              have n0 := Aside0.mk (blk_below BK2.out hb)
              have n1 := Aside0.mk (blk_below BK4.out hb)
              have n2 := Aside0.mk (blk_below BK5.out hb)
              have n3 := Aside0.mk (below_step HB.out hb)
              clear BK2 BK4 BK5 HB
              have BK2 := n0
              have BK4 := n1
              have BK5 := n2
              have HB := n3
              clear n0 n1 n2 n3
              clear hb
              refine hK.out _ _ trivial (fun _ => ?_)
              clear hK K
              refine norm_ (a' := ?_) ?_ ?_
              rotate_left
              · show Act.put _ (some 27) _ = _
                simp only [Act.put, List.setIfInBounds_toArray, List.set_cons_zero, List.set_cons_succ, i64_w, i32_w]
                rfl
              have hz := hcont (g4, g5) _ ⟨BK4.out, BK5.out, N45.out, N2_4.out, N2_5.out, G4.out, G5.out, BK2.out, HB.out⟩
              simp only [putAll, Act.put, List.setIfInBounds_toArray, List.set_cons_zero, List.set_cons_succ, i64_w, i32_w] at hz
              exact hz
          · refine value_ (v := .pointer (some ⟨v26.heap.size, 0, none⟩)) (w1 := v26.alloc (.cells (arr zeros32) 25)) (by rfl) rfl ?_ ?_
            · go_simp
              first | done | rfl
            obtain ⟨g4, hg⟩ : ∃ g, v26.heap.size = g := ⟨_, rfl⟩
            have hb := below_new v26 (.cells (arr zeros32) 25)
            have hk := blk_new v26 (.cells (arr zeros32) 25)
            have G4 := Aside0.mk (show W.heap.size ≤ g4 by rw [← hg]; exact below_size HB.out)
            have N2_4 := Aside0.mk (show g2 ≠ g4 by rw [← hg]; exact Nat.ne_of_lt (blk_lt BK2.out))
            have N45 := Aside0.mk (show g4 ≠ g5 by rw [← hg]; exact Nat.ne_of_gt (blk_lt BK5.out))
            generalize v26.alloc (.cells (arr zeros32) 25) = v32 at hb hk ⊢
            have n0 := Aside0.mk (blk_below BK2.out hb)
            have n1 := Aside0.mk (blk_below BK5.out hb)
            have n2 := Aside0.mk (below_step HB.out hb)
            clear BK2 BK5 HB
            have BK2 := n0
            have BK5 := n1
            have HB := n2
            clear n0 n1 n2
            clear hb
            rw [hg] at hk ⊢
            have BK4 := Aside0.mk hk
            clear hk hg
            refine hK.out _ _ trivial (fun _ => ?_)
            clear hK K
            refine norm_ (a' := ?_) ?_ ?_
            rotate_left
            · show Act.put _ (some 4) _ = _
              simp only [Act.put, List.setIfInBounds_toArray, List.set_cons_zero, List.set_cons_succ, i64_w, i32_w]
              rfl
            refine one_ (i := 3) (N := some 23) #[true, true, true, true, true, true, true, false, true, true, false, false] rfl rfl (one_of HT_.out (by kernel_rfl)) (by decide) (fun K hK => ?_)
            refine goes_ Tryd.func51 (by kernel_rfl) rfl #[.slice A m c] (by rfl) rfl rfl (by (try simp only [List.map_toArray, List.map_cons, List.map_nil]); first | done | rfl) ?_
            with_reducible refine (HC1.out _ HB.out).mono ?_
            rintro e0 v33 ⟨rfl, hb⟩
            refine ⟨_, rfl, ?_⟩
            have n0 := Aside0.mk (blk_below BK2.out hb)
            have n1 := Aside0.mk (blk_below BK4.out hb)
            have n2 := Aside0.mk (blk_below BK5.out hb)
            have n3 := Aside0.mk (below_step HB.out hb)
            clear BK2 BK4 BK5 HB
            have BK2 := n0
            have BK4 := n1
            have BK5 := n2
            have HB := n3
            clear n0 n1 n2 n3
            clear hb
            refine hK.out _ _ trivial (fun _ => ?_)
            clear hK K
            refine norm_ (a' := ?_) ?_ ?_
            rotate_left
            · show Act.put _ (some 23) _ = _
              simp only [Act.put, List.setIfInBounds_toArray, List.set_cons_zero, List.set_cons_succ, i64_w, i32_w]
              rfl
            refine one_ (i := 7) (N := some 27) #[true, true, true, true, true, true, true, true, true, true, false, false] rfl rfl (one_of HT_.out (by kernel_rfl)) (by decide) (fun K hK => ?_)
            refine goes_ Tryd.func51 (by kernel_rfl) rfl #[.slice A2 (n - m) (c - m)] (by rfl) rfl rfl (by (try simp only [List.map_toArray, List.map_cons, List.map_nil]); first | done | rfl) ?_
            with_reducible refine (HC2.out _ HB.out).mono ?_
            rintro e0 v34 ⟨rfl, hb⟩
            refine ⟨_, rfl, ?_⟩
            have n0 := Aside0.mk (blk_below BK2.out hb)
            have n1 := Aside0.mk (blk_below BK4.out hb)
            have n2 := Aside0.mk (blk_below BK5.out hb)
            have n3 := Aside0.mk (below_step HB.out hb)
            clear BK2 BK4 BK5 HB
            have BK2 := n0
            have BK4 := n1
            have BK5 := n2
            have HB := n3
            clear n0 n1 n2 n3
            clear hb
            refine hK.out _ _ trivial (fun _ => ?_)
            clear hK K
            refine norm_ (a' := ?_) ?_ ?_
            rotate_left
            · show Act.put _ (some 27) _ = _
              simp only [Act.put, List.setIfInBounds_toArray, List.set_cons_zero, List.set_cons_succ, i64_w, i32_w]
              rfl
            have hz := hcont (g4, g5) _ ⟨BK4.out, BK5.out, N45.out, N2_4.out, N2_5.out, G4.out, G5.out, BK2.out, HB.out⟩
            simp only [putAll, Act.put, List.setIfInBounds_toArray, List.set_cons_zero, List.set_cons_succ, i64_w, i32_w] at hz
            exact hz
      · rintro ⟨g4, g5⟩ wj ⟨k4, k5, n45, n24, n25, l4, l5, k2, kb⟩
        simp only [putAll, Act.put, List.setIfInBounds_toArray, List.set_cons_zero, List.set_cons_succ, i64_w, i32_w]
        have BK4 := Aside0.mk k4
        have BK5 := Aside0.mk k5
        have N45 := Aside0.mk n45
        have N2_4 := Aside0.mk n24
        have N2_5 := Aside0.mk n25
        have G4 := Aside0.mk l4
        have G5 := Aside0.mk l5
        have nBK2 := Aside0.mk k2
        have nHB := Aside0.mk kb
        clear BK2 HB k4 k5 n45 n24 n25 l4 l5 k2 kb
        have BK2 := nBK2
        have HB := nHB
        clear nBK2 nHB
        have D1L : Aside0 (d1.length = 32) := ⟨D1.out.1⟩
        have D2L : Aside0 (d2.length = 32) := ⟨D2.out.1⟩

        refine one_ (i := 10) (N := none) #[true, true, true, true, true, true, true, true, true, true, true, false] rfl rfl (one_of HT_.out (by kernel_rfl)) (by decide) (fun K hK => ?_)
        rw [if_pos (by rfl)]
        refine wp_store_row 25 (.tmp 4) (.tmp 23) rfl g4 (arr (d1)) rfl rfl 25 (arr zeros32) BK4.out (by rw [arr_size, D1L.out]; exact info_dig) (by rw [arr_size, arr_size, D1L.out]; rfl) (arr_one _) ?_
        have m0 : Aside0 ((World.setRow wj g4 (arr (d1))).heap[g4]? = some (.cells (arr (d1)) 25 (0, 0))) := ⟨setRow_heap _ g4 _ _ _ _ BK4.out⟩
        have m1 := Aside0.mk ((setRow_other wj g4 g5 (arr (d1)) (fun e => N45.out e.symm)).trans BK5.out)
        have m2 := Aside0.mk ((setRow_other wj g4 g2 (arr (d1)) N2_4.out).trans BK2.out)
        have m3 := Aside0.mk (below_setRow HB.out G4.out (arr (d1)))
        obtain ⟨wk, hwe⟩ : ∃ w', World.setRow wj g4 (arr (d1)) = w' := ⟨_, rfl⟩
        rw [hwe] at m0 m1 m2 m3 ⊢
        clear hwe BK4 HB BK5 BK2
        have BK4 := m0
        have BK5 := m1
        have BK2 := m2
        have HB := m3
        clear m0 m1 m2 m3
        refine hK.out _ _ trivial (fun _ => ?_)
        clear hK K
        refine one_ (i := 11) (N := none) #[true, true, true, true, true, true, true, true, true, true, true, true] rfl rfl (one_of HT_.out (by kernel_rfl)) (by decide) (fun K hK => ?_)
        rw [if_pos (by rfl)]
        refine wp_store_row 25 (.tmp 5) (.tmp 27) rfl g5 (arr (d2)) rfl rfl 25 (arr zeros32) BK5.out (by rw [arr_size, D2L.out]; exact info_dig) (by rw [arr_size, arr_size, D2L.out]; rfl) (arr_one _) ?_
        have m0 : Aside0 ((World.setRow wk g5 (arr (d2))).heap[g5]? = some (.cells (arr (d2)) 25 (0, 0))) := ⟨setRow_heap _ g5 _ _ _ _ BK5.out⟩
        have m1 := Aside0.mk ((setRow_other wk g5 g4 (arr (d2)) N45.out).trans BK4.out)
        have m2 := Aside0.mk ((setRow_other wk g5 g2 (arr (d2)) N2_5.out).trans BK2.out)
        have m3 := Aside0.mk (below_setRow HB.out G5.out (arr (d2)))
        obtain ⟨wl, hwe⟩ : ∃ w', World.setRow wk g5 (arr (d2)) = w' := ⟨_, rfl⟩
        rw [hwe] at m0 m1 m2 m3 ⊢
        clear hwe BK5 HB BK4 BK2
        have BK5 := m0
        have BK4 := m1
        have BK2 := m2
        have HB := m3
        clear m0 m1 m2 m3
        refine hK.out _ _ trivial (fun _ => ?_)
        clear hK K
        refine done_ (done_of HT_.out (by kernel_rfl)) ?_
        go_wp2
        have hs4 := fun W => sl_dig ⟨g4, 0, none⟩ W
        have hs5 := fun W => sl_dig ⟨g5, 0, none⟩ W
        have hb : Below wl.heap.size wl wl.drew := below_drew (Below.refl _ _)
        refine start_ (n := 4) (S := fun w' => True) (ds := []) #[false, false, false, false] (by kernel_rfl) rfl rfl trivial (fun hHeld => ?_)
        refine with_tabW of7_tab of7_bits (fun HT_ HW_ => ?_)
        have n0 := Aside0.mk (blk_below BK2.out hb)
        have n1 := Aside0.mk (blk_below BK4.out hb)
        have n2 := Aside0.mk (blk_below BK5.out hb)
        have n3 := Aside0.mk (below_step HB.out hb)
        clear BK2 BK4 BK5 HB
        have BK2 := n0
        have BK4 := n1
        have BK5 := n2
        have HB := n3
        clear n0 n1 n2 n3
        clear hb
        generalize wl.drew = wm at BK2 BK4 BK5 HB ⊢
        refine pure_ (i := 0) (N := (some 28)) (v := ?_) (a' := ?_) #[true, false, false, false] rfl rfl (any_of HT_.out (by kernel_rfl)) (fun _ _ _ h => h) (Or.inl ⟨by rfl, ?_⟩) ?_ ?_
        rotate_left
        · intro w'
          go_simp
          first | with_reducible rfl | (simp; done) | rfl
        rotate_left
        · simp only [Act.put, List.setIfInBounds_toArray, List.set_cons_zero, List.set_cons_succ, i64_w, i32_w]
          rfl
        refine pure_ (i := 1) (N := (some 29)) (v := ?_) (a' := ?_) #[true, true, false, false] rfl rfl (any_of HT_.out (by kernel_rfl)) (fun _ _ _ h => h) (Or.inl ⟨by rfl, ?_⟩) ?_ ?_
        rotate_left
        · intro w'
          go_simp
          first | with_reducible rfl | (simp; done) | rfl
        rotate_left
        · simp only [Act.put, List.setIfInBounds_toArray, List.set_cons_zero, List.set_cons_succ, i64_w, i32_w]
          rfl
        refine one_ (i := 2) (N := (some 30)) #[true, true, true, false] rfl rfl (one_of HT_.out (by kernel_rfl)) (by decide) (fun K hK => ?_)
        refine goes_ Tryd.func65 (by kernel_rfl) rfl #[.int .u8 8, .slice (some ⟨g4, 0, none⟩) 32 32, .slice (some ⟨g5, 0, none⟩) 32 32] (by rfl) rfl rfl (by (try simp only [List.map_toArray, List.map_cons, List.map_nil]); first | done | rfl) ?_
        with_reducible refine (rTwo_walk 8 (by decide) _ _ 32 32 32 32 d1 d2 _ (dig_bts BK4.out D1.out) (dig_bts BK5.out D2.out) (by rw [D1L.out]; omega) (by rw [D2L.out]; omega)).mono ?_
        rintro e0 wn ⟨rfl, hb⟩
        refine ⟨_, rfl, ?_⟩
        have n0 := Aside0.mk (blk_below BK2.out hb)
        have n1 := Aside0.mk (blk_below BK4.out hb)
        have n2 := Aside0.mk (blk_below BK5.out hb)
        have n3 := Aside0.mk (below_step HB.out hb)
        clear BK2 BK4 BK5 HB
        have BK2 := n0
        have BK4 := n1
        have BK5 := n2
        have HB := n3
        clear n0 n1 n2 n3
        clear hb
        refine hK.out _ _ trivial (fun hHeld => ?_)
        clear hK K
        refine norm_ (a' := ?_) ?_ ?_
        rotate_left
        · show Act.put _ (some 30) _ = _
          simp only [Act.put, List.setIfInBounds_toArray, List.set_cons_zero, List.set_cons_succ, i64_w, i32_w]
          rfl
        refine one_ (i := 3) (N := none) #[true, true, true, true] rfl rfl (one_of HT_.out (by kernel_rfl)) (by decide) (fun K hK => ?_)
        rw [if_pos (by rfl)]
        refine wp_store_row 25 (.tmp 2) (.tmp 30) rfl g2 (arr (tagOf 8 [d1, d2])) rfl rfl 25 (arr zeros32) BK2.out (by rw [arr_size, tagOf_len]; exact info_dig) (by rw [arr_size, arr_size, tagOf_len]; rfl) (arr_one _) ?_
        have m0 : Aside0 ((World.setRow wn g2 (arr (tagOf 8 [d1, d2]))).heap[g2]? = some (.cells (arr (tagOf 8 [d1, d2])) 25 (0, 0))) := ⟨setRow_heap _ g2 _ _ _ _ BK2.out⟩
        have m1 := Aside0.mk (below_setRow HB.out G2.out (arr (tagOf 8 [d1, d2])))
        obtain ⟨wp, hwe⟩ : ∃ w', World.setRow wn g2 (arr (tagOf 8 [d1, d2])) = w' := ⟨_, rfl⟩
        rw [hwe] at m0 m1 ⊢
        clear hwe BK2 HB 
        have BK2 := m0
        have HB := m1
        clear m0 m1
        refine hK.out _ _ trivial (fun _ => ?_)
        clear hK K
        refine done_ (done_of HT_.out (by kernel_rfl)) ?_
        go_wp2
        refine bodyPost_ret (results_c rfl _ _ g2 25 (arr (tagOf 8 [d1, d2])) (0, 0) _ rfl BK2.out Tryd.underlying25 rfl (by rw [arr_size, tagOf_len]; exact info_dig)) rfl ?_
        exact ⟨rfl, HB.out⟩
end Go.Proofs.YtoaimcobcgomjaaDoor.Q
namespace Go.Proofs.YtoaimcobcgomjaaDoor.Q
open Go.RowKit Go.Proofs.YtoaimcobcgomjaaDoorW.PrintWords Go.Proofs.YtoaimcobcgomjaaDoorW.PrintLast Go.Proofs.YtoaimcobcgomjaaDoorW.PrintMore
set_option linter.unusedVariables false
set_option linter.unusedSimpArgs false
theorem addr0 (g j : Nat) : (⟨g, 0, none⟩ : Addr).add j = ⟨g, j, none⟩ := by
  unfold Addr.add
  by_cases h0 : j = 0
  · rw [h0]; rfl
  · rw [if_neg h0, Nat.zero_add]
theorem row_news {w : World} {g t : Nat} {cs : Array Value} {fr : Nat × Nat} (h : w.heap[g]? = some (.cells cs t fr)) : ∀ (j : Nat) (u : Value), cs.toList[j]? = some u → w.cell? ((⟨g, 0, none⟩ : Addr).add j) = some u := fun j u hu => by
  rw [addr0]
  exact (cell_of_row w g j cs t fr h).trans (by rw [← Array.getElem?_toList]; exact hu)
theorem arr_ones (d : List Int) : ∀ u ∈ (arr d).toList, u.oneCell' = true := fun u hu => flatD_cell [d] u (by rw [flatD_one]; exact hu)
theorem below_grown {B : Nat} {W w w' : World} {v : Value} {n : Nat} {e size : Nat} {xs : List Value} (hB : Below B W w) (hs : B ≤ w.heap.size) (ho : w.ownsRow B e size v n xs) (hg : w.grownBy w' v.ownBlock) : Below B W w' :=
  hB.grown hg hs (fun k hk => by
    rcases ho.2 with ⟨rfl, _⟩ | ⟨g, cap, cur, rfl, hb, _⟩
    · simp [Value.ownBlock] at hk
    · simp only [Value.ownBlock, Option.some.injEq] at hk
      omega)
def beside5_T : Bool × List (List Nat × List Nat) := (true, [([], []), ([], []), ([0, 1], [0, 1]), ([], []), ([2, 3], [2, 3]), ([], []), ([], []), ([5, 6], [5, 6]), ([7, 4], [7]), ([8], [8]), ([4, 9, 8], [4, 9]), ([10, 10, 0, 1, 2, 3, 4, 5, 6, 7, 8, 9, 10], [10])])
def beside5_B : List Nat := [0, 0, 3, 0, 15, 0, 0, 96, 255, 511, 1023, 2047]
theorem beside5_tab : rtab .any (opsOf Tryd.f52 5) = beside5_T := by kernel_rfl
theorem beside5_bits : waitsOk beside5_T.2 beside5_B = true := by kernel_rfl
def beside6_T : Bool × List (List Nat × List Nat) := (true, [([], []), ([], []), ([0, 1], [0, 1]), ([], []), ([], []), ([3, 4], [3, 4]), ([2, 5], [2, 5]), ([], []), ([], []), ([7, 8], [7, 8]), ([9, 6], [9]), ([10], [10]), ([6, 11, 10], [6, 11]), ([12, 12, 0, 1, 2, 3, 4, 5, 6, 7, 8, 9, 10, 11, 12], [12])])
def beside6_B : List Nat := [0, 0, 3, 0, 0, 24, 63, 0, 0, 384, 1023, 2047, 4095, 8191]
theorem beside6_tab : rtab .any (opsOf Tryd.f52 6) = beside6_T := by kernel_rfl
theorem beside6_bits : waitsOk beside6_T.2 beside6_B = true := by kernel_rfl
set_option maxHeartbeats 16000000 in
set_option maxRecDepth 100000 in
theorem beside_walk (k : Nat) : ∀ (A : Option Addr) (n c : Nat) (l : List (List Int)) (i : Nat) (W : World), Rws W A n c l → Short l → n ≤ k → n ≤ 256 → i < n →
    Calls Tryd.prog 52 #[.slice A n c, .int .i64 (i : Int)] W fun e W' => ∃ v, e = .returned v ∧ W'.ownsRow W.heap.size 25 32 v (sidesP l i).length (flatD (sidesP l i)) ∧ Below W.heap.size W W' := by
  induction k with
  | zero => intro A n c l i W br hs h1 h2 h3; omega
  | succ k ih =>
    intro A n c l i W br hs h1 h2 h3
    have hln := br.len
    by_cases h4 : n ≤ 1
    · obtain rfl : n = 1 := by omega
      rw [sidesP_one l i (by omega)]
      clear br hs ih hln h1 h2 h3 h4
      go_enter Tryd.func52, Tryd.ntmps52
      go_wp2
      go_ret
      exact ⟨_, rfl, own_nil _ _ _ _, Below.refl _ _⟩
    · have e := sidesP_two l i (by omega) (by omega)
      rw [hln] at e
      obtain ⟨m, hm⟩ : ∃ m, frontN n = m := ⟨_, rfl⟩
      have hmr := frontN_range n (by omega) h2
      rw [hm] at hmr e
      obtain ⟨hm1, hm2, hm3⟩ := hmr
      have b1 : ((n : Int) == 1) = false := by simp; omega
      have hct := rows_to A n c m (by omega) br.le
      have hcf := rows_from A n c m (by omega)
      have HD2 : ∀ w, Below W.heap.size W w → Rws w (if c = m then A else A.map (·.add (m * 1))) (n - m) (c - m) (l.drop m) := fun w hw => (br.below hw).drop m (by omega)
      obtain ⟨A2, hA2⟩ : ∃ A2, (if c = m then A else A.map (·.add (m * 1))) = A2 := ⟨_, rfl⟩
      rw [hA2] at HD2
      simp only [hA2] at hcf
      have FF : Aside0 (beadrollref13_First.f 12 (n : Int) = some (m : Int)) := ⟨by rw [first_f (n : Int) (by omega) (by omega), hm3]⟩
      have hlt : (l.take m).length = m := by rw [List.length_take]; omega
      have hld : (l.drop m).length = n - m := by rw [List.length_drop]; omega
      by_cases hi : i < m
      · rw [if_pos hi] at e
        obtain ⟨d, hd⟩ : ∃ d, rootP (l.drop m) = d := ⟨_, rfl⟩
        obtain ⟨ss, hss⟩ : ∃ ss, sidesP (l.take m) i = ss := ⟨_, rfl⟩
        rw [hd, hss] at e
        have DD : Aside0 (Dig d) := ⟨by rw [← hd]; exact rootP_dig _⟩
        have SL : Aside0 (ss.length ≤ 8) := ⟨by rw [← hss]; exact sides_eight _ _ (by omega) (by omega)⟩
        have HS : Aside0 (∀ w, Below W.heap.size W w → Calls Tryd.prog 52 #[.slice A m c, .int .i64 (i : Int)] w fun e W' => ∃ v, e = .returned v ∧ W'.ownsRow w.heap.size 25 32 v ss.length (flatD ss) ∧ Below w.heap.size w W') := ⟨fun w hw => by
          have := ih A m c (l.take m) i w ((br.below hw).take m (by omega)) (hs.take m) (by omega) (by omega) hi
          rwa [hss] at this⟩
        have HO : Aside0 (∀ w, Below W.heap.size W w → Calls Tryd.prog 51 #[.slice A2 (n - m) (c - m)] w fun e W' => e = .returned (.agg (arr d)) ∧ Below w.heap.size w W') := ⟨fun w hw => by
          have := of13_walk 256 A2 (n - m) (c - m) (l.drop m) w (HD2 w hw) (hs.drop m) (by omega) (by omega)
          rwa [hd] at this⟩
        have HB := Aside0.mk (Below.refl W.heap.size W)
        have hdi : decide (i < m) = true := decide_eq_true hi
        rw [e]
        clear e hd hss HD2 hA2 hm hm3 br hs ih hln hlt hld h1 h2 h3 h4 hm1 hm2
        go_enter Tryd.func52, Tryd.ntmps52
        go_wp2_with (go_at_call 64; (with_reducible refine (beadrollref13_First.calls 12 (n : Int) (m : Int) _ FF.out).mono ?_); rintro e wq ⟨rfl, ⟨nd, rfl⟩⟩; have n0 := Aside0.mk (pw_below_drewN HB.out nd); clear HB; have HB := n0; clear n0)
        obtain ⟨w2, hw1⟩ : ∃ w', World.drewN W nd = w' := ⟨_, rfl⟩
        rw [hw1] at HB ⊢
        clear hw1
        have hb : Below w2.heap.size w2 w2.drew := below_drew (Below.refl _ _)
        refine start_ (n := 12) (S := fun w' => True) (ds := []) #[false, false, false, false, false, false, false, false, false, false, false, false] (by kernel_rfl) rfl rfl trivial (fun hHeld => ?_)
        refine with_tabW beside5_tab beside5_bits (fun HT_ HW_ => ?_)
        have n0 := Aside0.mk (below_step HB.out hb)
        clear HB
        have HB := n0
        clear n0
        clear hb
        generalize w2.drew = wa at HB ⊢
        refine pure_ (i := 0) (N := (some 15)) (v := ?_) (a' := ?_) #[true, false, false, false, false, false, false, false, false, false, false, false] rfl rfl (any_of HT_.out (by kernel_rfl)) (fun _ _ _ h => h) (Or.inl ⟨by rfl, ?_⟩) ?_ ?_
        rotate_left
        · intro w'
          go_simp
          first | with_reducible rfl | (simp; done) | rfl
        rotate_left
        · simp only [Act.put, List.setIfInBounds_toArray, List.set_cons_zero, List.set_cons_succ, i64_w, i32_w]
          rfl
        refine pure_ (i := 1) (N := (some 16)) (v := ?_) (a' := ?_) #[true, true, false, false, false, false, false, false, false, false, false, false] rfl rfl (any_of HT_.out (by kernel_rfl)) (fun _ _ _ h => h) (Or.inl ⟨by rfl, ?_⟩) ?_ ?_
        rotate_left
        · intro w'
          go_simp
          first | with_reducible rfl | (simp; done) | rfl
        rotate_left
        · simp only [Act.put, List.setIfInBounds_toArray, List.set_cons_zero, List.set_cons_succ, i64_w, i32_w]
          rfl
        refine pure_ (i := 2) (N := (some 17)) (v := ?_) (a' := ?_) #[true, true, true, false, false, false, false, false, false, false, false, false] rfl rfl (any_of HT_.out (by kernel_rfl)) (fun _ _ _ h => h) (Or.inl ⟨by rfl, ?_⟩) ?_ ?_
        rotate_left
        · intro w'
          go_simp
          first | with_reducible rfl | (simp; done) | rfl
        rotate_left
        · simp only [Act.put, List.setIfInBounds_toArray, List.set_cons_zero, List.set_cons_succ, i64_w, i32_w]
          rfl
        refine pure_ (i := 3) (N := (some 18)) (v := ?_) (a' := ?_) #[true, true, true, true, false, false, false, false, false, false, false, false] rfl rfl (any_of HT_.out (by kernel_rfl)) (fun _ _ _ h => h) (Or.inl ⟨by rfl, ?_⟩) ?_ ?_
        rotate_left
        · intro w'
          go_simp
          first | with_reducible rfl | (simp; done) | rfl
        rotate_left
        · simp only [Act.put, List.setIfInBounds_toArray, List.set_cons_zero, List.set_cons_succ, i64_w, i32_w]
          rfl
        refine pure_ (i := 5) (N := (some 20)) (v := ?_) (a' := ?_) #[true, true, true, true, false, true, false, false, false, false, false, false] rfl rfl (any_of HT_.out (by kernel_rfl)) (fun _ _ _ h => h) (Or.inl ⟨by rfl, ?_⟩) ?_ ?_
        rotate_left
        · intro w'
          go_simp
          first | with_reducible rfl | (simp; done) | rfl
        rotate_left
        · simp only [Act.put, List.setIfInBounds_toArray, List.set_cons_zero, List.set_cons_succ, i64_w, i32_w]
          rfl
        refine pure_ (i := 6) (N := (some 21)) (v := ?_) (a' := ?_) #[true, true, true, true, false, true, true, false, false, false, false, false] rfl rfl (any_of HT_.out (by kernel_rfl)) (fun _ _ _ h => h) (Or.inl ⟨by rfl, ?_⟩) ?_ ?_
        rotate_left
        · intro w'
          go_simp
          first | with_reducible rfl | (simp; done) | rfl
        rotate_left
        · simp only [Act.put, List.setIfInBounds_toArray, List.set_cons_zero, List.set_cons_succ, i64_w, i32_w]
          rfl
        refine pure_ (i := 7) (N := (some 22)) (v := ?_) (a' := ?_) #[true, true, true, true, false, true, true, true, false, false, false, false] rfl rfl (any_of HT_.out (by kernel_rfl)) (fun _ _ _ h => h) (Or.inl ⟨by rfl, ?_⟩) ?_ ?_
        rotate_left
        · intro w'
          go_simp
          first | with_reducible rfl | (simp; done) | rfl
        rotate_left
        · simp only [Act.put, List.setIfInBounds_toArray, List.set_cons_zero, List.set_cons_succ, i64_w, i32_w]
          rfl
        refine one_ (i := 4) (N := (some 19)) #[true, true, true, true, true, true, true, true, false, false, false, false] rfl rfl (one_of HT_.out (by kernel_rfl)) (by decide) (fun K hK => ?_)
        refine goes_ Tryd.func52 (by kernel_rfl) rfl #[.slice A m c, .int .i64 (i : Int)] (by rfl) rfl rfl (by (try simp only [List.map_toArray, List.map_cons, List.map_nil]); first | done | rfl) ?_
        with_reducible refine (HS.out _ HB.out).mono ?_
        rintro e0 w3 ⟨v3, rfl, ho, hb⟩
        refine ⟨_, rfl, ?_⟩
        have O3 := Aside0.mk (own_weaken ho (below_size HB.out))
        have n0 := Aside0.mk (below_step HB.out hb)
        clear HB
        have HB := n0
        clear n0
        clear hb ho
        refine hK.out _ _ trivial (fun hHeld => ?_)
        clear hK K
        refine norm_ (a' := ?_) ?_ ?_
        rotate_left
        · show Act.put _ (some 19) _ = _
          simp only [Act.put, List.setIfInBounds_toArray, List.set_cons_zero, List.set_cons_succ, i64_w, i32_w]
          rfl
        refine one_ (i := 8) (N := (some 23)) #[true, true, true, true, true, true, true, true, true, false, false, false] rfl rfl (one_of HT_.out (by kernel_rfl)) (by decide) (fun K hK => ?_)
        refine goes_ Tryd.func51 (by kernel_rfl) rfl #[.slice A2 (n - m) (c - m)] (by rfl) rfl rfl (by (try simp only [List.map_toArray, List.map_cons, List.map_nil]); first | done | rfl) ?_
        with_reducible refine (HO.out _ HB.out).mono ?_
        rintro e0 w4 ⟨rfl, hb⟩
        refine ⟨_, rfl, ?_⟩
        have n0 := Aside0.mk (pw_own_below O3.out hb)
        have n1 := Aside0.mk (below_step HB.out hb)
        clear O3 HB
        have O3 := n0
        have HB := n1
        clear n0 n1
        clear hb
        refine hK.out _ _ trivial (fun hHeld => ?_)
        clear hK K
        refine norm_ (a' := ?_) ?_ ?_
        rotate_left
        · show Act.put _ (some 23) _ = _
          simp only [Act.put, List.setIfInBounds_toArray, List.set_cons_zero, List.set_cons_succ, i64_w, i32_w]
          rfl
        refine one_ (i := 9) (N := (some 24)) #[true, true, true, true, true, true, true, true, true, true, false, false] rfl rfl (one_of HT_.out (by kernel_rfl)) (by decide) (fun K hK => ?_)
        refine value_ (v := .slice (some ⟨w4.heap.size, 0, none⟩) 1 1) (w1 := w4.alloc (.cells (arr d) 25)) (by rfl) rfl (build_one (d := d) rfl rfl DD.out) ?_
        have hb := below_new w4 (.cells (arr d) 25)
        have BK := Aside0.mk (blk_new w4 (.cells (arr d) 25))
        obtain ⟨ga, hga⟩ : ∃ g, w4.heap.size = g := ⟨_, rfl⟩
        rw [hga] at BK ⊢
        generalize w4.alloc (.cells (arr d) 25) = w5 at hb BK ⊢
        have n0 := Aside0.mk (pw_own_below O3.out hb)
        have n1 := Aside0.mk (below_step HB.out hb)
        clear O3 HB
        have O3 := n0
        have HB := n1
        clear n0 n1
        clear hb hga
        refine hK.out _ _ trivial (fun hHeld => ?_)
        clear hK K
        refine norm_ (a' := ?_) ?_ ?_
        rotate_left
        · show Act.put _ (some 24) _ = _
          simp only [Act.put, List.setIfInBounds_toArray, List.set_cons_zero, List.set_cons_succ, i64_w, i32_w]
          rfl
        refine one_ (i := 10) (N := (some 25)) #[true, true, true, true, true, true, true, true, true, true, true, false] rfl rfl (one_of HT_.out (by kernel_rfl)) (by decide) (fun K hK => ?_)
        rw [if_pos (by rfl)]
        obtain ⟨i0, hi0, hz0, hz1, hz2⟩ := info_parts info_digs
        refine wp_append_own w5 (.tmp 19) (.tmp 24) 31 rfl W.heap.size 25 i0 (.agg (arr zeros32)) 32 32 Tryd.underlying31 hi0 hz0 hz1 hz2 rfl (by decide) v3 ss.length (flatD ss) rfl O3.out ⟨ga, 0, none⟩ 1 1 (arr d).toList rfl (by rw [Array.length_toList, arr_size, DD.out.1]) (row_news BK.out) (arr_ones d) (by have := SL.out; simp only [maxLen]; omega) (by have := SL.out; omega) (below_size HB.out) ?_
        intro v6 w6 ho hg _
        clear hi0 hz0 hz1 hz2
        have O6 := Aside0.mk ho
        have HB6 := Aside0.mk (below_grown HB.out (below_size HB.out) O3.out hg)
        clear ho hg HB O3
        refine hK.out _ _ trivial (fun hHeld => ?_)
        clear hK K
        refine norm_ (a' := ?_) ?_ ?_
        rotate_left
        · show Act.put _ (some 25) _ = _
          simp only [Act.put, List.setIfInBounds_toArray, List.set_cons_zero, List.set_cons_succ, i64_w, i32_w]
          rfl
        refine pure_ (i := 11) (N := (some 4)) (v := ?_) (a' := ?_) #[true, true, true, true, true, true, true, true, true, true, true, true] rfl rfl (any_of HT_.out (by kernel_rfl)) (fun _ _ _ h => h) (Or.inl ⟨by rfl, ?_⟩) ?_ ?_
        rotate_left
        · intro w'
          go_simp
          first | with_reducible rfl | (simp; done) | rfl
        rotate_left
        · simp only [Act.put, List.setIfInBounds_toArray, List.set_cons_zero, List.set_cons_succ, i64_w, i32_w]
          rfl
        refine done_ (done_of HT_.out (by kernel_rfl)) ?_
        go_wp2
        go_ret
        exact ⟨_, rfl, by rw [List.length_append, flatD_append, flatD_one]; exact O6.out, HB6.out⟩
      · rw [if_neg hi] at e
        obtain ⟨d, hd⟩ : ∃ d, rootP (l.take m) = d := ⟨_, rfl⟩
        obtain ⟨j, hj⟩ : ∃ j, i - m = j := ⟨_, rfl⟩
        obtain ⟨ss, hss⟩ : ∃ ss, sidesP (l.drop m) (i - m) = ss := ⟨_, rfl⟩
        rw [hd, hss] at e
        have DD : Aside0 (Dig d) := ⟨by rw [← hd]; exact rootP_dig _⟩
        have SL : Aside0 (ss.length ≤ 8) := ⟨by rw [← hss]; exact sides_eight _ _ (by omega) (by omega)⟩
        have HS : Aside0 (∀ w, Below W.heap.size W w → Calls Tryd.prog 52 #[.slice A2 (n - m) (c - m), .int .i64 (j : Int)] w fun e W' => ∃ v, e = .returned v ∧ W'.ownsRow w.heap.size 25 32 v ss.length (flatD ss) ∧ Below w.heap.size w W') := ⟨fun w hw => by
          have := ih A2 (n - m) (c - m) (l.drop m) (i - m) w (HD2 w hw) (hs.drop m) (by omega) (by omega) (by omega)
          rwa [hss, hj] at this⟩
        have HO : Aside0 (∀ w, Below W.heap.size W w → Calls Tryd.prog 51 #[.slice A m c] w fun e W' => e = .returned (.agg (arr d)) ∧ Below w.heap.size w W') := ⟨fun w hw => by
          have := of13_walk 256 A m c (l.take m) w ((br.below hw).take m (by omega)) (hs.take m) (by omega) (by omega)
          rwa [hd] at this⟩
        have HB := Aside0.mk (Below.refl W.heap.size W)
        have hdi : decide (i < m) = false := decide_eq_false hi
        have hsb : wrap64 ((i : Int) - (m : Int)) = (j : Int) := by unfold wrap64; omega
        rw [e]
        clear e hd hss hj HD2 hA2 hm hm3 br hs ih hln hlt hld h1 h2 h3 h4 hm1 hm2
        go_enter Tryd.func52, Tryd.ntmps52
        go_wp2_with (go_at_call 64; (with_reducible refine (beadrollref13_First.calls 12 (n : Int) (m : Int) _ FF.out).mono ?_); rintro e wq ⟨rfl, ⟨nd, rfl⟩⟩; have n0 := Aside0.mk (pw_below_drewN HB.out nd); clear HB; have HB := n0; clear n0)
        obtain ⟨w2, hw1⟩ : ∃ w', World.drewN W nd = w' := ⟨_, rfl⟩
        rw [hw1] at HB ⊢
        clear hw1
        have hb : Below w2.heap.size w2 w2.drew := below_drew (Below.refl _ _)
        refine start_ (n := 14) (S := fun w' => True) (ds := []) #[false, false, false, false, false, false, false, false, false, false, false, false, false, false] (by kernel_rfl) rfl rfl trivial (fun hHeld => ?_)
        refine with_tabW beside6_tab beside6_bits (fun HT_ HW_ => ?_)
        have n0 := Aside0.mk (below_step HB.out hb)
        clear HB
        have HB := n0
        clear n0
        clear hb
        generalize w2.drew = wa at HB ⊢
        refine pure_ (i := 0) (N := (some 26)) (v := ?_) (a' := ?_) #[true, false, false, false, false, false, false, false, false, false, false, false, false, false] rfl rfl (any_of HT_.out (by kernel_rfl)) (fun _ _ _ h => h) (Or.inl ⟨by rfl, ?_⟩) ?_ ?_
        rotate_left
        · intro w'
          go_simp
          first | with_reducible rfl | (simp; done) | rfl
        rotate_left
        · simp only [Act.put, List.setIfInBounds_toArray, List.set_cons_zero, List.set_cons_succ, i64_w, i32_w]
          rfl
        refine pure_ (i := 1) (N := (some 27)) (v := ?_) (a' := ?_) #[true, true, false, false, false, false, false, false, false, false, false, false, false, false] rfl rfl (any_of HT_.out (by kernel_rfl)) (fun _ _ _ h => h) (Or.inl ⟨by rfl, ?_⟩) ?_ ?_
        rotate_left
        · intro w'
          go_simp
          first | with_reducible rfl | (simp; done) | rfl
        rotate_left
        · simp only [Act.put, List.setIfInBounds_toArray, List.set_cons_zero, List.set_cons_succ, i64_w, i32_w]
          rfl
        refine pure_ (i := 2) (N := (some 28)) (v := ?_) (a' := ?_) #[true, true, true, false, false, false, false, false, false, false, false, false, false, false] rfl rfl (any_of HT_.out (by kernel_rfl)) (fun _ _ _ h => h) (Or.inl ⟨by rfl, ?_⟩) ?_ ?_
        rotate_left
        · intro w'
          go_simp
          first | with_reducible rfl | (simp; done) | rfl
        rotate_left
        · simp only [Act.put, List.setIfInBounds_toArray, List.set_cons_zero, List.set_cons_succ, i64_w, i32_w]
          rfl
        refine pure_ (i := 3) (N := (some 29)) (v := ?_) (a' := ?_) #[true, true, true, true, false, false, false, false, false, false, false, false, false, false] rfl rfl (any_of HT_.out (by kernel_rfl)) (fun _ _ _ h => h) (Or.inl ⟨by rfl, ?_⟩) ?_ ?_
        rotate_left
        · intro w'
          go_simp
          first | with_reducible rfl | (simp; done) | rfl
        rotate_left
        · simp only [Act.put, List.setIfInBounds_toArray, List.set_cons_zero, List.set_cons_succ, i64_w, i32_w]
          rfl
        refine pure_ (i := 4) (N := (some 30)) (v := ?_) (a' := ?_) #[true, true, true, true, true, false, false, false, false, false, false, false, false, false] rfl rfl (any_of HT_.out (by kernel_rfl)) (fun _ _ _ h => h) (Or.inl ⟨by rfl, ?_⟩) ?_ ?_
        rotate_left
        · intro w'
          go_simp
          first | with_reducible rfl | (simp; done) | rfl
        rotate_left
        · simp only [Act.put, List.setIfInBounds_toArray, List.set_cons_zero, List.set_cons_succ, i64_w, i32_w]
          rfl
        refine pure_ (i := 5) (N := (some 31)) (v := ?_) (a' := ?_) #[true, true, true, true, true, true, false, false, false, false, false, false, false, false] rfl rfl (any_of HT_.out (by kernel_rfl)) (fun _ _ _ h => h) (Or.inl ⟨by rfl, ?_⟩) ?_ ?_
        rotate_left
        · intro w'
          go_simp
          first | with_reducible rfl | (simp; done) | rfl
        rotate_left
        · simp only [Act.put, List.setIfInBounds_toArray, List.set_cons_zero, List.set_cons_succ, i64_w, i32_w]
          rfl
        rw [hsb]
        refine pure_ (i := 7) (N := (some 33)) (v := ?_) (a' := ?_) #[true, true, true, true, true, true, false, true, false, false, false, false, false, false] rfl rfl (any_of HT_.out (by kernel_rfl)) (fun _ _ _ h => h) (Or.inl ⟨by rfl, ?_⟩) ?_ ?_
        rotate_left
        · intro w'
          go_simp
          first | with_reducible rfl | (simp; done) | rfl
        rotate_left
        · simp only [Act.put, List.setIfInBounds_toArray, List.set_cons_zero, List.set_cons_succ, i64_w, i32_w]
          rfl
        refine pure_ (i := 8) (N := (some 34)) (v := ?_) (a' := ?_) #[true, true, true, true, true, true, false, true, true, false, false, false, false, false] rfl rfl (any_of HT_.out (by kernel_rfl)) (fun _ _ _ h => h) (Or.inl ⟨by rfl, ?_⟩) ?_ ?_
        rotate_left
        · intro w'
          go_simp
          first | with_reducible rfl | (simp; done) | rfl
        rotate_left
        · simp only [Act.put, List.setIfInBounds_toArray, List.set_cons_zero, List.set_cons_succ, i64_w, i32_w]
          rfl
        refine pure_ (i := 9) (N := (some 35)) (v := ?_) (a' := ?_) #[true, true, true, true, true, true, false, true, true, true, false, false, false, false] rfl rfl (any_of HT_.out (by kernel_rfl)) (fun _ _ _ h => h) (Or.inl ⟨by rfl, ?_⟩) ?_ ?_
        rotate_left
        · intro w'
          go_simp
          first | with_reducible rfl | (simp; done) | rfl
        rotate_left
        · simp only [Act.put, List.setIfInBounds_toArray, List.set_cons_zero, List.set_cons_succ, i64_w, i32_w]
          rfl
        refine one_ (i := 6) (N := (some 32)) #[true, true, true, true, true, true, true, true, true, true, false, false, false, false] rfl rfl (one_of HT_.out (by kernel_rfl)) (by decide) (fun K hK => ?_)
        refine goes_ Tryd.func52 (by kernel_rfl) rfl #[.slice A2 (n - m) (c - m), .int .i64 ((j : Nat) : Int)] (by rfl) rfl rfl (by (try simp only [List.map_toArray, List.map_cons, List.map_nil]); first | done | rfl) ?_
        with_reducible refine (HS.out _ HB.out).mono ?_
        rintro e0 w3 ⟨v3, rfl, ho, hb⟩
        refine ⟨_, rfl, ?_⟩
        have O3 := Aside0.mk (own_weaken ho (below_size HB.out))
        have n0 := Aside0.mk (below_step HB.out hb)
        clear HB
        have HB := n0
        clear n0
        clear hb ho
        refine hK.out _ _ trivial (fun hHeld => ?_)
        clear hK K
        refine norm_ (a' := ?_) ?_ ?_
        rotate_left
        · show Act.put _ (some 32) _ = _
          simp only [Act.put, List.setIfInBounds_toArray, List.set_cons_zero, List.set_cons_succ, i64_w, i32_w]
          rfl
        refine one_ (i := 10) (N := (some 36)) #[true, true, true, true, true, true, true, true, true, true, true, false, false, false] rfl rfl (one_of HT_.out (by kernel_rfl)) (by decide) (fun K hK => ?_)
        refine goes_ Tryd.func51 (by kernel_rfl) rfl #[.slice A m c] (by rfl) rfl rfl (by (try simp only [List.map_toArray, List.map_cons, List.map_nil]); first | done | rfl) ?_
        with_reducible refine (HO.out _ HB.out).mono ?_
        rintro e0 w4 ⟨rfl, hb⟩
        refine ⟨_, rfl, ?_⟩
        have n0 := Aside0.mk (pw_own_below O3.out hb)
        have n1 := Aside0.mk (below_step HB.out hb)
        clear O3 HB
        have O3 := n0
        have HB := n1
        clear n0 n1
        clear hb
        refine hK.out _ _ trivial (fun hHeld => ?_)
        clear hK K
        refine norm_ (a' := ?_) ?_ ?_
        rotate_left
        · show Act.put _ (some 36) _ = _
          simp only [Act.put, List.setIfInBounds_toArray, List.set_cons_zero, List.set_cons_succ, i64_w, i32_w]
          rfl
        refine one_ (i := 11) (N := (some 37)) #[true, true, true, true, true, true, true, true, true, true, true, true, false, false] rfl rfl (one_of HT_.out (by kernel_rfl)) (by decide) (fun K hK => ?_)
        refine value_ (v := .slice (some ⟨w4.heap.size, 0, none⟩) 1 1) (w1 := w4.alloc (.cells (arr d) 25)) (by rfl) rfl (build_one (d := d) rfl rfl DD.out) ?_
        have hb := below_new w4 (.cells (arr d) 25)
        have BK := Aside0.mk (blk_new w4 (.cells (arr d) 25))
        obtain ⟨ga, hga⟩ : ∃ g, w4.heap.size = g := ⟨_, rfl⟩
        rw [hga] at BK ⊢
        generalize w4.alloc (.cells (arr d) 25) = w5 at hb BK ⊢
        have n0 := Aside0.mk (pw_own_below O3.out hb)
        have n1 := Aside0.mk (below_step HB.out hb)
        clear O3 HB
        have O3 := n0
        have HB := n1
        clear n0 n1
        clear hb hga
        refine hK.out _ _ trivial (fun hHeld => ?_)
        clear hK K
        refine norm_ (a' := ?_) ?_ ?_
        rotate_left
        · show Act.put _ (some 37) _ = _
          simp only [Act.put, List.setIfInBounds_toArray, List.set_cons_zero, List.set_cons_succ, i64_w, i32_w]
          rfl
        refine one_ (i := 12) (N := (some 38)) #[true, true, true, true, true, true, true, true, true, true, true, true, true, false] rfl rfl (one_of HT_.out (by kernel_rfl)) (by decide) (fun K hK => ?_)
        rw [if_pos (by rfl)]
        obtain ⟨i0, hi0, hz0, hz1, hz2⟩ := info_parts info_digs
        refine wp_append_own w5 (.tmp 32) (.tmp 37) 31 rfl W.heap.size 25 i0 (.agg (arr zeros32)) 32 32 Tryd.underlying31 hi0 hz0 hz1 hz2 rfl (by decide) v3 ss.length (flatD ss) rfl O3.out ⟨ga, 0, none⟩ 1 1 (arr d).toList rfl (by rw [Array.length_toList, arr_size, DD.out.1]) (row_news BK.out) (arr_ones d) (by have := SL.out; simp only [maxLen]; omega) (by have := SL.out; omega) (below_size HB.out) ?_
        intro v6 w6 ho hg _
        clear hi0 hz0 hz1 hz2
        have O6 := Aside0.mk ho
        have HB6 := Aside0.mk (below_grown HB.out (below_size HB.out) O3.out hg)
        clear ho hg HB O3
        refine hK.out _ _ trivial (fun hHeld => ?_)
        clear hK K
        refine norm_ (a' := ?_) ?_ ?_
        rotate_left
        · show Act.put _ (some 38) _ = _
          simp only [Act.put, List.setIfInBounds_toArray, List.set_cons_zero, List.set_cons_succ, i64_w, i32_w]
          rfl
        refine pure_ (i := 13) (N := (some 4)) (v := ?_) (a' := ?_) #[true, true, true, true, true, true, true, true, true, true, true, true, true, true] rfl rfl (any_of HT_.out (by kernel_rfl)) (fun _ _ _ h => h) (Or.inl ⟨by rfl, ?_⟩) ?_ ?_
        rotate_left
        · intro w'
          go_simp
          first | with_reducible rfl | (simp; done) | rfl
        rotate_left
        · simp only [Act.put, List.setIfInBounds_toArray, List.set_cons_zero, List.set_cons_succ, i64_w, i32_w]
          rfl
        refine done_ (done_of HT_.out (by kernel_rfl)) ?_
        go_wp2
        go_ret
        exact ⟨_, rfl, by rw [List.length_append, flatD_append, flatD_one]; exact O6.out, HB6.out⟩
end Go.Proofs.YtoaimcobcgomjaaDoor.Q
namespace Go.Proofs.YtoaimcobcgomjaaDoor.Q
open Go.RowKit Go.Shelf Go.Proofs.YtoaimcobcgomjaaDoorW.PrintWords Go.Proofs.YtoaimcobcgomjaaDoorW.PrintLast Go.Proofs.YtoaimcobcgomjaaDoorW.PrintMore
set_option linter.unusedVariables false
set_option linter.unusedSimpArgs false
attribute [local go_sem] Oper.semAt_some
set_option maxHeartbeats 1000000 in
theorem halves_in (n : Nat) (A : Option Addr) (len c : Nat) (w : World) :
    CallsIn Fence.wide n Tryd.prog 58 #[.slice A len c] w fun e w' => e = .returned (.func (.func 71) #[] #[.pointer (some ⟨w.heap.size, 0, none⟩)]) ∧ w' = w.alloc (.cells #[.slice A len c] 29) := by
  refine callsIn_of_wp Tryd.func58 rfl trivial ?_ rfl
  simp only [Tryd.ntmps58, List.size_toArray, List.length_cons, List.length_nil, Nat.reduceAdd, Nat.reduceSub, Array.replicate_succ, Array.replicate_zero, List.push_toArray, List.append_toArray, List.nil_append, List.cons_append]
  gi_wp2
  go_ret
  exact ⟨rfl, rfl⟩
/-- A part, as it is handed to a round: the first (false) or the second. -/
def partV (A A2 : Option Addr) (len c m : Nat) (b : Bool) : Array Value := if b = true then #[.slice A2 (len - m) (c - m)] else #[.slice A m c]
/-- A round keeps the block that the iterator reads. -/
def KpB (Bs : Nat) (W1 W2 : World) : Prop := ∀ v, W1.cell? ⟨Bs, 0, none⟩ = some v → W2.cell? ⟨Bs, 0, none⟩ = some v
theorem halves_stops (n : Nat) (hn : 1 ≤ n) (Bs : Nat) (A A2 : Option Addr) (len c m : Nat) (h2 : 2 ≤ len) (h256 : len ≤ 256) (hm : frontN len = m) (hlc : len ≤ c) (hA2 : (if c = m then A else A.map (·.add (m * 1))) = A2) (w : World) (hBs : Bs < w.heap.size) (hcell : w.cell? ⟨Bs, 0, none⟩ = some (.slice A len c)) :
    SeqStopsK Fence.wide n Tryd.prog 71 #[.pointer (some ⟨Bs, 0, none⟩)] (partV A A2 len c m) (KpB Bs) (fun ys => ys = [false, true]) (fun _ => True) 2 w := fun l J Jx W hW hJ hJx hY h0 => by
  have hmr := frontN_range len h2 h256
  rw [hm] at hmr
  obtain ⟨hm1, hm2, hm3⟩ := hmr
  have hct := rows_to A len c m (by omega) hlc
  have hcf := rows_from A len c m (by omega)
  simp only [hA2] at hcf
  have FF : Aside0 (rows_front.f (len : Int) = some (m : Int)) := ⟨by rw [front_f (len : Int) (by omega) (by omega), hm3]⟩
  have hc0 : W.cell? ⟨Bs, 0, none⟩ = some (.slice A len c) := (hW.cell (p := ⟨Bs, 0, none⟩) hBs).trans hcell
  have HY := Aside0.mk hY
  have HJ := Aside0.mk hJ
  clear hY hcell hm3 hA2 hJ
  refine callsIn_of_wp Tryd.func71 rfl trivial ?_ rfl
  simp only [Tryd.ntmps71, List.size_toArray, List.length_cons, List.length_nil, Nat.reduceAdd, Nat.reduceSub, Array.replicate_succ, Array.replicate_zero, List.push_toArray, List.append_toArray, List.nil_append, List.cons_append]
  have hFront : ∀ W : World, CallsIn Fence.wide (n - 1) Tryd.prog 41 #[.int .i64 (len : Int)] W fun e w' => e = .returned (.int .i64 (m : Int)) ∧ Drawn0 W w' := fun W => callsIn_wide.2 (rows_front.calls (len : Int) (m : Int) W FF.out)
  gi_wp2_with (first | (refine ⟨trivial, ?_⟩; gi_at_call 41; refine (hFront _).mono ?_; rintro e w' ⟨rfl, ⟨nd, rfl⟩⟩; have hcd : (W.drewN nd).cell? ⟨Bs, 0, none⟩ = some (.slice A len c) := hc0; obtain ⟨fn, tmps, assign, body, hy, hR⟩ := HY.out [] false (W.drewN nd) (HJ.out [] W _ none h0 ⟨rfl, rfl, rfl, Nat.le_refl _, fun _ _ _ => rfl⟩ (fun r e => by cases e)) (by simp); simp only [partV, Bool.false_eq_true, if_false] at hy))
  refine hR.mono ?_
  rintro e W3 (⟨rfl, hJ3, hk3⟩ | ⟨rfl, hJx3⟩)
  · have hc3 := hk3 _ hcd
    obtain ⟨fn2, tmps2, assign2, body2, hy2, hR2⟩ := HY.out ([] ++ [false]) true W3 hJ3 (by simp)
    simp only [partV, if_true] at hy2
    clear hy hR hcd hc0 h0
    gi_wp2
    refine hR2.mono ?_
    rintro e W4 (⟨rfl, hJ4, hk4⟩ | ⟨rfl, hJx4⟩)
    · gi_wp2
      go_end0
      exact ⟨⟨_, rfl⟩, .inl ⟨_, rfl, hJ4⟩⟩
    · gi_wp2
      go_end0
      exact ⟨⟨_, rfl⟩, .inr ⟨_, trivial, hJx4⟩⟩
  · gi_wp2
    go_end0
    exact ⟨⟨_, rfl⟩, .inr ⟨_, trivial, hJx3⟩⟩
end Go.Proofs.YtoaimcobcgomjaaDoor.Q
namespace Go.Proofs.YtoaimcobcgomjaaDoor.Q
open Go.RowKit Go.Proofs.YtoaimcobcgomjaaDoorW.PrintWords Go.Proofs.YtoaimcobcgomjaaDoorW.PrintLast Go.Proofs.YtoaimcobcgomjaaDoorW.PrintMore
set_option linter.unusedVariables false
theorem rows_in {P : Program} {r n : Nat} {row : String} {args : Array Value} {w : World} {R : Value → World → Prop} (h : Rows P row args w R) : RowsIn (Fence.wide.inRound r) n P row args w R := fun c cs _ =>
  let ⟨v, w', hr, s⟩ := h c cs
  ⟨v, w', hr, stepsIn_wide.2 s⟩
theorem oper_in {P : Program} {r n : Nat} {o : Oper} {a : Act} {w : World} {K : Act → World → Prop} {Q : Exit → Act → World → Prop} (hd : ∀ c, o.op ≠ .defer c) (h : o.wp P a w K Q) : o.wpIn (Fence.wide.inRound r) n P a w K Q := by
  unfold Oper.wp at h
  unfold Oper.wpIn
  refine ⟨fun _ _ => trivial, ?_⟩
  rw [Oper.semAt_plain _ _ _ hd]
  generalize (execOp a.eval o).run P w = res at h ⊢
  cases res with
  | ok x w' =>
    cases x with
    | value v => exact h
    | skip => exact h
    | defer d => exact h
    | enter f args => exact ⟨fun hs => (by cases hs), CallsIn.inRound r (callsIn_wide.2 h)⟩
    | row rw args => exact ⟨fun hs => (by cases hs), rows_in h⟩
    | _ => exact h.elim
  | halt hh w' =>
    cases hh with
    | panic v => exact h
    | _ => exact h.elim
theorem op_in {P : Program} {r n i : Nat} {ops : Array Oper} {a : Act} {w : World} {K K' : Act → World → Prop} {Q : Exit → Act → World → Prop} (hd : ∀ (j : Nat) (o : Oper), ops[j]? = some o → ∀ c, o.op ≠ .defer c) (hL : ¬ LetsOut Q) (hK : ∀ a w, K a w → K' a w) (h : wpOp P ops Q i K a w) : wpOpIn (Fence.wide.inRound r) n P ops Q i K' a w := by
  unfold wpOp at h
  unfold wpOpIn
  cases ho : ops[i]? with
  | none => rw [ho] at h; exact hK _ _ h
  | some o =>
    rw [ho] at h
    dsimp only at h ⊢
    by_cases hw : Region.wanted o (yielded ops a.tmps) = true
    · rw [if_pos hw] at h ⊢
      rcases h with h | ⟨_, hl⟩
      · exact Oper.wpIn_mono hK (oper_in (hd i o ho) h)
      · exact absurd hl hL
    · rw [if_neg hw] at h ⊢
      exact ⟨fun _ _ => trivial, hK _ _ h⟩
theorem any_in {P : Program} {r n : Nat} {md : Region.Mode} {ops : Array Oper} {Q : Exit → Act → World → Prop} (hd : ∀ (j : Nat) (o : Oper), ops[j]? = some o → ∀ c, o.op ≠ .defer c) (hL : ¬ LetsOut Q) : ∀ (fuel : Nat) (listed : Array Bool) (a : Act) (w : World), wpAny P md ops Q fuel listed a w → wpAnyIn (Fence.wide.inRound r) n P md ops Q fuel listed a w
  | 0, listed, a, w, h => h
  | fuel + 1, listed, a, w, h => ⟨h.1, fun i hi => op_in hd hL (fun a w hk => any_in hd hL fuel _ a w hk) (h.2 i hi)⟩
def noDefer (ops : Array Oper) : Bool := ops.all fun o => match o.op with | .defer _ => false | _ => true
theorem noDefer_of {ops : Array Oper} (h : noDefer ops = true) : ∀ (j : Nat) (o : Oper), ops[j]? = some o → ∀ c, o.op ≠ .defer c := fun j o ho c hc => by
  unfold noDefer at h
  rw [Array.all_eq_true] at h
  obtain ⟨hj, rfl⟩ := Array.getElem?_eq_some_iff.1 ho
  have := h j hj
  rw [hc] at this
  cases this
theorem start_in {P : Program} {ops : Array Oper} {Q : Exit → Act → World → Prop} {S : World → Prop} {ds : List Nat} {r k id n : Nat} {a : Act} {w : World} (l : Array Bool) (hL : ¬ LetsOut Q) (hd : noDefer ops = true) (hm : P.follows .mixedOrders = true) (hn : ops.size = n) (hl : Array.replicate n false = l) (hS : S w.drew)
    (h : S w.drew → wpAnyLast P .any ops Q S ds n l a w.drew) : (Code.region id ops true).wpIn (Fence.wide.inRound r) k P Q a w := by
  subst hn
  subst hl
  exact wpIn_region_any hm (any_in (noDefer_of hd) hL _ _ _ _ (wpAny_of_last _ _ _ _ (h hS)))
end Go.Proofs.YtoaimcobcgomjaaDoor.Q
namespace Go.Proofs.YtoaimcobcgomjaaDoor.Q
open Go.RowKit Go.Shelf Go.Proofs.YtoaimcobcgomjaaDoorW.PrintWords Go.Proofs.YtoaimcobcgomjaaDoorW.PrintLast Go.Proofs.YtoaimcobcgomjaaDoorW.PrintMore
set_option linter.unusedVariables false
set_option linter.unusedSimpArgs false
def slv (b : Nat) : Value := .slice (some ⟨b, 0, none⟩) 32 32
structure RootM (B : Nat) (box : Value) (d : Bool → List Int) (pre : List Bool) (W : World) (v : Value) (bs : List Nat) : Prop where
  all : W.heap[B + 1]? = some (.cells #[v] 29 (0, 0))
  own : W.ownsRow B 22 1 v pre.length (bs.map slv)
  len : bs.length = pre.length
  dig : ∀ (j b : Nat) (x : Bool), bs[j]? = some b → pre[j]? = some x → W.heap[b]? = some (.cells (arr (d x)) 25 (0, 0))
  res : W.heap[B]? = some (.cells (arr zeros32) 25 (0, 0))
  box_ : W.heap[B + 2]? = some (.cells #[box] 29 (0, 0))
def RootI (B : Nat) (box : Value) (d : Bool → List Int) (pre : List Bool) (W : World) : Prop := ∃ v bs, RootM B box d pre W v bs
/-- Blocks of cells stay. -/
def CellsStay (W W' : World) : Prop := ∀ (k : Nat) (cs : Array Value) (t : Nat) (fr : Nat × Nat), W.heap[k]? = some (.cells cs t fr) → W'.heap[k]? = some (.cells cs t fr)
theorem own_stay {W W' : World} {base e size n : Nat} {v : Value} {xs : List Value} (h : W.ownsRow base e size v n xs) (hs : CellsStay W W') : W'.ownsRow base e size v n xs :=
  own_move h fun k hk => by
    obtain ⟨cells, hc⟩ := own_typed h k hk
    rw [hs k cells e (0, 0) hc, hc]
theorem RootM.stay {B : Nat} {box : Value} {d : Bool → List Int} {pre : List Bool} {W W' : World} {v : Value} {bs : List Nat} (h : RootM B box d pre W v bs) (hs : CellsStay W W') : RootM B box d pre W' v bs :=
  ⟨hs _ _ _ _ h.all, own_stay h.own hs, h.len, fun j b x hb hx => hs _ _ _ _ (h.dig j b x hb hx), hs _ _ _ _ h.res, hs _ _ _ _ h.box_⟩
theorem stay_below {W W' : World} (hb : Below W.heap.size W W') : CellsStay W W' := fun k cs t fr h => blk_below h hb
theorem stay_grown {W W' : World} {row : Option Nat} (hg : W.grownBy W' row) (hr : ∀ r, row = some r → ∃ o : Obj, W.heap[r]? = some o ∧ o.isCells = false) : CellsStay W W' := fun k cs t fr h =>
  (hg.block k (blk_lt h) (fun e => by
    obtain ⟨o, ho, hc⟩ := hr k e.symm
    rw [h] at ho
    cases ho
    cases hc)).trans h
theorem RootI_own (B : Nat) (box : Value) (d : Bool → List Int) : Own (RootI B box d) := fun s W W' row ⟨v, bs, h⟩ hg hr => ⟨v, bs, h.stay (stay_grown hg hr)⟩
/-- A round: one more digest. -/
theorem RootM.step {B g : Nat} {box : Value} {d : Bool → List Int} {pre : List Bool} {wa wb : World} {v v' : Value} {bs : List Nat} {y : Bool} (h : RootM B box d pre wa v bs) (h5 : wa.heap[g]? = some (.cells (arr (d y)) 25 (0, 0))) (hg : wa.grownBy wb v.ownBlock)
    (ho : wb.ownsRow B 22 1 v' (pre.length + 1) (bs.map slv ++ [slv g])) : RootM B box d (pre ++ [y]) (wb.setCell ⟨B + 1, 0, none⟩ v') v' (bs ++ [g]) := by
  have keep : ∀ (k : Nat) (cs : Array Value) (t : Nat), wa.heap[k]? = some (.cells cs t (0, 0)) → t ≠ 22 → wb.heap[k]? = some (.cells cs t (0, 0)) := fun k cs t hk ht => by
    refine (hg.block k (blk_lt hk) (fun e => ?_)).trans hk
    obtain ⟨cells, hc⟩ := own_typed h.own k e.symm
    rw [hk] at hc
    cases hc
    exact ht rfl
  have hall := keep _ _ _ h.all (by decide)
  have far : ∀ (k : Nat) (cs : Array Value) (t : Nat), wb.heap[k]? = some (.cells cs t (0, 0)) → t ≠ 29 → (wb.setCell ⟨B + 1, 0, none⟩ v').heap[k]? = some (.cells cs t (0, 0)) := fun k cs t hk ht => by
    refine blk_far hk (p := ⟨B + 1, 0, none⟩) (fun e => ?_) v'
    simp only at e
    subst e
    rw [hall] at hk
    cases hk
    exact ht rfl
  refine ⟨blk_put hall 0 v' rfl, ?_, by simp [h.len], fun j b x hb hx => ?_, far _ _ _ (keep _ _ _ h.res (by decide)) (by decide), ?_⟩
  · rw [List.map_append, List.length_append]
    refine own_move ho fun k hk => ?_
    obtain ⟨cells, hc⟩ := own_typed ho k hk
    rw [far k cells 22 hc (by decide), hc]
  · have hl := h.len
    by_cases hj : j < bs.length
    · rw [List.getElem?_append_left hj] at hb
      rw [List.getElem?_append_left (by omega)] at hx
      exact far _ _ _ (keep _ _ _ (h.dig j b x hb hx) (by decide)) (by decide)
    · rw [List.getElem?_append_right (by omega)] at hb
      rw [List.getElem?_append_right (by omega)] at hx
      have : j - bs.length = 0 := by
        rcases Nat.eq_zero_or_pos (j - bs.length) with h0 | h0
        · exact h0
        · rw [List.getElem?_eq_none (by simp; omega)] at hb; cases hb
      rw [this] at hb
      rw [show j - pre.length = 0 by omega] at hx
      cases hb
      cases hx
      exact far _ _ _ (keep _ _ _ h5 (by decide)) (by decide)
  · have hb2 := keep _ _ _ h.box_ (by decide)
    exact blk_far hb2 (p := ⟨B + 1, 0, none⟩) (by show B + 2 ≠ B + 1; omega) v'
/-- Both digests have come. -/
theorem RootM.both {B : Nat} {box : Value} {d : Bool → List Int} {W : World} {v : Value} {bs : List Nat} (hd : ∀ b, Dig (d b)) (h : RootM B box d [false, true] W v bs) : ∃ g cap, v = .slice (some ⟨g, 0, none⟩) 2 cap ∧ 2 ≤ cap ∧ (Kd.slice 5 (Kd.int .u8)).C W (some ⟨g, 0, none⟩) 2 [d false, d true] := by
  obtain ⟨b1, b2, rfl⟩ : ∃ b1 b2, bs = [b1, b2] := by
    have := h.len
    match bs, this with
    | [b1, b2], _ => exact ⟨b1, b2, rfl⟩
  rcases h.own.2 with ⟨_, h0⟩ | ⟨g, cap, cur, rfl, hg, hh, hn, _, hsz, htk⟩
  · simp at h0
  · refine ⟨g, cap, rfl, hn, ?_⟩
    have hcur : ∀ j : Nat, j < 2 → cur[j]? = [slv b1, slv b2][j]? := fun j hj => by
      have e : (cur.toList.take 2)[j]? = [slv b1, slv b2][j]? := by
        have := htk
        simp only [List.length_cons, List.length_nil, Nat.zero_add, Nat.reduceAdd, Nat.mul_one, List.map_cons, List.map_nil] at this
        rw [this]
      rw [List.getElem?_take, if_pos hj] at e
      rw [← e, Array.getElem?_toList]
    refine parts_C hh (by simp) fun j q hj => ?_
    match j, hj with
    | 0, hj =>
      simp only [List.getElem?_cons_zero, Option.some.injEq] at hj
      subst hj
      have b := dig_bts (h.dig 0 b1 false rfl rfl) (hd false)
      exact ⟨some ⟨b1, 0, none⟩, 32, by rw [hcur 0 (by omega)]; simp [slv, (hd false).1], by rw [(hd false).1]; omega, by rw [(hd false).1]; exact b.rd_⟩
    | 1, hj =>
      simp only [List.getElem?_cons_succ, List.getElem?_cons_zero, Option.some.injEq] at hj
      subst hj
      have b := dig_bts (h.dig 1 b2 true rfl rfl) (hd true)
      exact ⟨some ⟨b2, 0, none⟩, 32, by rw [hcur 1 (by omega)]; simp [slv, (hd true).1], by rw [(hd true).1]; omega, by rw [(hd true).1]; exact b.rd_⟩
    | j + 2, hj => simp at hj
end Go.Proofs.YtoaimcobcgomjaaDoor.Q
namespace Go.Proofs.YtoaimcobcgomjaaDoor.Q
open Go.RowKit Go.Shelf Go.Proofs.YtoaimcobcgomjaaDoorW.PrintWords Go.Proofs.YtoaimcobcgomjaaDoorW.PrintLast Go.Proofs.YtoaimcobcgomjaaDoorW.PrintMore
set_option linter.unusedVariables false
set_option linter.unusedSimpArgs false
attribute [local go_sem] Oper.semAt_some
theorem dig_store_in {F : Fence} {n : Nat} {ops : Array Oper} {rest : List Oper} {o : Oper} {a : Act} {W : World} {Q : Exit → Act → World → Prop} (hgd : o.guard = none) (x y : Operand) (ho : o.op = .store 25 x y) (g : Nat) (ds old : List Int) (hx : a.eval x = .pointer (some ⟨g, 0, none⟩)) (hy : a.eval y = .agg (arr ds))
    (hg : W.heap[g]? = some (.cells (arr old) 25 (0, 0))) (hl : ds.length = 32) (hold : old.length = 32)
    (h : ∀ w1, w1.heap[g]? = some (.cells (arr ds) 25 (0, 0)) → (∀ k, k ≠ g → w1.heap[k]? = W.heap[k]?) → (∀ (B : Nat) (w0 : World), Below B w0 W → B ≤ g → Below B w0 w1) → KeepsOthers W w1 → wpListIn F n Tryd.prog ops Q rest (a.put o.dst undef) w1) : wpListIn F n Tryd.prog ops Q (o :: rest) a W := by
  refine wpListIn_plain hgd fun K hK' => ?_
  unfold Oper.wpIn
  refine ⟨?_, ?_⟩
  · simp [Oper.about, ho]
  · rw [Oper.semAt_plain F _ _ (by rw [ho]; intro c hc; cases hc)]
    have hr := run_storeVar_row (P := Tryd.prog) (ty := 25) W g 25 (arr old) (arr ds) hg (by rw [arr_size, hl]; exact info_dig) (by rw [arr_size, arr_size, hl, hold]) (arr_one ds)
    simp only [execOp, ho, hx, hy, Instr.storeAt, Instr.sureAddr, Sem.run_bind, Sem.run_pure, Result.andThen_ok, hr]
    have hoth : ∀ k, k ≠ g → (W.setRow g (arr ds)).heap[k]? = W.heap[k]? := fun k hk => setRow_other W g k _ hk
    exact hK' _ _ (h _ (setRow_heap W g _ _ _ _ hg) hoth (fun B w0 hb hB => below_setRow hb hB _) ⟨(below_setRow (Below.refl 0 W) (Nat.zero_le _) (arr ds)).size, fun k o hk ho => by
      by_cases e : k = g
      · subst e
        rw [hg] at hk
        cases hk
        cases ho
      · exact (hoth k e).trans hk⟩)
def root10_T : Bool × List (List Nat × List Nat) := (true, [([], []), ([], []), ([1], [1]), ([0, 2], [0, 2]), ([3, 3, 0, 1, 2, 3], [3])])
def root10_B : List Nat := [0, 0, 2, 7, 15]
theorem root10_tab : rtab .any (opsOf Tryd.f42 10) = root10_T := by kernel_rfl
theorem root10_bits : waitsOk root10_T.2 root10_B = true := by kernel_rfl
set_option maxHeartbeats 4000000 in
set_option maxRecDepth 100000 in
theorem root_small (A : Option Addr) (n c : Nat) (l : List (List Int)) (W : World) (br : Rws W A n c l) (hs : Short l) (hn : n ≤ 1) (hk : KT W) :
    Calls Tryd.prog 42 #[.slice A n c] W fun e W' => e = .returned (.agg (arr (rootP l))) ∧ Below W.heap.size W W' := by
  have hln := br.len
  have HK := Aside0.mk hk
  clear hk
  by_cases h0 : n = 0
  · subst h0
    rw [rootP_none l hln]
    have HB := Aside0.mk (Below.refl W.heap.size W)
    clear br hln
    go_enter Tryd.func42, Tryd.ntmps42
    go_wp2_with (
      first
      | ((with_reducible refine gate_dst (N := 2) rfl ?_); refine box_event ?hg (N := 2) ?hd (cs := arr zeros32) (t := 25) ?hr ?_; (case hd => rfl); (case hg => rfl); (case hr => first | (go_simp; done) | (go_simp; rfl));
                         intro g2 hg w1 hbox hb; have BK2 := Aside0.mk hbox; have G2 := Aside0.mk (show W.heap.size ≤ g2 by rw [hg]; exact below_size HB.out); have n0 := Aside0.mk (below_step HB.out hb); clear HB; have HB := n0; clear n0; clear hb hbox hg)
      | (go_at_call 45; (with_reducible refine (tagNone_walk _ (HK.out.below HK.out.lt HB.out)).mono ?_); rintro e wq ⟨rfl, hb⟩; have n0 := Aside0.mk (blk_below BK2.out hb); have n1 := Aside0.mk (below_step HB.out hb); clear BK2 HB; have BK2 := n0; have HB := n1; clear n0 n1; clear hb)
      | ((with_reducible refine gate_store (p := 2) rfl ?_); refine dig_store rfl (.tmp 2) (.tmp 10) rfl g2 (tagOf 0 []) (zeros32) rfl rfl BK2.out (tagOf_len _ _) (rfl) ?_; intro ws bk hoth hbel; have nn := Aside0.mk bk; have n0 := Aside0.mk (hbel _ _ HB.out G2.out); clear HB; have HB := n0; clear n0; clear BK2 bk hoth hbel; have BK2 := nn; clear nn))
    refine bodyPost_ret (results_c rfl _ _ g2 25 (arr (tagOf 0 [])) (0, 0) _ rfl BK2.out Tryd.underlying25 rfl (by rw [arr_size, tagOf_len]; exact info_dig)) rfl ?_
    exact ⟨rfl, HB.out⟩
  · obtain rfl : n = 1 := by omega
    rw [rootP_one l hln]
    obtain ⟨ad, A0, c0, hA, hcell, bb⟩ := br.row 0 (by omega)
    subst hA
    have e0 : ad.add 0 = ad := by simp [Addr.add]
    rw [e0] at hcell
    have hsh := hs _ (List.getElem_mem (show 0 < l.length by omega))
    obtain ⟨p, hp⟩ : ∃ p, l[0]'(by omega) = p := ⟨_, rfl⟩
    rw [hp] at hcell bb hsh ⊢
    have HC := Aside0.mk hcell
    have HSH := Aside0.mk hsh
    have BB := Aside0.mk bb
    have HB := Aside0.mk (Below.refl W.heap.size W)
    clear br hln hp hs hsh bb hcell
    go_enter Tryd.func42, Tryd.ntmps42
    go_wp2_with (
      first
      | ((with_reducible refine gate_dst (N := 2) rfl ?_); refine box_event ?hg (N := 2) ?hd (cs := arr zeros32) (t := 25) ?hr ?_; (case hd => rfl); (case hg => rfl); (case hr => first | (go_simp; done) | (go_simp; rfl));
                         intro g2 hg w1 hbox hb; have BK2 := Aside0.mk hbox; have G2 := Aside0.mk (show W.heap.size ≤ g2 by rw [hg]; exact below_size HB.out); have n0 := Aside0.mk (below_step HB.out hb); clear HB; have HB := n0; clear n0; clear hb hbox hg; have hc1 := cell_below HC.out HB.out)
      | (go_at_call 44; (with_reducible refine (tag1 7 (by decide) _ 1 22 c0 p.length A0 p _ (blk_new _ _) ((BB.out.below HB.out).alloc _) (Nat.le_refl _) HSH.out (HK.out.below HK.out.lt (below_alloc HB.out _))).mono ?_); rintro e wq ⟨rfl, hb⟩; have n0 := Aside0.mk (blk_below (blk_alloc BK2.out _) hb); have n1 := Aside0.mk (below_step (below_alloc HB.out _) hb); clear BK2 HB; have BK2 := n0; have HB := n1; clear n0 n1; clear hb)
      | ((with_reducible refine gate_store (p := 2) rfl ?_); refine dig_store rfl (.tmp 2) (.tmp 17) rfl g2 (tagOf 7 [p]) (zeros32) rfl rfl BK2.out (tagOf_len _ _) (rfl) ?_; intro ws bk hoth hbel; have nn := Aside0.mk bk; have n0 := Aside0.mk (hbel _ _ HB.out G2.out); clear HB; have HB := n0; clear n0; clear BK2 bk hoth hbel; have BK2 := nn; clear nn))
    refine bodyPost_ret (results_c rfl _ _ g2 25 (arr (tagOf 7 [p])) (0, 0) _ rfl BK2.out Tryd.underlying25 rfl (by rw [arr_size, tagOf_len]; exact info_dig)) rfl ?_
    exact ⟨rfl, HB.out⟩
theorem own_form {w : World} {B e size n : Nat} {v : Value} {xs : List Value} (h : w.ownsRow B e size v (n + 1) xs) : ∃ g c, v = .slice (some ⟨g, 0, none⟩) (n + 1) c := by
  rcases h.2 with ⟨_, h0⟩ | ⟨g, cap, cur, rfl, _⟩
  · cases h0
  · exact ⟨g, cap, rfl⟩
theorem keeps_of_below {W w : World} (h : Below W.heap.size W w) : KeepsOthers W w := ⟨h.size, fun k o hk _ => blk_below hk h⟩
theorem cell_all {B : Nat} {box : Value} {d : Bool → List Int} {pre : List Bool} {wa wb : World} {v v' : Value} {bs : List Nat} {k : Nat} {xs : List Value} (ho : wb.ownsRow B 22 1 v' k xs) (hg : wa.grownBy wb v.ownBlock) (h : RootM B box d pre wa v bs) : wb.heap[B + 1]? = some (.cells #[v] 29 (0, 0)) := by
  refine (hg.block _ (blk_lt h.all) (fun e => ?_)).trans h.all
  obtain ⟨cells, hc⟩ := own_typed h.own _ e.symm
  rw [h.all] at hc
  cases hc
theorem own_base {B : Nat} {box : Value} {d : Bool → List Int} {pre : List Bool} {wa : World} {v : Value} {bs : List Nat} (h : RootM B box d pre wa v bs) (k : Nat) (hk : v.ownBlock = some k) : B ≤ k := by
  rcases h.own.2 with ⟨rfl, _⟩ | ⟨g, cap, cur, rfl, hb, _⟩
  · simp [Value.ownBlock] at hk
  · simp only [Value.ownBlock, Option.some.injEq] at hk
    omega
theorem keeps_append {B : Nat} {box : Value} {d : Bool → List Int} {pre : List Bool} {W1 wa wb : World} {v : Value} {bs : List Nat} (h : RootM B box d pre wa v bs) (hb : Below W1.heap.size W1 wa) (hg : wa.grownBy wb v.ownBlock) : KeepsOthers W1 wb :=
  (keeps_of_below hb).trans ⟨hg.size, fun k o hk ho => (hg.block k (blk_lt hk) (fun e => by
    obtain ⟨cells, hc⟩ := own_typed h.own _ e.symm
    rw [hk] at hc
    cases hc
    cases ho)).trans hk⟩
set_option maxHeartbeats 16000000 in
set_option maxRecDepth 100000 in
theorem root_walk (k : Nat) : ∀ (A : Option Addr) (n c : Nat) (l : List (List Int)) (W : World), Rws W A n c l → Short l → n ≤ k → n ≤ 256 → KT W →
    Calls Tryd.prog 42 #[.slice A n c] W fun e W' => e = .returned (.agg (arr (rootP l))) ∧ Below W.heap.size W W' := by
  induction k with
  | zero => intro A n c l W br hs h1 h2 hk; exact root_small A n c l W br hs (by omega) hk
  | succ k ih =>
    intro A n c l W br hs h1 h2 hk
    by_cases h3 : n ≤ 1
    · exact root_small A n c l W br hs h3 hk
    · have hln := br.len
      have hle := br.le
      have b0 : ((n : Int) == 0) = false := by simp; omega
      have b1 : ((n : Int) == 1) = false := by simp; omega
      have e := rootP_two l (by omega) (by omega)
      rw [hln] at e
      obtain ⟨m, hm⟩ : ∃ m, frontN n = m := ⟨_, rfl⟩
      have hmr := frontN_range n (by omega) h2
      rw [hm] at hmr e
      obtain ⟨hm1, hm2, hm3⟩ := hmr
      have HD2 : ∀ w, Below W.heap.size W w → Rws w (if c = m then A else A.map (·.add (m * 1))) (n - m) (c - m) (l.drop m) := fun w hw => (br.below hw).drop m (by omega)
      obtain ⟨A2, hA2⟩ : ∃ A2, (if c = m then A else A.map (·.add (m * 1))) = A2 := ⟨_, rfl⟩
      rw [hA2] at HD2
      obtain ⟨d1, hd1⟩ : ∃ d, rootP (l.take m) = d := ⟨_, rfl⟩
      obtain ⟨d2, hd2⟩ : ∃ d, rootP (l.drop m) = d := ⟨_, rfl⟩
      rw [hd1, hd2] at e
      have D1 : Aside0 (Dig d1) := ⟨by rw [← hd1]; exact rootP_dig _⟩
      have D2 : Aside0 (Dig d2) := ⟨by rw [← hd2]; exact rootP_dig _⟩
      have D1L : Aside0 (d1.length = 32) := ⟨D1.out.1⟩
      have D2L : Aside0 (d2.length = 32) := ⟨D2.out.1⟩
      have HC1 : Aside0 (∀ w, Below W.heap.size W w → Calls Tryd.prog 42 #[.slice A m c] w fun e W' => e = .returned (.agg (arr d1)) ∧ Below w.heap.size w W') := ⟨fun w hw => by
        have := ih A m c (l.take m) w ((br.below hw).take m (by omega)) (hs.take m) (by omega) (by omega) (hk.below hk.lt hw)
        rwa [hd1] at this⟩
      have HC2 : Aside0 (∀ w, Below W.heap.size W w → Calls Tryd.prog 42 #[.slice A2 (n - m) (c - m)] w fun e W' => e = .returned (.agg (arr d2)) ∧ Below w.heap.size w W') := ⟨fun w hw => by
        have := ih A2 (n - m) (c - m) (l.drop m) w (HD2 w hw) (hs.drop m) (by omega) (by omega) (hk.below hk.lt hw)
        rwa [hd2] at this⟩
      have HK := Aside0.mk hk
      rw [e]
      clear br hs ih hln hk e hd1 hd2 HD2 hm3
      refine (callsIn_wide (n := 3)).1 ?_
      refine callsIn_of_wp_marks Tryd.func42 rfl trivial ?_ rfl
      simp only [Tryd.ntmps42, List.size_toArray, List.length_cons, List.length_nil, Nat.reduceAdd, Nat.reduceSub, Array.replicate_succ, Array.replicate_zero, List.push_toArray, List.append_toArray, List.nil_append, List.cons_append]
      gi_wp2_with (refine ⟨trivial, ?_⟩; gi_at_call 58; refine (halves_in 2 _ _ _ _).mono ?_; rintro e w' ⟨rfl, rfl⟩)
      obtain ⟨W0, hW0⟩ : ∃ W0, ((W.alloc (.cells (arr zeros32) 25)).alloc (.cells #[.slice none 0 0] 29)).alloc (.cells #[.slice A n c] 29) = W0 := ⟨_, rfl⟩
      change Code.wpIn _ _ _ _ _ _ (((W.alloc (.cells (arr zeros32) 25)).alloc (.cells #[.slice none 0 0] 29)).alloc (.cells #[.slice A n c] 29))
      have hx2 : W0.heap[W.heap.size]? = some (.cells (arr zeros32) 25 (0, 0)) := by rw [← hW0]; exact blk_alloc (blk_alloc (blk_new _ _) _) _
      have hx3 : W0.heap[W.heap.size + 1]? = some (.cells #[.slice none 0 0] 29 (0, 0)) := by rw [← hW0]; exact blk_alloc (blk_new1 W _ _) _
      have hx4 : W0.heap[W.heap.size + 2]? = some (.cells #[.slice A n c] 29 (0, 0)) := by rw [← hW0]; exact blk_new2 W _ _ _
      have hsz : W0.heap.size = W.heap.size + 3 := by rw [← hW0]; simp
      have hBw : Below W.heap.size W W0 := by rw [← hW0]; exact below_alloc (below_alloc (below_new W _) _) _
      rw [hW0]
      clear hW0
      refine wpIn_rangeFunc_ownG rfl (by omega) (gf := 71) (lb := #[.pointer (some ⟨W.heap.size + 1 + 1, 0, none⟩)]) rfl trivial (enters_of Tryd.func71 (by kernel_rfl) rfl)
        (halves_stops 2 (by omega) (W.heap.size + 1 + 1) A A2 n c m (by omega) h2 hm hle hA2 W0 (by omega) ((blk_cell hx4 0).trans rfl))
        (fun h k v hv => k v (h v hv)) (fun X l o o' hl ho hc hw v hv => ((belowK_b (n₀ := W0.heap.size) (w := W0) (Nat.le_refl _) X l o o' hl ho hc hw).cell (p := ⟨W.heap.size + 1 + 1, 0, none⟩) (by show W.heap.size + 1 + 1 < _; omega)).trans hv) (Below.refl _ _) (fun x => by cases x <;> rfl)
        (fun pre X => RootI W.heap.size (.slice A n c) (fun y => if y = true then d2 else d1) pre X ∧ Below W.heap.size W X) (fun _ _ _ => False)
        (OwnFrom.and (Own.from (RootI_own _ _ _) _) (ownFrom_below (Nat.le_refl _) (by omega)))
        (fun _ _ _ _ _ hs _ _ => hs)
        ⟨⟨.slice none 0 0, [], ⟨hx3, World.ownsRow_nil _ _ _ _, rfl, fun j b x hb => by simp at hb, hx2, hx4⟩⟩, hBw⟩
        (fun y => { tmps := #[.slice A n c, undef, .pointer (some ⟨W.heap.size, 0, none⟩), .pointer (some ⟨W.heap.size + 1, 0, none⟩), (if y = true then .slice A2 (n - m) (c - m) else .slice A m c), undef, .slice A n c, .int .i64 (n : Int), .bool false, .bool false, undef, .bool false, .bool false, undef, undef, undef, undef, undef, .slice A n c, .func (.func 71) #[] #[.pointer (some ⟨W.heap.size + 1 + 1, 0, none⟩)], (if y = true then .slice A2 (n - m) (c - m) else .slice A m c), undef, undef, undef, undef, undef, undef, undef, undef], defers := [] }) ?assign ?body ?done ?stop
      case assign =>
        intro lp y X K hK
        cases y <;> (simp only [partV, Bool.false_eq_true, reduceIte] at hK ⊢; gi_wp2; exact hK)
      case stop =>
        rintro D cc pre X hD _ hf
        exact hf.elim
      case body =>
        rintro lp pre y W1 ⟨⟨v, bs, hM⟩, hBW⟩ hlt
        have HM := Aside0.mk hM
        have HBW := Aside0.mk hBW
        have PL : Aside0 (pre.length < 2) := ⟨hlt⟩
        have hbx : W1.cell? ⟨W.heap.size + 1 + 1, 0, none⟩ = some (.slice A n c) := (blk_cell hM.box_ 0).trans rfl
        clear hx2 hx3 hx4 hsz hBw hM hBW hlt
        have hQL : ¬ LetsOut (Exit.inBlock 2 (ownPostG W0.heap.size (KpB (W.heap.size + 1 + 1)) (fun pre X => RootI W.heap.size (.slice A n c) (fun y => if y = true then d2 else d1) pre X ∧ Below W.heap.size W X) (fun _ _ _ => False) (pre ++ [y]) W1)) := by
          rintro ⟨a, w, h⟩
          exact h
        cases y with
        | false =>
          refine wpIn_block (wpIn_seq (wpIn_mono (Q := fun e a' w' => e = .normal ∧ ∃ g, a' = ({ tmps := #[.slice A n c, undef, .pointer (some ⟨W.heap.size, 0, none⟩), .pointer (some ⟨W.heap.size + 1, 0, none⟩), .slice A m c, .pointer (some ⟨g, 0, none⟩), .slice A n c, .int .i64 (n : Int), .bool false, .bool false, undef, .bool false, .bool false, undef, undef, undef, undef, undef, .slice A n c, .func (.func 71) #[] #[.pointer (some ⟨W.heap.size + 1 + 1, 0, none⟩)], .slice A m c, .slice A m c, .agg (arr d1), undef, undef, undef, undef, undef, undef], defers := [] } : Act) ∧ RootM W.heap.size (.slice A n c) (fun y => if y = true then d2 else d1) pre w' v bs ∧ w'.heap[g]? = some (.cells (arr d1) 25 (0, 0)) ∧ Below W.heap.size W w' ∧ Below W1.heap.size W1 w') ?_ ?_))
          · gi_wp2_with (
              first
              | (refine ⟨trivial, ?_⟩; gi_at_call 42; refine (CallsIn.inRound lp (callsIn_wide.2 (HC1.out _ HBW.out))).mono ?_; rintro e w1 ⟨rfl, hb⟩; have HM1 := Aside0.mk (HM.out.stay (stay_below hb)); have HB1 := Aside0.mk (below_step HBW.out hb); have BW1 := Aside0.mk hb; clear hb)
              | (refine dig_store_in rfl (.tmp 5) (.tmp 22) rfl _ d1 zeros32 rfl rfl (blk_new _ _) D1L.out rfl ?_; intro w2 hb2 hoth hbel hko; have hb := hbel w1.heap.size w1 (below_new w1 _) (Nat.le_refl _); have HM2 := Aside0.mk (HM1.out.stay (stay_below hb)); have HB2 := Aside0.mk (below_step HB1.out hb); have BW2 := Aside0.mk (below_step BW1.out hb); have BK5 := Aside0.mk hb2; clear hb hb2 hoth hbel hko))
            first | exact ⟨HM2.out, BK5.out, HB2.out, BW2.out⟩ | exact ⟨rfl, _, rfl, HM2.out, BK5.out, HB2.out, BW2.out⟩
          · rintro e a' w2 ⟨rfl, g, rfl, hM2, hk5, hB2, hW2⟩
            have HM2 := Aside0.mk hM2
            have hcv : w2.drew.cell? ⟨W.heap.size + 1, 0, none⟩ = some v := (blk_cell hM2.all 0).trans rfl
            have hs5 := fun W => sl_dig ⟨g, 0, none⟩ W
            clear hM2
            refine start_in (n := 5) (S := fun w' => w'.cell? ⟨W.heap.size + 1, 0, none⟩ = some v) (ds := [4]) #[false, false, false, false, false] hQL (by kernel_rfl) (by kernel_rfl) rfl rfl hcv (fun hHeld => ?_)
            refine with_tabW root10_tab root10_bits (fun HT_ HW_ => ?_)
            have hb : Below w2.heap.size w2 w2.drew := below_drew (Below.refl _ _)
            have HM3 := Aside0.mk (HM2.out.stay (stay_below hb))
            have K5 := Aside0.mk (blk_below hk5 hb)
            have HB3 := Aside0.mk (below_step hB2 hb)
            have BW3 := Aside0.mk (below_step hW2 hb)
            clear hb hB2 hW2 hk5 HM2
            generalize w2.drew = wa at HM3 K5 HB3 BW3 hHeld ⊢
            refine take_ (i := 0) (N := (some 23)) (v := ?_) (a' := ?_) #[true, false, false, false, false] rfl rfl (take_ofW HT_.out HW_.out (by kernel_rfl)) (fun _ _ _ h => h) (Or.inl ⟨by rfl, ?_⟩) hHeld ?_ ?_
            rotate_left
            · rintro w' s0
              go_simp
              with_reducible rfl
            rotate_left
            · simp only [Act.put, List.setIfInBounds_toArray, List.set_cons_zero, List.set_cons_succ, i64_w, i32_w]
              rfl
            refine pure_ (i := 1) (N := (some 24)) (v := ?_) (a' := ?_) #[true, true, false, false, false] rfl rfl (any_of HT_.out (by kernel_rfl)) (fun _ _ _ h => h) (Or.inl ⟨by rfl, ?_⟩) ?_ ?_
            rotate_left
            · intro w'
              go_simp
              first | with_reducible rfl | (simp; done) | rfl
            rotate_left
            · simp only [Act.put, List.setIfInBounds_toArray, List.set_cons_zero, List.set_cons_succ, i64_w, i32_w]
              rfl
            refine one_ (i := 2) (N := (some 25)) #[true, true, true, false, false] rfl rfl (one_of HT_.out (by kernel_rfl)) (by decide) (fun K hK => ?_)
            refine value_ (v := .slice (some ⟨wa.heap.size, 0, none⟩) 1 1) (w1 := wa.alloc (.cells #[slv g] 22)) (by rfl) rfl ?_ ?_
            · go_simp
              first | done | rfl
            refine hK.out _ _ (cell_below hHeld (below_new wa _)) (fun hHeld => ?_)
            clear hK K
            refine norm_ (a' := ?_) ?_ ?_
            rotate_left
            · show Act.put _ (some 25) _ = _
              simp only [Act.put, List.setIfInBounds_toArray, List.set_cons_zero, List.set_cons_succ, i64_w, i32_w]
              rfl
            have hn1 := blk_new wa (.cells #[slv g] 22)
            have hb := below_new wa (.cells #[slv g] 22)
            obtain ⟨ga, hga⟩ : ∃ ga, wa.heap.size = ga := ⟨_, rfl⟩
            rw [hga] at hn1 ⊢
            generalize wa.alloc (.cells #[slv g] 22) = wb at hn1 hb hHeld ⊢
            have HM4 := Aside0.mk (HM3.out.stay (stay_below hb))
            have K6 := Aside0.mk (blk_below K5.out hb)
            have HB4 := Aside0.mk (below_step HB3.out hb)
            have BW4 := Aside0.mk (below_step BW3.out hb)
            clear hb HM3 K5 HB3 BW3 hga
            refine one_ (i := 3) (N := (some 26)) #[true, true, true, true, false] rfl rfl (one_of HT_.out (by kernel_rfl)) (by decide) (fun K hK => ?_)
            rw [if_pos (by rfl)]
            obtain ⟨i0, hi0, hz0, hz1, hz2⟩ := info_parts info22
            refine wp_append_own wb (.tmp 23) (.tmp 25) 29 rfl W.heap.size 22 i0 (.slice none 0 0) 1 24 Tryd.underlying29 hi0 hz0 hz1 hz2 rfl (by decide) v pre.length (bs.map slv) rfl HM4.out.own ⟨ga, 0, none⟩ 1 1 [slv g] rfl rfl (fun j u hj => ?_) (fun u hu => ?_) (by have := PL.out; simp only [maxLen]; omega) (by have := PL.out; omega) (below_size HB4.out) ?_
            · match j, hj with
              | 0, hj =>
                cases hj
                exact (blk_cell hn1 0).trans rfl
              | j + 1, hj => simp at hj
            · simp only [List.mem_singleton] at hu
              subst hu
              rfl
            intro v' wc ho' hg' _
            obtain ⟨gq, cq, rfl⟩ := own_form ho'
            have HS := Aside0.mk (HM4.out.step (y := false) K6.out hg' ho')
            have hcb : wc.cell? ⟨W.heap.size + 1, 0, none⟩ = some v := (blk_cell (cell_all ho' hg' HM4.out) 0).trans rfl
            have hfb : wc.frozen? ⟨W.heap.size + 1, 0, none⟩ = false := blk_frozen (cell_all ho' hg' HM4.out) 0
            have HB5 : Aside0 (Below W.heap.size W wc) := ⟨HB4.out.grown hg' (below_size HB4.out) (fun k hk => own_base HM4.out k hk)⟩
            have KO5 := Aside0.mk (keeps_append HM4.out BW4.out hg')
            refine hK.out _ _ hcb (fun hHeld => ?_)
            clear hK K
            refine norm_ (a' := ?_) ?_ ?_
            rotate_left
            · show Act.put _ (some 26) _ = _
              simp only [Act.put, List.setIfInBounds_toArray, List.set_cons_zero, List.set_cons_succ, i64_w, i32_w]
              rfl
            refine last_ (i := 4) (N := none) #[true, true, true, true, true] rfl rfl (one_of HT_.out (by kernel_rfl)) (by decide) (fun K hK => ?_)
            refine skip_ (w1 := ?_) (by rfl) rfl ?_ ?_
            rotate_left
            · go_simp
              rfl
            refine hK.out _ _ ?_
            clear hK K
            refine done_ (done_of HT_.out (by kernel_rfl)) ?_
            exact ⟨(KO5.out.trans (KeepsOthers.setCell _ _ _)).from _, fun u hu => by
              rw [hbx] at hu
              cases hu
              exact (blk_cell HS.out.box_ 0).trans rfl, ⟨_, _, HS.out⟩, HB5.out.setCell (p := ⟨W.heap.size + 1, 0, none⟩) (by show W.heap.size ≤ W.heap.size + 1; omega) _⟩
        | true =>
          refine wpIn_block (wpIn_seq (wpIn_mono (Q := fun e a' w' => e = .normal ∧ ∃ g, a' = ({ tmps := #[.slice A n c, undef, .pointer (some ⟨W.heap.size, 0, none⟩), .pointer (some ⟨W.heap.size + 1, 0, none⟩), .slice A2 (n - m) (c - m), .pointer (some ⟨g, 0, none⟩), .slice A n c, .int .i64 (n : Int), .bool false, .bool false, undef, .bool false, .bool false, undef, undef, undef, undef, undef, .slice A n c, .func (.func 71) #[] #[.pointer (some ⟨W.heap.size + 1 + 1, 0, none⟩)], .slice A2 (n - m) (c - m), .slice A2 (n - m) (c - m), .agg (arr d2), undef, undef, undef, undef, undef, undef], defers := [] } : Act) ∧ RootM W.heap.size (.slice A n c) (fun y => if y = true then d2 else d1) pre w' v bs ∧ w'.heap[g]? = some (.cells (arr d2) 25 (0, 0)) ∧ Below W.heap.size W w' ∧ Below W1.heap.size W1 w') ?_ ?_))
          · gi_wp2_with (
              first
              | (refine ⟨trivial, ?_⟩; gi_at_call 42; refine (CallsIn.inRound lp (callsIn_wide.2 (HC2.out _ HBW.out))).mono ?_; rintro e w1 ⟨rfl, hb⟩; have HM1 := Aside0.mk (HM.out.stay (stay_below hb)); have HB1 := Aside0.mk (below_step HBW.out hb); have BW1 := Aside0.mk hb; clear hb)
              | (refine dig_store_in rfl (.tmp 5) (.tmp 22) rfl _ d2 zeros32 rfl rfl (blk_new _ _) D2L.out rfl ?_; intro w2 hb2 hoth hbel hko; have hb := hbel w1.heap.size w1 (below_new w1 _) (Nat.le_refl _); have HM2 := Aside0.mk (HM1.out.stay (stay_below hb)); have HB2 := Aside0.mk (below_step HB1.out hb); have BW2 := Aside0.mk (below_step BW1.out hb); have BK5 := Aside0.mk hb2; clear hb hb2 hoth hbel hko))
            first | exact ⟨HM2.out, BK5.out, HB2.out, BW2.out⟩ | exact ⟨rfl, _, rfl, HM2.out, BK5.out, HB2.out, BW2.out⟩
          · rintro e a' w2 ⟨rfl, g, rfl, hM2, hk5, hB2, hW2⟩
            have HM2 := Aside0.mk hM2
            have hcv : w2.drew.cell? ⟨W.heap.size + 1, 0, none⟩ = some v := (blk_cell hM2.all 0).trans rfl
            have hs5 := fun W => sl_dig ⟨g, 0, none⟩ W
            clear hM2
            refine start_in (n := 5) (S := fun w' => w'.cell? ⟨W.heap.size + 1, 0, none⟩ = some v) (ds := [4]) #[false, false, false, false, false] hQL (by kernel_rfl) (by kernel_rfl) rfl rfl hcv (fun hHeld => ?_)
            refine with_tabW root10_tab root10_bits (fun HT_ HW_ => ?_)
            have hb : Below w2.heap.size w2 w2.drew := below_drew (Below.refl _ _)
            have HM3 := Aside0.mk (HM2.out.stay (stay_below hb))
            have K5 := Aside0.mk (blk_below hk5 hb)
            have HB3 := Aside0.mk (below_step hB2 hb)
            have BW3 := Aside0.mk (below_step hW2 hb)
            clear hb hB2 hW2 hk5 HM2
            generalize w2.drew = wa at HM3 K5 HB3 BW3 hHeld ⊢
            refine take_ (i := 0) (N := (some 23)) (v := ?_) (a' := ?_) #[true, false, false, false, false] rfl rfl (take_ofW HT_.out HW_.out (by kernel_rfl)) (fun _ _ _ h => h) (Or.inl ⟨by rfl, ?_⟩) hHeld ?_ ?_
            rotate_left
            · rintro w' s0
              go_simp
              with_reducible rfl
            rotate_left
            · simp only [Act.put, List.setIfInBounds_toArray, List.set_cons_zero, List.set_cons_succ, i64_w, i32_w]
              rfl
            refine pure_ (i := 1) (N := (some 24)) (v := ?_) (a' := ?_) #[true, true, false, false, false] rfl rfl (any_of HT_.out (by kernel_rfl)) (fun _ _ _ h => h) (Or.inl ⟨by rfl, ?_⟩) ?_ ?_
            rotate_left
            · intro w'
              go_simp
              first | with_reducible rfl | (simp; done) | rfl
            rotate_left
            · simp only [Act.put, List.setIfInBounds_toArray, List.set_cons_zero, List.set_cons_succ, i64_w, i32_w]
              rfl
            refine one_ (i := 2) (N := (some 25)) #[true, true, true, false, false] rfl rfl (one_of HT_.out (by kernel_rfl)) (by decide) (fun K hK => ?_)
            refine value_ (v := .slice (some ⟨wa.heap.size, 0, none⟩) 1 1) (w1 := wa.alloc (.cells #[slv g] 22)) (by rfl) rfl ?_ ?_
            · go_simp
              first | done | rfl
            refine hK.out _ _ (cell_below hHeld (below_new wa _)) (fun hHeld => ?_)
            clear hK K
            refine norm_ (a' := ?_) ?_ ?_
            rotate_left
            · show Act.put _ (some 25) _ = _
              simp only [Act.put, List.setIfInBounds_toArray, List.set_cons_zero, List.set_cons_succ, i64_w, i32_w]
              rfl
            have hn1 := blk_new wa (.cells #[slv g] 22)
            have hb := below_new wa (.cells #[slv g] 22)
            obtain ⟨ga, hga⟩ : ∃ ga, wa.heap.size = ga := ⟨_, rfl⟩
            rw [hga] at hn1 ⊢
            generalize wa.alloc (.cells #[slv g] 22) = wb at hn1 hb hHeld ⊢
            have HM4 := Aside0.mk (HM3.out.stay (stay_below hb))
            have K6 := Aside0.mk (blk_below K5.out hb)
            have HB4 := Aside0.mk (below_step HB3.out hb)
            have BW4 := Aside0.mk (below_step BW3.out hb)
            clear hb HM3 K5 HB3 BW3 hga
            refine one_ (i := 3) (N := (some 26)) #[true, true, true, true, false] rfl rfl (one_of HT_.out (by kernel_rfl)) (by decide) (fun K hK => ?_)
            rw [if_pos (by rfl)]
            obtain ⟨i0, hi0, hz0, hz1, hz2⟩ := info_parts info22
            refine wp_append_own wb (.tmp 23) (.tmp 25) 29 rfl W.heap.size 22 i0 (.slice none 0 0) 1 24 Tryd.underlying29 hi0 hz0 hz1 hz2 rfl (by decide) v pre.length (bs.map slv) rfl HM4.out.own ⟨ga, 0, none⟩ 1 1 [slv g] rfl rfl (fun j u hj => ?_) (fun u hu => ?_) (by have := PL.out; simp only [maxLen]; omega) (by have := PL.out; omega) (below_size HB4.out) ?_
            · match j, hj with
              | 0, hj =>
                cases hj
                exact (blk_cell hn1 0).trans rfl
              | j + 1, hj => simp at hj
            · simp only [List.mem_singleton] at hu
              subst hu
              rfl
            intro v' wc ho' hg' _
            obtain ⟨gq, cq, rfl⟩ := own_form ho'
            have HS := Aside0.mk (HM4.out.step (y := true) K6.out hg' ho')
            have hcb : wc.cell? ⟨W.heap.size + 1, 0, none⟩ = some v := (blk_cell (cell_all ho' hg' HM4.out) 0).trans rfl
            have hfb : wc.frozen? ⟨W.heap.size + 1, 0, none⟩ = false := blk_frozen (cell_all ho' hg' HM4.out) 0
            have HB5 : Aside0 (Below W.heap.size W wc) := ⟨HB4.out.grown hg' (below_size HB4.out) (fun k hk => own_base HM4.out k hk)⟩
            have KO5 := Aside0.mk (keeps_append HM4.out BW4.out hg')
            refine hK.out _ _ hcb (fun hHeld => ?_)
            clear hK K
            refine norm_ (a' := ?_) ?_ ?_
            rotate_left
            · show Act.put _ (some 26) _ = _
              simp only [Act.put, List.setIfInBounds_toArray, List.set_cons_zero, List.set_cons_succ, i64_w, i32_w]
              rfl
            refine last_ (i := 4) (N := none) #[true, true, true, true, true] rfl rfl (one_of HT_.out (by kernel_rfl)) (by decide) (fun K hK => ?_)
            refine skip_ (w1 := ?_) (by rfl) rfl ?_ ?_
            rotate_left
            · go_simp
              rfl
            refine hK.out _ _ ?_
            clear hK K
            refine done_ (done_of HT_.out (by kernel_rfl)) ?_
            exact ⟨(KO5.out.trans (KeepsOthers.setCell _ _ _)).from _, fun u hu => by
              rw [hbx] at hu
              cases hu
              exact (blk_cell HS.out.box_ 0).trans rfl, ⟨_, _, HS.out⟩, HB5.out.setCell (p := ⟨W.heap.size + 1, 0, none⟩) (by show W.heap.size ≤ W.heap.size + 1; omega) _⟩
      case done =>
        rintro D ys X hD rfl ⟨⟨v, bs, hM⟩, hBW⟩ hKD
        obtain ⟨g, cap, rfl, hcap, hC⟩ := hM.both (fun b => by cases b; exact D1.out; exact D2.out)
        have hC2 : Aside0 ((Kd.slice 5 (Kd.int .u8)).C X (some ⟨g, 0, none⟩) 2 [d1, d2]) := ⟨hC⟩
        have HCAP := Aside0.mk hcap
        have HBW := Aside0.mk hBW
        have HKD := Aside0.mk hKD
        have RES := Aside0.mk hM.res
        have hcv : X.cell? ⟨W.heap.size + 1, 0, none⟩ = some (.slice (some ⟨g, 0, none⟩) 2 cap) := (blk_cell hM.all 0).trans rfl
        have HD3 := Aside0.mk hD
        clear hx2 hx3 hx4 hBw hC hM hcap hBW hKD hD
        gi_wp2_with (
          first
          | (refine ⟨trivial, ?_⟩; gi_at_call 44; refine (callsIn_wide.2 (tagOf_walk 8 (by decide) _ 2 cap [d1, d2] _ hC2.out HCAP.out (prts2 D1.out.2 D2.out.2 (by rw [D1L.out]; omega) (by rw [D2L.out]; omega)) (HK.out.below HK.out.lt HBW.out))).mono ?_; rintro e w1 ⟨rfl, hb⟩; have RES1 := Aside0.mk (blk_below RES.out hb); have HB1 := Aside0.mk (below_step HBW.out hb); have HKD1 := Aside0.mk (blk_below HKD.out hb); clear hb)
          | (refine dig_store_in rfl (.tmp 2) (.tmp 28) rfl W.heap.size (tagOf 8 [d1, d2]) zeros32 rfl rfl RES1.out (tagOf_len _ _) rfl ?_; intro w2 hb2 hoth hbel hko; have RES2 := Aside0.mk hb2; have HB2 := Aside0.mk (hbel _ _ HB1.out (Nat.le_refl _)); have HKD2 := Aside0.mk (hko.same D _ HKD1.out rfl); clear hb2 hoth hbel hko))
        refine ⟨by simp, .inl ⟨_, _, rfl, run_takeDeferred HKD2.out, ?_⟩⟩
        have hst := stay_grown (grownBy_putObj' w2 D (.deferred none)) (fun r e => by cases e; exact ⟨_, HKD2.out, rfl⟩)
        exact ⟨_, results_c rfl _ _ W.heap.size 25 (arr (tagOf 8 [d1, d2])) (0, 0) _ rfl (hst _ _ _ _ RES2.out) Tryd.underlying25 rfl (by rw [arr_size, tagOf_len]; exact info_dig), rfl, HB2.out.trans (belowK_b (n₀ := W.heap.size) (w := W0) (by omega) w2 D _ _ HD3.out HKD2.out rfl rfl)⟩
end Go.Proofs.YtoaimcobcgomjaaDoor.Q
namespace Go.Proofs.YtoaimcobcgomjaaDoor.Q
open Go.RowKit Go.Proofs.YtoaimcobcgomjaaDoorW.PrintWords Go.Proofs.YtoaimcobcgomjaaDoorW.PrintLast Go.Proofs.YtoaimcobcgomjaaDoorW.PrintMore
set_option linter.unusedVariables false
set_option linter.unusedSimpArgs false
/-- A list's root and code. -/
def rootC (l : List (List Int)) : List Int × Int := if listP l = true then (rootP l, 0) else (zeros32, 8)
theorem listP_len {l : List (List Int)} (h : listP l = true) : l.length ≤ 256 := by
  unfold listP at h
  simp only [Bool.and_eq_true, decide_eq_true_eq] at h
  exact h.1
theorem listP_row {l : List (List Int)} (h : listP l = true) : ∀ p ∈ l, p.length ≤ 4096 := by
  unfold listP at h
  simp only [Bool.and_eq_true, Bool.not_eq_true', List.any_eq_false, decide_eq_true_eq] at h
  intro p hp
  have := h.2 p hp
  omega
theorem listP_short {l : List (List Int)} (h : listP l = true) : Short l := fun p hp => by have := listP_row h p hp; omega
theorem rd_row (l : List (List Int)) (j : Nat) (h : j < l.length) : rd_L1 l (j : Int) = l[j] := rd_L1_at l j h
theorem may_l0 (l : List (List Int)) (h256 : l.length ≤ 256) : ∀ (d k j : Nat), j + d = l.length → d < k → (∀ i, (hi : i < l.length) → i < j → l[i].length ≤ 4096) → beadrollref13_May.l0 k l (j : Int) = some (!(l.any fun p => decide (4096 < p.length))) := by
  intro d
  induction d with
  | zero =>
    intro k j hj hk hall
    obtain ⟨k, rfl⟩ : ∃ q, k = q + 1 := ⟨k - 1, by omega⟩
    simp only [beadrollref13_May.l0]
    rw [if_neg (by omega)]
    have : (l.any fun p => decide (4096 < p.length)) = false := List.any_eq_false.2 fun p hp => by
      obtain ⟨i, hi, rfl⟩ := List.mem_iff_getElem.1 hp
      have := hall i hi (by omega)
      simp; omega
    rw [this]; rfl
  | succ d ih =>
    intro k j hj hk hall
    obtain ⟨k, rfl⟩ : ∃ q, k = q + 1 := ⟨k - 1, by omega⟩
    have hjl : j < l.length := by omega
    simp only [beadrollref13_May.l0]
    rw [if_pos (by omega), if_pos (by omega), rd_row l j hjl]
    by_cases h : (l[j].length : Int) > 4096
    · rw [if_pos h]
      have : (l.any fun p => decide (4096 < p.length)) = true := List.any_eq_true.2 ⟨_, List.getElem_mem hjl, decide_eq_true (by omega)⟩
      rw [this]; rfl
    · rw [if_neg h]
      have hw : wrap64 ((j : Int) + 1) = ((j + 1 : Nat) : Int) := by unfold wrap64; omega
      rw [hw]
      refine ih k (j + 1) (by omega) (by omega) (fun i hi hij => ?_)
      by_cases e : i = j
      · subst e; omega
      · exact hall i hi (by omega)
theorem may_f (l : List (List Int)) : beadrollref13_May.f 260 l = some (listP l) := by
  unfold beadrollref13_May.f listP
  by_cases h : (l.length : Int) > 256
  · rw [if_pos h, decide_eq_false (by omega)]; rfl
  · rw [if_neg h, decide_eq_true (by omega), Bool.true_and]
    exact may_l0 l (by omega) l.length 260 0 (by omega) (by omega) (fun i hi h => by omega)
theorem may_walk (A : Option Addr) (n c : Nat) (l : List (List Int)) (W : World) (br : Rws W A n c l) :
    Calls Tryd.prog 50 #[.slice A n c] W fun e W' => e = .returned (.bool (listP l)) ∧ Below W.heap.size W W' := by
  have e1 := br.len
  subst e1
  refine (beadrollref13_May.calls 260 A c l (listP l) W br.rd_ br.le (may_f l)).mono ?_
  rintro e W' ⟨rfl, nd, rfl⟩
  exact ⟨rfl, pw_below_drewN (Below.refl _ _) nd⟩
set_option maxHeartbeats 4000000 in
set_option maxRecDepth 100000 in
theorem rootR_walk (A : Option Addr) (n c : Nat) (l : List (List Int)) (W : World) (br : Rws W A n c l) (hk : KT W) :
    Calls Tryd.prog 19 #[.slice A n c] W fun e W' => e = .returned (.tuple #[.agg (arr (rootC l).1), .int .i64 (rootC l).2]) ∧ Below W.heap.size W W' := by
  have HL : Aside0 (∀ w, Below W.heap.size W w → Calls Tryd.prog 39 #[.slice A n c] w fun e W' => e = .returned (.bool (listP l)) ∧ Below w.heap.size w W') := ⟨fun w hw => list_walk A n c l w (br.below hw)⟩
  have HR : Aside0 (listP l = true → ∀ w, Below W.heap.size W w → Calls Tryd.prog 42 #[.slice A n c] w fun e W' => e = .returned (.agg (arr (rootP l))) ∧ Below w.heap.size w W') := ⟨fun hl w hw => root_walk 256 A n c l w (br.below hw) (listP_short hl) (by have := listP_len hl; have := br.len; omega) (by have := listP_len hl; have := br.len; omega) (hk.below hk.lt hw)⟩
  have HB := Aside0.mk (Below.refl W.heap.size W)
  have RL : Aside0 ((rootP l).length = 32) := ⟨(rootP_dig l).1⟩
  unfold rootC
  clear br
  cases hl : listP l with
  | false =>
    rw [hl] at HL
    rw [if_neg (by decide)]
    clear hl HR
    go_enter Tryd.func19, Tryd.ntmps19
    go_wp2_with (
      first
      | ((with_reducible refine gate_dst (N := 2) rfl ?_); refine box_event ?hg (N := 2) ?hd (cs := arr zeros32) (t := 25) ?hr ?_; (case hd => rfl); (case hg => rfl); (case hr => first | (go_simp; done) | (go_simp; rfl));
                         intro g2 hg w1 hbox hb; have BK2 := Aside0.mk hbox; have G2 := Aside0.mk (show W.heap.size ≤ g2 by rw [hg]; exact below_size HB.out); have n0 := Aside0.mk (below_step HB.out hb); clear HB; have HB := n0; clear n0; clear hb hbox hg)
      | (go_at_call 39; (with_reducible refine (HL.out _ HB.out).mono ?_); rintro e wq ⟨rfl, hb⟩; have n0 := Aside0.mk (blk_below BK2.out hb); have n1 := Aside0.mk (below_step HB.out hb); clear BK2 HB; have BK2 := n0; have HB := n1; clear n0 n1; clear hb)
      | ((with_reducible refine gate_store (p := 2) rfl ?_); refine dig_store rfl (.tmp 2) (.tmp 7) rfl g2 (zeros32) (zeros32) rfl rfl BK2.out (rfl) (rfl) ?_; intro ws bk hoth hbel; have nn := Aside0.mk bk; have n0 := Aside0.mk (hbel _ _ HB.out G2.out); clear HB; have HB := n0; clear n0; clear BK2 bk hoth hbel; have BK2 := nn; clear nn))
    refine bodyPost_ret (results_ct rfl _ _ g2 25 (arr zeros32) (0, 0) _ rfl BK2.out Tryd.underlying25 rfl (by rw [arr_size]; exact info_dig)) rfl ?_
    exact ⟨rfl, HB.out⟩
  | true =>
    have HR2 := Aside0.mk (HR.out hl)
    rw [hl] at HL
    rw [if_pos rfl]
    obtain ⟨d, hd⟩ : ∃ d, rootP l = d := ⟨_, rfl⟩
    rw [hd] at HR2 RL ⊢
    clear hl HR hd
    go_enter Tryd.func19, Tryd.ntmps19
    go_wp2_with (
      first
      | ((with_reducible refine gate_dst (N := 2) rfl ?_); refine box_event ?hg (N := 2) ?hd (cs := arr zeros32) (t := 25) ?hr ?_; (case hd => rfl); (case hg => rfl); (case hr => first | (go_simp; done) | (go_simp; rfl));
                         intro g2 hg w1 hbox hb; have BK2 := Aside0.mk hbox; have G2 := Aside0.mk (show W.heap.size ≤ g2 by rw [hg]; exact below_size HB.out); have n0 := Aside0.mk (below_step HB.out hb); clear HB; have HB := n0; clear n0; clear hb hbox hg)
      | (go_at_call 39; (with_reducible refine (HL.out _ HB.out).mono ?_); rintro e wq ⟨rfl, hb⟩; have n0 := Aside0.mk (blk_below BK2.out hb); have n1 := Aside0.mk (below_step HB.out hb); clear BK2 HB; have BK2 := n0; have HB := n1; clear n0 n1; clear hb)
      | (go_at_call 42; (with_reducible refine (HR2.out _ HB.out).mono ?_); rintro e wr ⟨rfl, hb⟩; have n0 := Aside0.mk (blk_below BK2.out hb); have n1 := Aside0.mk (below_step HB.out hb); clear BK2 HB; have BK2 := n0; have HB := n1; clear n0 n1; clear hb)
      | ((with_reducible refine gate_store (p := 2) rfl ?_); refine dig_store rfl (.tmp 2) (.tmp 9) rfl g2 (d) (zeros32) rfl rfl BK2.out (RL.out) (rfl) ?_; intro ws bk hoth hbel; have nn := Aside0.mk bk; have n0 := Aside0.mk (hbel _ _ HB.out G2.out); clear HB; have HB := n0; clear n0; clear BK2 bk hoth hbel; have BK2 := nn; clear nn))
    refine bodyPost_ret (results_ct rfl _ _ g2 25 (arr d) (0, 0) _ rfl BK2.out Tryd.underlying25 rfl (by rw [arr_size, RL.out]; exact info_dig)) rfl ?_
    exact ⟨rfl, HB.out⟩
set_option maxHeartbeats 4000000 in
set_option maxRecDepth 100000 in
theorem root13_walk (A : Option Addr) (n c : Nat) (l : List (List Int)) (W : World) (br : Rws W A n c l) :
    Calls Tryd.prog 31 #[.slice A n c] W fun e W' => e = .returned (.tuple #[.agg (arr (rootC l).1), .int .i64 (rootC l).2]) ∧ Below W.heap.size W W' := by
  have HL : Aside0 (∀ w, Below W.heap.size W w → Calls Tryd.prog 50 #[.slice A n c] w fun e W' => e = .returned (.bool (listP l)) ∧ Below w.heap.size w W') := ⟨fun w hw => may_walk A n c l w (br.below hw)⟩
  have HR : Aside0 (listP l = true → ∀ w, Below W.heap.size W w → Calls Tryd.prog 51 #[.slice A n c] w fun e W' => e = .returned (.agg (arr (rootP l))) ∧ Below w.heap.size w W') := ⟨fun hl w hw => of13_walk 256 A n c l w (br.below hw) (listP_short hl) (by have := listP_len hl; have := br.len; omega) (by have := listP_len hl; have := br.len; omega)⟩
  have HB := Aside0.mk (Below.refl W.heap.size W)
  have RL : Aside0 ((rootP l).length = 32) := ⟨(rootP_dig l).1⟩
  unfold rootC
  clear br
  cases hl : listP l with
  | false =>
    rw [hl] at HL
    rw [if_neg (by decide)]
    clear hl HR
    go_enter Tryd.func31, Tryd.ntmps31
    go_wp2_with (
      first
      | ((with_reducible refine gate_dst (N := 2) rfl ?_); refine box_event ?hg (N := 2) ?hd (cs := arr zeros32) (t := 25) ?hr ?_; (case hd => rfl); (case hg => rfl); (case hr => first | (go_simp; done) | (go_simp; rfl));
                         intro g2 hg w1 hbox hb; have BK2 := Aside0.mk hbox; have G2 := Aside0.mk (show W.heap.size ≤ g2 by rw [hg]; exact below_size HB.out); have n0 := Aside0.mk (below_step HB.out hb); clear HB; have HB := n0; clear n0; clear hb hbox hg)
      | (go_at_call 50; (with_reducible refine (HL.out _ HB.out).mono ?_); rintro e wq ⟨rfl, hb⟩; have n0 := Aside0.mk (blk_below BK2.out hb); have n1 := Aside0.mk (below_step HB.out hb); clear BK2 HB; have BK2 := n0; have HB := n1; clear n0 n1; clear hb)
      | ((with_reducible refine gate_store (p := 2) rfl ?_); refine dig_store rfl (.tmp 2) (.tmp 7) rfl g2 (zeros32) (zeros32) rfl rfl BK2.out (rfl) (rfl) ?_; intro ws bk hoth hbel; have nn := Aside0.mk bk; have n0 := Aside0.mk (hbel _ _ HB.out G2.out); clear HB; have HB := n0; clear n0; clear BK2 bk hoth hbel; have BK2 := nn; clear nn))
    refine bodyPost_ret (results_ct rfl _ _ g2 25 (arr zeros32) (0, 0) _ rfl BK2.out Tryd.underlying25 rfl (by rw [arr_size]; exact info_dig)) rfl ?_
    exact ⟨rfl, HB.out⟩
  | true =>
    have HR2 := Aside0.mk (HR.out hl)
    rw [hl] at HL
    rw [if_pos rfl]
    obtain ⟨d, hd⟩ : ∃ d, rootP l = d := ⟨_, rfl⟩
    rw [hd] at HR2 RL ⊢
    clear hl HR hd
    go_enter Tryd.func31, Tryd.ntmps31
    go_wp2_with (
      first
      | ((with_reducible refine gate_dst (N := 2) rfl ?_); refine box_event ?hg (N := 2) ?hd (cs := arr zeros32) (t := 25) ?hr ?_; (case hd => rfl); (case hg => rfl); (case hr => first | (go_simp; done) | (go_simp; rfl));
                         intro g2 hg w1 hbox hb; have BK2 := Aside0.mk hbox; have G2 := Aside0.mk (show W.heap.size ≤ g2 by rw [hg]; exact below_size HB.out); have n0 := Aside0.mk (below_step HB.out hb); clear HB; have HB := n0; clear n0; clear hb hbox hg)
      | (go_at_call 50; (with_reducible refine (HL.out _ HB.out).mono ?_); rintro e wq ⟨rfl, hb⟩; have n0 := Aside0.mk (blk_below BK2.out hb); have n1 := Aside0.mk (below_step HB.out hb); clear BK2 HB; have BK2 := n0; have HB := n1; clear n0 n1; clear hb)
      | (go_at_call 51; (with_reducible refine (HR2.out _ HB.out).mono ?_); rintro e wr ⟨rfl, hb⟩; have n0 := Aside0.mk (blk_below BK2.out hb); have n1 := Aside0.mk (below_step HB.out hb); clear BK2 HB; have BK2 := n0; have HB := n1; clear n0 n1; clear hb)
      | ((with_reducible refine gate_store (p := 2) rfl ?_); refine dig_store rfl (.tmp 2) (.tmp 9) rfl g2 (d) (zeros32) rfl rfl BK2.out (RL.out) (rfl) ?_; intro ws bk hoth hbel; have nn := Aside0.mk bk; have n0 := Aside0.mk (hbel _ _ HB.out G2.out); clear HB; have HB := n0; clear n0; clear BK2 bk hoth hbel; have BK2 := nn; clear nn))
    refine bodyPost_ret (results_ct rfl _ _ g2 25 (arr d) (0, 0) _ rfl BK2.out Tryd.underlying25 rfl (by rw [arr_size, RL.out]; exact info_dig)) rfl ?_
    exact ⟨rfl, HB.out⟩
end Go.Proofs.YtoaimcobcgomjaaDoor.Q
