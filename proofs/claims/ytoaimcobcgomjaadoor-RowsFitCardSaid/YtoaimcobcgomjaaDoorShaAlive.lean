/-
  The chapter's first examples: beadrolllaw02.alive: the contract, by hand.
-/
import Derived.Test.YtoaimcobcgomjaaDoorShaOf
import Derived.Lib.SlBytesConst
namespace Go.Proofs.YtoaimcobcgomjaaDoor.Q
open Go.RowKit Go.Proofs.YtoaimcobcgomjaaDoorW.PrintWords Go.Proofs.YtoaimcobcgomjaaDoorW.PrintLast Go.Proofs.YtoaimcobcgomjaaDoorW.PrintMore
set_option linter.unusedVariables false
set_option linter.unusedSimpArgs false

def dig0 : List Int := [0xe3, 0xb0, 0xc4, 0x42, 0x98, 0xfc, 0x1c, 0x14, 0x9a, 0xfb, 0xf4, 0xc8, 0x99, 0x6f, 0xb9, 0x24, 0x27, 0xae, 0x41, 0xe4, 0x64, 0x9b, 0x93, 0x4c, 0xa4, 0x95, 0x99, 0x1b, 0x78, 0x52, 0xb8, 0x55]
def digAbc : List Int := [0xba, 0x78, 0x16, 0xbf, 0x8f, 0x01, 0xcf, 0xea, 0x41, 0x41, 0x40, 0xde, 0x5d, 0xae, 0x22, 0x23, 0xb0, 0x03, 0x61, 0xa3, 0x96, 0x17, 0x7a, 0x9c, 0xb4, 0x10, 0xff, 0x61, 0xf2, 0x00, 0x15, 0xad]
set_option maxRecDepth 100000 in
theorem sha_nil : shaOf [] = dig0 := by decide +kernel
theorem sha_abc' : shaOf [97, 98, 99] = digAbc := sha_abc
theorem dig_sha (m : List Int) : Dig (shaOf m) := ⟨sha_len m, sha_bound m⟩
theorem add_zero_i (g i : Nat) : (⟨g, 0, none⟩ : Addr).add i = ⟨g, i, none⟩ := add_zero_plain g i
theorem cell_of_obj {w : World} {g t : Nat} {cs : Array Value} {fr : Nat × Nat} (h : w.heap[g]? = some (.cells cs t fr)) (j : Nat) : w.cell? ⟨g, j, none⟩ = cs[j]? := by
  simp [World.cell?, h]
/-- Bytes in a block of their own are read. -/
theorem bytes_C {w : World} {g t : Nat} {bs : List Int} {fr : Nat × Nat} (h : w.heap[g]? = some (.cells (arr bs) t fr)) (hl : bs.length ≤ 9223372036854775807) : (Kd.int .u8).C w (some ⟨g, 0, none⟩) bs.length bs := by
  refine ⟨rfl, hl, fun _ => ⟨⟨g, 0, none⟩, rfl, fun j p hj => ⟨[.int .u8 p], rfl, rfl, fun i u hu => ?_⟩⟩⟩
  cases i with
  | succ i => simp at hu
  | zero =>
    obtain ⟨hjl, rfl⟩ := List.getElem?_eq_some_iff.1 hj
    simp only [List.getElem?_cons_zero, Option.some.injEq] at hu
    subst hu
    show w.cell? ((⟨g, 0, none⟩ : Addr).add (j * 1 + 0)) = _
    rw [add_zero_i, Nat.mul_one, Nat.add_zero, cell_of_obj h j, arr_get bs j hjl]
    simp [rd, hjl]
/-- Parts whose slices lie in a block of their own are read. -/
theorem parts_C {w : World} {g t : Nat} {cs : Array Value} {ps : List (List Int)} (h : w.heap[g]? = some (.cells cs t (0, 0))) (hl : ps.length ≤ 9223372036854775807)
    (hp : ∀ (j : Nat) (p : List Int), ps[j]? = some p → ∃ A c, cs[j]? = some (Value.slice A p.length c) ∧ p.length ≤ c ∧ (Kd.int .u8).C w A p.length p) : (Kd.slice 5 (Kd.int .u8)).C w (some ⟨g, 0, none⟩) ps.length ps := by
  refine ⟨rfl, hl, fun _ => ⟨⟨g, 0, none⟩, rfl, fun j p hj => ?_⟩⟩
  obtain ⟨A, c, hc, hle, hC⟩ := hp j p hj
  refine ⟨[.slice A p.length c], rfl, ⟨A, c, rfl, hle, hC⟩, fun i u hu => ?_⟩
  cases i with
  | succ i => simp at hu
  | zero =>
    simp only [List.getElem?_cons_zero, Option.some.injEq] at hu
    subst hu
    show w.cell? ((⟨g, 0, none⟩ : Addr).add (j * 1 + 0)) = _
    rw [add_zero_i, Nat.mul_one, Nat.add_zero, blk_cell h j, hc]
theorem none_C (w : World) : (Kd.slice 5 (Kd.int .u8)).C w none 0 [] := ⟨rfl, by omega, fun h => by omega⟩
theorem none_C1 (w : World) : (Kd.int .u8).C w none 0 [] := ⟨rfl, by omega, fun h => by omega⟩
/-- sha.Of of nothing. -/
theorem of_none (W : World) (hk : KT W) : Calls Tryd.prog 13 #[.slice none 0 0] W fun e W' => e = .returned (.agg (arr dig0)) ∧ Below W.heap.size W W' :=
  (of_walk none 0 0 [] W (none_C W) (by simp) (by simp) hk).mono fun e W' h => ⟨by rw [h.1]; show Ending.returned (.agg (arr (shaOf []))) = _; rw [sha_nil], h.2⟩
/-- sha.Of of one part. -/
theorem of_one (g c : Nat) (A : Option Addr) (p : List Int) (n t cap : Nat) (W : World) (hn : p.length = n) (h : W.heap[g]? = some (.cells #[.slice A n c] t (0, 0))) (hle : n ≤ c) (hC : (Kd.int .u8).C W A n p) (hb : ∀ x ∈ p, 0 ≤ x ∧ x < 256) (hl : p.length < 1099511627776) (hk : KT W) :
    Calls Tryd.prog 13 #[.slice (some ⟨g, 0, none⟩) 1 cap] W fun e W' => e = .returned (.agg (arr (shaOf p))) ∧ Below W.heap.size W W' := by
  subst hn
  refine (of_walk (some ⟨g, 0, none⟩) 1 cap [p] W (parts_C h (by simp) fun j q hj => ?_) (by simpa using hb) (by simpa using hl) hk).mono fun e W' h => ⟨by rw [h.1]; simp, h.2⟩
  cases j with
  | zero =>
    obtain rfl : p = q := by simpa using hj
    exact ⟨A, c, rfl, hle, hC⟩
  | succ j => simp at hj
theorem blk_new1 (w : World) (o o' : Obj) : ((w.alloc o).alloc o').heap[w.heap.size + 1]? = some o' := by
  have h := blk_new (w.alloc o) o'
  rwa [World.size_alloc] at h
theorem below_new (w : World) (o : Obj) : Below w.heap.size w (w.alloc o) := below_alloc (Below.refl _ _) o
theorem hex_any (ds : List Int) (hd : Dig ds) (t : ByteArray) (ht : (⟨(hexOf ds).toArray⟩ : ByteArray) = t) (w : World) : Calls Tryd.prog 28 #[.agg (arr ds)] w fun e W' => e = .returned (.string t) ∧ Below w.heap.size w W' := by
  subst ht; exact hex_walk ds hd w
def txt0 : ByteArray := ⟨#[101, 51, 98, 48, 99, 52, 52, 50, 57, 56, 102, 99, 49, 99, 49, 52, 57, 97, 102, 98, 102, 52, 99, 56, 57, 57, 54, 102, 98, 57, 50, 52, 50, 55, 97, 101, 52, 49, 101, 52, 54, 52, 57, 98, 57, 51, 52, 99, 97, 52, 57, 53, 57, 57, 49, 98, 55, 56, 53, 50, 98, 56, 53, 53]⟩
def txtAbc : ByteArray := ⟨#[98, 97, 55, 56, 49, 54, 98, 102, 56, 102, 48, 49, 99, 102, 101, 97, 52, 49, 52, 49, 52, 48, 100, 101, 53, 100, 97, 101, 50, 50, 50, 51, 98, 48, 48, 51, 54, 49, 97, 51, 57, 54, 49, 55, 55, 97, 57, 99, 98, 52, 49, 48, 102, 102, 54, 49, 102, 50, 48, 48, 49, 53, 97, 100]⟩
theorem txt0_eq : (⟨(hexOf dig0).toArray⟩ : ByteArray) = txt0 := by decide +kernel
theorem txtAbc_eq : (⟨(hexOf digAbc).toArray⟩ : ByteArray) = txtAbc := by decide +kernel
theorem dig0_ok : Dig dig0 := sha_nil ▸ dig_sha []
theorem digAbc_ok : Dig digAbc := sha_abc' ▸ dig_sha _
set_option maxHeartbeats 4000000 in
set_option maxRecDepth 100000 in
theorem alive_walk (W : World) (hk : KT W) : Calls Tryd.prog 26 #[] W fun e W' => e = .returned (.bool true) ∧ Below W.heap.size W W' := by
  have HK := Aside0.mk hk
  clear hk
  have hs0 : (⟨#[101, 51, 98, 48, 99, 52, 52, 50, 57, 56, 102, 99, 49, 99, 49, 52, 57, 97, 102, 98, 102, 52, 99, 56, 57, 57, 54, 102, 98, 57, 50, 52, 50, 55, 97, 101, 52, 49, 101, 52, 54, 52, 57, 98, 57, 51, 52, 99, 97, 52, 57, 53, 57, 57, 49, 98, 55, 56, 53, 50, 98, 56, 53, 53]⟩ : ByteArray) = txt0 := rfl
  have hs1 : (⟨#[98, 97, 55, 56, 49, 54, 98, 102, 56, 102, 48, 49, 99, 102, 101, 97, 52, 49, 52, 49, 52, 48, 100, 101, 53, 100, 97, 101, 50, 50, 50, 51, 98, 48, 48, 51, 54, 49, 97, 51, 57, 54, 49, 55, 55, 97, 57, 99, 98, 52, 49, 48, 102, 102, 54, 49, 102, 50, 48, 48, 49, 53, 97, 100]⟩ : ByteArray) = txtAbc := rfl
  have kc := fun (w : World) (C : Array Value) (n c : Nat) => Lib.run_convert_bytes_const (P := Tryd.prog) w 22 5 C n c Tryd.underlying22 Tryd.underlying5
  go_enter Tryd.func26, Tryd.ntmps26
  go_wp2_with (
    first
    | (go_at_call 13; (with_reducible refine (of_none _ HK.out).mono ?_); rintro e w1 ⟨rfl, hb⟩; have HB1 := Aside0.mk hb; clear hb)
    | (go_at_call 28; (with_reducible refine (hex_any dig0 dig0_ok txt0 txt0_eq _).mono ?_); rintro e w2 ⟨rfl, hb⟩; have HB2 := Aside0.mk (below_step HB1.out hb); clear hb)
    | (go_at_call 13; (with_reducible refine (of_one _ 3 _ [97, 98, 99] 3 22 1 _ rfl (blk_new1 w2 _ _) (by omega) (Kd.C_alloc (bytes_C (blk_new w2 _) (by simp)) _) (by simp) (by simp) (HK.out.below HK.out.lt (below_alloc (below_alloc HB2.out _) _))).mono ?_); rintro e w3 ⟨rfl, hb⟩; rw [sha_abc']; have HB3 := Aside0.mk (below_step (below_alloc (below_alloc HB2.out _) _) hb); clear hb)
    | (go_at_call 28; (with_reducible refine (hex_any digAbc digAbc_ok txtAbc txtAbc_eq _).mono ?_); rintro e w4 ⟨rfl, hb⟩; have HB4 := Aside0.mk (below_step HB3.out hb); clear hb))
  go_ret
  exact ⟨rfl, HB4.out⟩
end Go.Proofs.YtoaimcobcgomjaaDoor.Q
