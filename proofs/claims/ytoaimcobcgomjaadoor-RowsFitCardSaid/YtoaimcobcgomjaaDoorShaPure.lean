/-
  SHA-256, plainly: on lists of numbers.
-/
import Derived.Test.YtoaimcobcgomjaaDoorShaRot
namespace Go.Proofs.YtoaimcobcgomjaaDoor.Q
open Go.RowKit Go.Proofs.YtoaimcobcgomjaaDoorW.PrintWords
set_option linter.unusedVariables false

def add32 (x y : Int) : Int := IntKind.u32.wrap (x + y)
def xor32 (x y : Int) : Int := bits .xor .u32 x y
def and32 (x y : Int) : Int := bits .and .u32 x y
def or32 (x y : Int) : Int := bits .or .u32 x y
/-- The words of the rounds. -/
def K64 : List Int := [0x428a2f98, 0x71374491, 0xb5c0fbcf, 0xe9b5dba5, 0x3956c25b, 0x59f111f1, 0x923f82a4, 0xab1c5ed5,
  0xd807aa98, 0x12835b01, 0x243185be, 0x550c7dc3, 0x72be5d74, 0x80deb1fe, 0x9bdc06a7, 0xc19bf174,
  0xe49b69c1, 0xefbe4786, 0x0fc19dc6, 0x240ca1cc, 0x2de92c6f, 0x4a7484aa, 0x5cb0a9dc, 0x76f988da,
  0x983e5152, 0xa831c66d, 0xb00327c8, 0xbf597fc7, 0xc6e00bf3, 0xd5a79147, 0x06ca6351, 0x14292967,
  0x27b70a85, 0x2e1b2138, 0x4d2c6dfc, 0x53380d13, 0x650a7354, 0x766a0abb, 0x81c2c92e, 0x92722c85,
  0xa2bfe8a1, 0xa81a664b, 0xc24b8b70, 0xc76c51a3, 0xd192e819, 0xd6990624, 0xf40e3585, 0x106aa070,
  0x19a4c116, 0x1e376c08, 0x2748774c, 0x34b0bcb5, 0x391c0cb3, 0x4ed8aa4a, 0x5b9cca4f, 0x682e6ff3,
  0x748f82ee, 0x78a5636f, 0x84c87814, 0x8cc70208, 0x90befffa, 0xa4506ceb, 0xbef9a3f7, 0xc67178f2]
def init8 : List Int := [0x6a09e667, 0xbb67ae85, 0x3c6ef372, 0xa54ff53a, 0x510e527f, 0x9b05688c, 0x1f83d9ab, 0x5be0cd19]
def at_ (l : List Int) (i : Nat) : Int := rd l (i : Int)
/-- A word of a block's bytes. -/
def word (b : List Int) (t : Nat) : Int := or32 (or32 (or32 (IntKind.u32.wrap (at_ b (4 * t) * 16777216)) (IntKind.u32.wrap (at_ b (4 * t + 1) * 65536))) (IntKind.u32.wrap (at_ b (4 * t + 2) * 256))) (at_ b (4 * t + 3))
def sig0 (x : Int) : Int := xor32 (xor32 (rot x 7) (rot x 18)) (x / 8)
def sig1 (x : Int) : Int := xor32 (xor32 (rot x 17) (rot x 19)) (x / 1024)
def nextW (ws : List Int) (t : Nat) : Int := add32 (add32 (add32 (at_ ws (t - 16)) (sig0 (at_ ws (t - 15)))) (at_ ws (t - 7))) (sig1 (at_ ws (t - 2)))
def schedTo (b : List Int) : Nat → List Int
  | 0 => []
  | t + 1 => schedTo b t ++ [if t < 16 then word b t else nextW (schedTo b t) t]
def oneR (v : List Int) (k w : Int) : Int := add32 (add32 (add32 (add32 (at_ v 7) (xor32 (xor32 (rot (at_ v 4) 6) (rot (at_ v 4) 11)) (rot (at_ v 4) 25))) (xor32 (and32 (at_ v 4) (at_ v 5)) (and32 (4294967295 - at_ v 4) (at_ v 6)))) k) w
def twoR (v : List Int) : Int := add32 (xor32 (xor32 (rot (at_ v 0) 2) (rot (at_ v 0) 13)) (rot (at_ v 0) 22)) (xor32 (xor32 (and32 (at_ v 0) (at_ v 1)) (and32 (at_ v 0) (at_ v 2))) (and32 (at_ v 1) (at_ v 2)))
def rnd (v : List Int) (k w : Int) : List Int := [add32 (oneR v k w) (twoR v), at_ v 0, at_ v 1, at_ v 2, add32 (at_ v 3) (oneR v k w), at_ v 4, at_ v 5, at_ v 6]
def rounds (s ws : List Int) : Nat → List Int
  | 0 => s
  | t + 1 => rnd (rounds s ws t) (at_ K64 t) (at_ ws t)
def compress (s b : List Int) : List Int := (List.range 8).map fun i => add32 (at_ s i) (at_ (rounds s (schedTo b 64) 64) i)
/-- Whole blocks turned into a state; n: how many at most. -/
def absorb : Nat → List Int → List Int → List Int × List Int
  | 0, s, m => (s, m)
  | n + 1, s, m => if 64 ≤ m.length then absorb n (compress s (m.take 64)) (m.drop 64) else (s, m)
def padTo (m : List Int) : List Int := m ++ [128] ++ List.replicate ((119 - m.length % 64) % 64) 0
def len8 (n : Int) : List Int := (List.range 8).map fun i => n / 2 ^ (56 - 8 * i) % 256
def bytes32 (s : List Int) : List Int := (List.range 32).map fun i => at_ s (i / 4) / 2 ^ (24 - 8 * (i % 4)) % 256
/-- The digest of bytes. -/
def shaOf (m : List Int) : List Int := bytes32 (absorb ((m.length + 72) / 64) init8 (padTo m ++ len8 (8 * m.length))).1
theorem sched_u32 (b : List Int) (t : Nat) : ∀ x ∈ schedTo b t, U32 x := by
  induction t with
  | zero => simp [schedTo]
  | succ t ih =>
    intro x hx
    simp only [schedTo, List.mem_append, List.mem_singleton] at hx
    rcases hx with hx | rfl
    · exact ih x hx
    · split
      · unfold word or32; exact u32_bits _ _ _
      · unfold nextW add32; exact u32_wrap _
theorem at_mem {P : Int → Prop} (l : List Int) (h : ∀ x ∈ l, P x) (i : Nat) (hi : i < l.length) : P (at_ l i) := by
  unfold at_ rd
  simp only [Int.toNat_natCast, List.getD_eq_getElem?_getD, List.getElem?_eq_getElem hi, Option.getD_some]
  exact h _ (List.getElem_mem hi)
theorem rounds_length (s ws : List Int) (hs : s.length = 8) (t : Nat) : (rounds s ws t).length = 8 := by
  cases t with
  | zero => exact hs
  | succ t => rfl
theorem rounds_u32 (s ws : List Int) (hl : s.length = 8) (hs : ∀ x ∈ s, U32 x) (t : Nat) : ∀ x ∈ rounds s ws t, U32 x := by
  induction t with
  | zero => exact hs
  | succ t ih =>
    have hr := rounds_length s ws hl t
    have h := fun i hi => at_mem _ ih i (by rw [hr]; exact hi)
    intro x hx
    simp only [rounds, rnd, List.mem_cons, List.not_mem_nil, or_false] at hx
    rcases hx with rfl | rfl | rfl | rfl | rfl | rfl | rfl | rfl
    · exact u32_wrap _
    · exact h 0 (by omega)
    · exact h 1 (by omega)
    · exact h 2 (by omega)
    · exact u32_wrap _
    · exact h 4 (by omega)
    · exact h 5 (by omega)
    · exact h 6 (by omega)
set_option maxRecDepth 100000 in
theorem sha_abc : shaOf [97, 98, 99] = [0xba, 0x78, 0x16, 0xbf, 0x8f, 0x01, 0xcf, 0xea, 0x41, 0x41, 0x40, 0xde, 0x5d, 0xae, 0x22, 0x23, 0xb0, 0x03, 0x61, 0xa3, 0x96, 0x17, 0x7a, 0x9c, 0xb4, 0x10, 0xff, 0x61, 0xf2, 0x00, 0x15, 0xad] := by decide +kernel
end Go.Proofs.YtoaimcobcgomjaaDoor.Q
