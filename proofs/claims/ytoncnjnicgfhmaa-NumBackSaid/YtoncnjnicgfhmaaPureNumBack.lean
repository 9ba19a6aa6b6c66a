/- NumBack answers true for every number, size, part and bytes behind: what is put is taken, whatever stands behind it. -/
import Derived.Test.YtoncnjnicgfhmaaQ3
import Derived.Test.YtoncnjnicgfhmaaNumTake
namespace Go.Proofs.Ytoncnjnicgfhmaa.Pure
open Go.RowKit Go.Proofs.Ytoncnjnicgfhmaa.Q Go.Proofs.YtoncnjnicgfhmaaW.PrintWords Go.Proofs.YtoncnjnicgfhmaaW.PrintLast Go.Proofs.Ytoncnjnicgfhmaa.NumPure Go.Proofs.Ytoncnjnicgfhmaa.Num

theorem NumBack : beadrolllaw01_NumBack.Pure := by
  intro n s l rest hn hs hl1 hl2 hl hr1 hr2 hr
  obtain ⟨n0, n1⟩ : 0 ≤ n ∧ n < 18446744073709551616 := by have := bounds_u64 hn; omega
  have hlb := byte_of hl
  have hrb := byte_of hr
  refine ⟨5000, ?_⟩
  unfold beadrolllaw01_NumBack.f
  rw [alive_f 5000 (by omega)]
  simp only [Option.bind_some]
  by_cases c1 : (l.length : Int) > 5000
  · rw [if_pos c1]; simp [beadrolllaw01_NumBack.j0]
  rw [if_neg c1]
  by_cases c2 : (rest.length : Int) > 5000
  · rw [if_pos c2]; simp [beadrolllaw01_NumBack.j0]
  rw [if_neg c2]
  have second : beadrolllaw01_NumBack.j1 4999 l rest true = some true := by
    simp only [beadrolllaw01_NumBack.j1]
    rw [putPart_f l 4998 (by omega)]
    simp only [Option.bind_some, if_true]
    unfold putPart
    by_cases c3 : 4096 < (l.length : Int)
    · rw [if_pos c3]; simp; omega
    · rw [if_neg c3]
      simp only [if_true]
      rw [if_pos (by simp [be_length]; omega), takePart_put l rest (by omega) (by omega) hlb hrb]
      simp [same_self]
  simp only [beadrolllaw01_NumBack.j0, Bool.not_true, Bool.false_eq_true, if_false]
  rw [put_f n s n0 n1 4999 (by omega)]
  simp only [Option.bind_some]
  unfold put
  by_cases c3 : s < 1
  · rw [if_pos c3]; simpa using second
  rw [if_neg c3]
  by_cases c4 : 8 < s
  · rw [if_pos c4]; simpa using second
  rw [if_neg c4]
  by_cases c5 : n / 256 ^ s.toNat = 0
  · rw [if_pos c5]
    obtain ⟨t, rfl⟩ := Int.eq_ofNat_of_zero_le (show 0 ≤ s by omega)
    rw [Int.toNat_natCast] at *
    simp only [if_true]
    have ht := take_ok (be n t ++ rest) t (by omega) (by omega) (by simp [be_length]) (by simp [be_length]; omega) (fun x hx => by
      rcases List.mem_append.1 hx with hx | hx
      · exact be_byte _ _ x hx
      · exact hrb x hx)
    rw [if_pos (by simp [be_length]; omega), ht]
    have e1 : (be n t ++ rest).take t = be n t := List.take_left' (be_length _ _)
    have e2 : (be n t ++ rest).drop t = rest := List.drop_left' (be_length _ _)
    have e3 : n % 256 ^ t = n := by
      have := Int.emod_add_mul_ediv n (256 ^ t)
      rw [c5] at this
      omega
    rw [e1, e2, val_be n t n0, e3]
    simp only [Option.bind_some, if_true, same_self]
    exact second
  · rw [if_neg c5]; simpa using second

end Go.Proofs.Ytoncnjnicgfhmaa.Pure
