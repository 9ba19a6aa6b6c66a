/- NumOne answers true for every bytes and size: what is taken, put again, is what it was taken from. -/
import Derived.Test.YtoncnjnicgfhmaaQ4
import Derived.Test.YtoncnjnicgfhmaaNumTake
namespace Go.Proofs.Ytoncnjnicgfhmaa.Pure
open Go.RowKit Go.Proofs.Ytoncnjnicgfhmaa.Q Go.Proofs.YtoncnjnicgfhmaaW.PrintWords Go.Proofs.YtoncnjnicgfhmaaW.PrintLast Go.Proofs.Ytoncnjnicgfhmaa.NumPure Go.Proofs.Ytoncnjnicgfhmaa.Num

theorem take_err (l : List Int) (s : Int) (h : s < 1 ∨ 8 < s ∨ (l.length : Int) < s) : ∃ e, num_Take.f l s = some (0, [], e) ∧ e ≠ 0 := by
  unfold num_Take.f
  by_cases h1 : s < 1
  · exact ⟨2, by rw [if_pos h1], by decide⟩
  · rw [if_neg h1]
    by_cases h2 : 8 < s
    · exact ⟨2, by rw [if_pos h2], by decide⟩
    · rw [if_neg h2, if_pos (by omega)]
      exact ⟨10, rfl, by decide⟩

theorem NumOne : beadrolllaw01_NumOne.Pure := by
  intro l s hl1 hl2 hl hs
  have hlb := byte_of hl
  refine ⟨5000, ?_⟩
  unfold beadrolllaw01_NumOne.f
  rw [alive_f 5000 (by omega)]
  simp only [Option.bind_some]
  by_cases c1 : (l.length : Int) > 5000
  · rw [if_pos c1]; simp [beadrolllaw01_NumOne.j0]
  rw [if_neg c1]
  have second : beadrolllaw01_NumOne.j1 4999 l true = some true := by
    simp only [beadrolllaw01_NumOne.j1]
    unfold num_TakePart.f
    by_cases c2 : (l.length : Int) < 2
    · obtain ⟨e, he, hne⟩ := take_err l 2 (by omega)
      rw [he]
      simp [num_TakePart.g, hne]
    · have ht := take_ok l 2 (by decide) (by decide) (by omega) (by omega) hlb
      rw [show ((2 : Nat) : Int) = 2 from rfl] at ht
      rw [ht]
      simp only [Option.bind_some]
      have hv := val_bound (l.take 2) (fun x hx => hlb x (List.mem_of_mem_take hx))
      have hl2' : (l.take 2).length = 2 := by rw [List.length_take]; omega
      rw [hl2'] at hv
      generalize hq : val (l.take 2) = v at *
      obtain ⟨m, rfl⟩ := Int.eq_ofNat_of_zero_le hv.1
      unfold num_TakePart.g
      rw [if_neg (by simp)]
      by_cases c3 : 4096 < (m : Int)
      · rw [if_pos c3]; simp
      rw [if_neg c3]
      by_cases c4 : ((l.drop 2).length : Int) < m
      · rw [if_pos c4]; simp
      rw [if_neg c4, Int.toNat_natCast]
      simp only [Option.bind_some, if_true]
      rw [putPart_f _ 4998 (by omega)]
      have hm : ((l.drop 2).take m).length = m := by rw [List.length_take]; omega
      unfold putPart
      rw [if_neg (by omega), hm]
      simp only [Option.bind_some, if_true]
      rw [if_pos (by simp [be_length]; omega)]
      have eb : be (m : Int) 2 = l.take 2 := by
        have := be_val (l.take 2) (fun x hx => hlb x (List.mem_of_mem_take hx)) 0
        rw [hl2', hq] at this
        simpa using this
      rw [eb, List.append_assoc, List.take_append_drop, List.take_append_drop]
      simp [same_self]
  simp only [beadrolllaw01_NumOne.j0, Bool.not_true, Bool.false_eq_true, if_false]
  by_cases c2 : s < 1 ∨ 8 < s ∨ (l.length : Int) < s
  · obtain ⟨e, he, hne⟩ := take_err l s c2
    rw [he]
    simp only [Option.bind_some]
    rw [if_neg hne]
    exact second
  · obtain ⟨t, rfl⟩ := Int.eq_ofNat_of_zero_le (show 0 ≤ s by omega)
    have ht := take_ok l t (by omega) (by omega) (by omega) (by omega) hlb
    rw [ht]
    simp only [Option.bind_some, if_true]
    have htl : (l.take t).length = t := by rw [List.length_take]; omega
    have hv := val_bound (l.take t) (fun x hx => hlb x (List.mem_of_mem_take hx))
    have eb : be (val (l.take t)) t = l.take t := by
      have := be_val (l.take t) (fun x hx => hlb x (List.mem_of_mem_take hx)) 0
      rw [htl] at this
      simpa using this
    rw [htl] at hv
    have hp : (256 : Int) ^ t ≤ 256 ^ 8 := pow_le (by omega)
    have h8 : (256 : Int) ^ 8 = 18446744073709551616 := by decide
    rw [put_f _ _ hv.1 (by omega) 4999 (by omega)]
    unfold put
    rw [if_neg (by omega), if_neg (by omega), Int.toNat_natCast, if_pos (Int.ediv_eq_zero_of_lt hv.1 hv.2), eb]
    simp only [Option.bind_some, if_true]
    rw [if_pos (by simp; omega), List.take_append_drop]
    simp only [same_self, Option.bind_some, if_true]
    exact second

end Go.Proofs.Ytoncnjnicgfhmaa.Pure
