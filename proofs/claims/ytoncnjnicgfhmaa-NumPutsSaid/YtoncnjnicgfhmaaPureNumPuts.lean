/- NumPuts answers true for every number, size and bytes: a number in so many bytes, and bytes as a part, or the errors, are the document's, and what is handed in stays. -/
import Derived.Test.YtoncnjnicgfhmaaQ2
import Derived.Test.YtoncnjnicgfhmaaNumPure
namespace Go.Proofs.Ytoncnjnicgfhmaa.Pure
open Go.RowKit Go.Proofs.Ytoncnjnicgfhmaa.Q Go.Proofs.YtoncnjnicgfhmaaW.PrintWords Go.Proofs.YtoncnjnicgfhmaaW.PrintLast Go.Proofs.Ytoncnjnicgfhmaa.NumPure

theorem NumPuts : beadrolllaw01_NumPuts.Pure := by
  intro n s l hn hs hl1 hl2 hl
  obtain ⟨n0, n1⟩ : 0 ≤ n ∧ n < 18446744073709551616 := by have := bounds_u64 hn; omega
  refine ⟨5000, ?_⟩
  unfold beadrolllaw01_NumPuts.f
  by_cases c : (l.length : Int) > 6000
  · rw [if_pos c]
  rw [if_neg c, twin_f l (by omega)]
  simp only [Option.bind_some]
  rw [put_f n s n0 n1 5000 (by omega), rput_f n s n0 n1 5000 (by omega), putPart_f l 5000 (by omega), rputPart_f l 5000 (by omega)]
  simp only [Option.bind_some, same_self, if_true]
  obtain ⟨r1, h1⟩ := spoil_f (put n s).1 5000 (by have := put_len n s; omega) (by have := put_len n s; omega)
  obtain ⟨r2, h2⟩ := spoil_f (putPart l).1 5000 (by have := putPart_len l; omega) (by have := putPart_len l; omega)
  rw [h1, h2]
  unfold num_End.f beadrollref01_End.f
  by_cases c0 : (l.length : Int) = 0
  · rw [if_neg (by omega), if_pos c0]; simp
  · rw [if_pos (by omega), if_neg c0]; simp

end Go.Proofs.Ytoncnjnicgfhmaa.Pure
