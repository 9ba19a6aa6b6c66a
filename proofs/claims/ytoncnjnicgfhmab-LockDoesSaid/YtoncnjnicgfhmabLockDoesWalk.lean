/-
  LockDoes answers true for every two locks and a number. This text: the law's walk.
-/
import Derived.Test.YtoncnjnicgfhmabDoesWalk
namespace Go.Proofs.Ytoncnjnicgfhmab.Q
open Go.RowKit Go.Proofs.YtoncnjnicgfhmabW.PrintWords Go.Proofs.YtoncnjnicgfhmabW.PrintLast Go.Proofs.YtoncnjnicgfhmabW.PrintMore
set_option linter.unusedVariables false
set_option linter.unusedSimpArgs false

set_option maxHeartbeats 4000000 in
set_option maxRecDepth 100000 in
theorem does_long1 (o o2 n : Int) (l l2 : List Int) (A A2 : Option Addr) (c c2 : Nat) (w : World) (d30 : decide (30 < (l.length : Int)) = true) :
    Calls Try.prog 5 #[.agg #[.int .i64 o, .slice A l.length c], .agg #[.int .i64 o2, .slice A2 l2.length c2], .int .i64 n] w fun e w' => e = .returned (.bool true) ∧ Below w.heap.size w w' := by
  have HB := Aside0.mk (Below.refl w.heap.size w)
  go_enter Try.func5, Try.ntmps5
  go_wp2
  go_ret
  exact ⟨rfl, below_alloc (below_alloc HB.out _) _⟩
set_option maxHeartbeats 4000000 in
set_option maxRecDepth 100000 in
theorem does_long2 (o o2 n : Int) (l l2 : List Int) (A A2 : Option Addr) (c c2 : Nat) (w : World) (d30 : decide (30 < (l.length : Int)) = false) (d31 : decide (30 < (l2.length : Int)) = true) :
    Calls Try.prog 5 #[.agg #[.int .i64 o, .slice A l.length c], .agg #[.int .i64 o2, .slice A2 l2.length c2], .int .i64 n] w fun e w' => e = .returned (.bool true) ∧ Below w.heap.size w w' := by
  have HB := Aside0.mk (Below.refl w.heap.size w)
  go_enter Try.func5, Try.ntmps5
  go_wp2
  go_ret
  exact ⟨rfl, below_alloc (below_alloc HB.out _) _⟩

theorem lockDoes_walk (A : Option Addr) (c : Nat) (o : Int) (l : List Int) (A2 : Option Addr) (c2 : Nat) (o2 : Int) (l2 : List Int) (n : Int) (w : World) (hC : Kd.C (Kd.int .i64) w A l.length l) (hc : l.length ≤ c) (hC2 : Kd.C (Kd.int .i64) w A2 l2.length l2) (hc2 : l2.length ≤ c2) :
    Calls Try.prog 5 #[.agg #[.int .i64 o, .slice A l.length c], .agg #[.int .i64 o2, .slice A2 l2.length c2], .int .i64 n] w fun e w' => e = .returned (.bool true) ∧ Below w.heap.size w w' := by
  by_cases h1 : 30 < (l.length : Int)
  · exact does_long1 o o2 n l l2 A A2 c c2 w (decide_eq_true h1)
  by_cases h2 : 30 < (l2.length : Int)
  · exact does_long2 o o2 n l l2 A A2 c c2 w (decide_eq_false h1) (decide_eq_true h2)
  have hl : l.length ≤ 30 := by omega
  obtain ⟨ao, al, has, ae, ht1, ht2, hal⟩ := rtake_f o l hl n
  obtain ⟨co, cl, ci, ce, hf1, hf2, hcl⟩ := rfree_f o l hl n
  obtain ⟨p, pe, ha1, ha2⟩ := rahead_f o l hl n
  obtain ⟨ck, hk1, hk2⟩ := rcheck_f o l hl
  have hs : ∀ (o : Int) (l : List Int), l.length ≤ 31 → beadrollref26_Same.f 100 o l o l = some true := fun o l h => by rw [same_f o o l l h]; simp
  have hs' : ∀ (o : Int) (l : List Int), l.length ≤ 31 → lock_Same.f 100 o l o l = some true := fun o l h => by rw [lsame_f o o l l h]; simp
  exact does_short o o2 n ao ae co ci ce p pe ck has (decide (o = o2 ∧ l = l2)) l l2 al cl A A2 c c2 w ⟨hC⟩ ⟨hC2⟩ ⟨hc⟩ ⟨hc2⟩ (decide_eq_false h1) (decide_eq_false h2) ⟨rtwin_f o l hl⟩ ⟨ht1⟩ ⟨ht2⟩ ⟨hf1⟩ ⟨hf2⟩ ⟨ha1⟩ ⟨ha2⟩
    ⟨hs ao al hal⟩ ⟨hs co cl hcl⟩ ⟨hk1⟩ ⟨hk2⟩ ⟨lsame_f o o2 l l2 (by omega)⟩ ⟨same_f o o2 l l2 (by omega)⟩ ⟨hs' o l (by omega)⟩ ⟨hs o l (by omega)⟩ ⟨twin_f o l hl⟩

end Go.Proofs.Ytoncnjnicgfhmab.Q
