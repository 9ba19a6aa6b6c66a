/-
  The contract, by hand, of bits.Len at small numbers.
-/
import Derived.Test.YtoaimcobcgomjaaDoorQ0
import Derived.WalkSpells
import Derived.Lib.Hide
namespace Go.Proofs.YtoaimcobcgomjaaDoor.Q
open Go.RowKit Go.Proofs.YtoaimcobcgomjaaDoorW.PrintWords Go.Proofs.YtoaimcobcgomjaaDoorW.PrintLast Go.Proofs.YtoaimcobcgomjaaDoorW.PrintMore
set_option linter.unusedVariables false
set_option linter.unusedSimpArgs false

/-- How many binary digits a number has. -/
def lenZ (x : Int) : Int := if x = 0 then 0 else (x.toNat.log2 : Int) + 1
/-- The table of the library's own text. -/
noncomputable def tabS : ByteArray := match (opsOf Tryd.f70 10)[3]? with
  | some o => match o.op with
    | .index _ (.const (.string s)) _ => s
    | _ => ⟨#[]⟩
  | none => ⟨#[]⟩
set_option maxRecDepth 100000 in
theorem tabS_size : tabS.size = 256 := by decide +kernel
set_option maxRecDepth 100000 in
theorem tabS_at (x : Int) (h0 : 0 ≤ x) (h1 : x < 256) : ((tabS.data.toList[x.toNat]?.getD 0).toNat : Int) = lenZ x := by
  have : ∀ m : Fin 256, ((tabS.data.toList[m.1]?.getD 0).toNat : Int) = lenZ ((m.1 : Nat) : Int) := by decide +kernel
  obtain ⟨m, rfl⟩ := Int.eq_ofNat_of_zero_le h0
  exact this ⟨m, by omega⟩
theorem lenZ_range (x : Int) (h0 : 0 ≤ x) (h1 : x < 256) : 0 ≤ lenZ x ∧ lenZ x ≤ 8 := by
  have : ∀ m : Fin 256, 0 ≤ lenZ ((m.1 : Nat) : Int) ∧ lenZ ((m.1 : Nat) : Int) ≤ 8 := by decide +kernel
  obtain ⟨m, rfl⟩ := Int.eq_ofNat_of_zero_le h0
  exact this ⟨m, by omega⟩
theorem wl_index {ops : Array Oper} {rest : List Oper} {o : Oper} {a : Act} {W : World} {Q : Exit → Act → World → Prop} (hgd : o.guard = none) (s : ByteArray) (y : Operand) (ho : o.op = .index 9 (.const (.string s)) y) (k : IntKind) (n : Int) (hy : a.eval y = .int k n) (h0 : 0 ≤ n) (h1 : n < s.size) (v : Int) (hv : ((s.data.toList[n.toNat]?.getD 0).toNat : Int) = v)
    (h : wpList Tryd.prog ops Q rest (a.put o.dst (.int .u8 v)) W) : wpList Tryd.prog ops Q (o :: rest) a W := by
  have hr : (Instr.index 9 (.string s) (.int k n)).run Tryd.prog W = .ok (.int .u8 v) W := by
    rw [run_index_string W 9 _ _ _ Tryd.underlying9, dif_pos ⟨h0, h1⟩, ← hv]
    congr 3
    have hl : n.toNat < s.data.toList.length := by rw [Array.length_toList]; show n.toNat < s.size; omega
    rw [List.getElem?_eq_getElem hl]
    rfl
  refine wpList_plain hgd fun K hK => ?_
  unfold Oper.wp execOp
  have e1 : a.eval (.const (.string s)) = .string s := rfl
  simp only [ho, e1, hy, hr, Sem.run_bind, Sem.run_pure, Result.andThen_ok]
  exact hK _ _ h
set_option maxHeartbeats 1000000 in
set_option maxRecDepth 100000 in
theorem len64_walk (x : Int) (h0 : 0 ≤ x) (h1 : x < 256) (w : World) : Calls Tryd.prog 70 #[.int .u64 x] w fun e w' => e = .returned (.int .i64 (lenZ x)) ∧ w' = w := by
  have hx : IntKind.u8.wrap x = x := by rw [IntKind.wrap_u8]; omega
  have hr := lenZ_range x h0 h1
  have hy : IntKind.i64.wrap (lenZ x) = lenZ x := by rw [IntKind.wrap_i64]; omega
  have hz : IntKind.i64.wrap (0 + lenZ x) = lenZ x := by rw [IntKind.wrap_i64]; omega
  go_enter Tryd.func70, Tryd.ntmps70
  go_wp2_with (
    first
    | ((with_reducible refine gate_dst (N := 22) rfl ?_); refine wl_index rfl tabS (.tmp 21) rfl .u8 x rfl h0 (by rw [tabS_size]; exact h1) (lenZ x) (tabS_at x h0 h1) ?_))
  go_ret
  exact ⟨rfl, rfl⟩
set_option maxHeartbeats 1000000 in
theorem len_walk (x : Int) (h0 : 0 ≤ x) (h1 : x < 256) (w : World) : Calls Tryd.prog 57 #[.int .u64 x] w fun e w' => e = .returned (.int .i64 (lenZ x)) ∧ w' = w := by
  go_enter Tryd.func57, Tryd.ntmps57
  go_wp2_with (
    first
    | (go_at_call 70; (with_reducible refine (len64_walk x h0 h1 _).mono ?_); rintro e w' ⟨rfl, rfl⟩))
  go_ret
  exact ⟨rfl, rfl⟩
def bits_Len.f (a0 : Int) : Option Int := if 0 ≤ a0 ∧ a0 < 256 then some (lenZ a0) else none
theorem bits_Len.calls (a0 : Int) (r : Int) (w : World) (h : bits_Len.f a0 = some r) :
    Calls Tryd.prog 57 #[.int .u64 a0] w fun e w' => e = .returned (.int .i64 r) ∧ Drawn0 w w' := by
  unfold bits_Len.f at h
  split at h
  · rename_i hh
    obtain rfl := Option.some.inj h
    exact (len_walk a0 hh.1 hh.2 w).mono fun e w' hw => ⟨hw.1, 0, by rw [hw.2]; rfl⟩
  · cases h
end Go.Proofs.YtoaimcobcgomjaaDoor.Q
