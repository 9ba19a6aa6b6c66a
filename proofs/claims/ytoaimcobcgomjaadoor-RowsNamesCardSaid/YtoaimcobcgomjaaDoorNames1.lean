/- What the law reaches of these texts: Q0, QGiven, Q1, ShaRot, ShaPure, ShaText, ShaHex, ShaBlock, ShaEat, ShaApp, ShaRead, ShaOf, ShaAlive, ShaEq, ShaNamesWalk, ShaPartsWalk, ShaSum4 (joined by wip/tools/prune.py). -/
import Derived.Test.YtoaimcobcgomjaaDoorProg
import Derived.Below
import Derived.Deep.Draws
import Derived.Deep.AppendLies
import Derived.Maps.AppendAt
import Derived.OwnWalk
import Derived.Laws.BytesArg
import Derived.Laws.MakeOwn
import Derived.Laws.OwnMore
import Derived.Deep.OwnRows
import Derived.Tactics
import Derived.Lib.ConvBytes
import Derived.Laws.Slices
import Derived.WalkKit
import Derived.KernelRfl
import Derived.RowKit3
import Derived.Deep.LoopGhost
import Derived.Deep.QuietTactic
import Derived.BigQuiet
import Derived.WideLaws
import Derived.Deep.DeepCutAuto
import Derived.Deep.CutBlock
import Derived.Deep.RegionHeld3
import Derived.Laws.Rows
import Derived.Lib.AppendStr
import Derived.ArgAppend
import Derived.Laws.IdiomCopy
import Derived.OrdersHeld
import Derived.Laws.BitsLemmas
import Derived.RowKit
import Derived.Test.YtoaimcobcgomjaaDoorWWords
import Derived.Test.YtoaimcobcgomjaaDoorWLast
import Derived.Test.YtoaimcobcgomjaaDoorWTab
import Derived.Test.YtoaimcobcgomjaaDoorWFour
import Derived.Test.YtoaimcobcgomjaaDoorWQPut
import Derived.Test.YtoaimcobcgomjaaDoorWApart
import Derived.Test.YtoaimcobcgomjaaDoorWArr
import Derived.Test.YtoaimcobcgomjaaDoorWZeros
import Derived.Test.YtoaimcobcgomjaaDoorWFoot
import Derived.Test.YtoaimcobcgomjaaDoorWKept
import Derived.Test.YtoaimcobcgomjaaDoorWShare
import Derived.Test.YtoaimcobcgomjaaDoorWN
import Derived.Test.YtoaimcobcgomjaaDoorWFootNe
import Derived.Test.YtoaimcobcgomjaaDoorWAt
import Derived.Test.YtoaimcobcgomjaaDoorWEqStruct
import Derived.Test.YtoaimcobcgomjaaDoorWRepsOne
import Derived.Test.YtoaimcobcgomjaaDoorWInv
import Derived.Test.YtoaimcobcgomjaaDoorWInvWords
import Derived.Test.YtoaimcobcgomjaaDoorWGuard
import Derived.Test.YtoaimcobcgomjaaDoorWNEv
import Derived.Test.YtoaimcobcgomjaaDoorWMore
import Derived.WalkSpells
import Derived.Lib.Hide
import Derived.OpenShut
import Derived.Lib.Walk
import Derived.Lib.Strings
import Derived.Lib.Bytealg
import Derived.BigCall
import Derived.BigGuard
import Derived.Laws.Strings3
import Derived.Shelf.Strings.Builder1
import Derived.Shelf.RegionOpenPlain
import Derived.Lib.UnsafeStr
import Derived.Laws.CopyOwn
import Derived.Lib.SlBytesConst
import Derived.Stop.BytesEq
namespace Go.Proofs.YtoaimcobcgomjaaDoor.Q
open Go.RowKit Go.Proofs.YtoaimcobcgomjaaDoorW.PrintWords Go.Proofs.YtoaimcobcgomjaaDoorW.PrintLast Go.Proofs.YtoaimcobcgomjaaDoorW.PrintMore
attribute [local go_sem] max2_int min2_int max_two min_two max_three min_three max_four min_four   -- for this text's walks alone
set_option linter.unusedVariables false
set_option linter.unusedSimpArgs false
def errW : Option Int → Value
  | none => .nilIface
  | some c => .iface 0 (.int .i64 c)
theorem errW_none : errW none = .nilIface := rfl
theorem errW_some (c : Int) : errW (some c) = .iface 0 (.int .i64 c) := rfl
theorem info5 : (Tryd.prog.info? 5).map (fun i => (i.zero, i.size, i.bytes)) = some (some (.int .u8 0), 1, 1) := by kernel_rfl
theorem info22 : (Tryd.prog.info? 22).map (fun i => (i.zero, i.size, i.bytes)) = some (some (.slice none 0 0), 1, 24) := by kernel_rfl
-- the values' own types
def rd_L1 (xs : List (List Int)) (i : Int) : (List Int) := xs.getD i.toNat ([] : List Int)
theorem at_L1 {w : World} {A : Option Addr} {n : Nat} {xs : List (List Int)} (h : Kd.C (Kd.slice 5 (Kd.int .u8)) w A n xs) (i : Int) (h0 : 0 ≤ i) (h1 : i < n) : ∃ ad A0 c0, A = some ad ∧ w.cell? (ad.add i.toNat) = some (.slice A0 (rd_L1 xs i).length c0) ∧ (rd_L1 xs i).length ≤ c0 ∧ (Kd.int .u8).C w A0 (rd_L1 xs i).length (rd_L1 xs i) := by
  obtain ⟨ad, c, e, _, hK, hc0⟩ := Kd.C_get h ([] : List Int) i h0 h1
  have hc : ∀ j u, c[j]? = some u → w.cell? (ad.add (i.toNat * 1 + j)) = some u := hc0
  obtain ⟨A0, c0, rfl, l0, g0⟩ := hK
  exact ⟨ad, A0, c0, e, by have hq := hc 0 _ rfl; rwa [Nat.mul_one, Nat.add_zero] at hq, l0, g0⟩
end Go.Proofs.YtoaimcobcgomjaaDoor.Q
namespace Go.Proofs.YtoaimcobcgomjaaDoor.Q
open Go.RowKit Go.Proofs.YtoaimcobcgomjaaDoorW.PrintWords Go.Proofs.YtoaimcobcgomjaaDoorW.PrintLast Go.Proofs.YtoaimcobcgomjaaDoorW.PrintMore
set_option linter.unusedVariables false
set_option linter.unusedSimpArgs false
/-- How many binary digits a number has. -/
def lenZ (x : Int) : Int := if x = 0 then 0 else (x.toNat.log2 : Int) + 1
/-- The table of the library's own text. -/
noncomputable def tabS : ByteArray := match (opsOf Tryd.f70 10)[3]? with
  | some o => match o.op with
    | .index _ (.const (.string s)) _ => s
    | _ => ⟨#[]⟩
  | none => ⟨#[]⟩
set_option maxRecDepth 100000 in
theorem tabS_size : tabS.size = 256 := by decide +kernel
set_option maxRecDepth 100000 in
theorem tabS_at (x : Int) (h0 : 0 ≤ x) (h1 : x < 256) : ((tabS.data.toList[x.toNat]?.getD 0).toNat : Int) = lenZ x := by
  have : ∀ m : Fin 256, ((tabS.data.toList[m.1]?.getD 0).toNat : Int) = lenZ ((m.1 : Nat) : Int) := by decide +kernel
  obtain ⟨m, rfl⟩ := Int.eq_ofNat_of_zero_le h0
  exact this ⟨m, by omega⟩
theorem lenZ_range (x : Int) (h0 : 0 ≤ x) (h1 : x < 256) : 0 ≤ lenZ x ∧ lenZ x ≤ 8 := by
  have : ∀ m : Fin 256, 0 ≤ lenZ ((m.1 : Nat) : Int) ∧ lenZ ((m.1 : Nat) : Int) ≤ 8 := by decide +kernel
  obtain ⟨m, rfl⟩ := Int.eq_ofNat_of_zero_le h0
  exact this ⟨m, by omega⟩
theorem wl_index {ops : Array Oper} {rest : List Oper} {o : Oper} {a : Act} {W : World} {Q : Exit → Act → World → Prop} (hgd : o.guard = none) (s : ByteArray) (y : Operand) (ho : o.op = .index 9 (.const (.string s)) y) (k : IntKind) (n : Int) (hy : a.eval y = .int k n) (h0 : 0 ≤ n) (h1 : n < s.size) (v : Int) (hv : ((s.data.toList[n.toNat]?.getD 0).toNat : Int) = v)
    (h : wpList Tryd.prog ops Q rest (a.put o.dst (.int .u8 v)) W) : wpList Tryd.prog ops Q (o :: rest) a W := by
  have hr : (Instr.index 9 (.string s) (.int k n)).run Tryd.prog W = .ok (.int .u8 v) W := by
    rw [run_index_string W 9 _ _ _ Tryd.underlying9, dif_pos ⟨h0, h1⟩, ← hv]
    congr 3
    have hl : n.toNat < s.data.toList.length := by rw [Array.length_toList]; show n.toNat < s.size; omega
    rw [List.getElem?_eq_getElem hl]
    rfl
  refine wpList_plain hgd fun K hK => ?_
  unfold Oper.wp execOp
  have e1 : a.eval (.const (.string s)) = .string s := rfl
  simp only [ho, e1, hy, hr, Sem.run_bind, Sem.run_pure, Result.andThen_ok]
  exact hK _ _ h
set_option maxHeartbeats 1000000 in
set_option maxRecDepth 100000 in
theorem len64_walk (x : Int) (h0 : 0 ≤ x) (h1 : x < 256) (w : World) : Calls Tryd.prog 70 #[.int .u64 x] w fun e w' => e = .returned (.int .i64 (lenZ x)) ∧ w' = w := by
  have hx : IntKind.u8.wrap x = x := by rw [IntKind.wrap_u8]; omega
  have hr := lenZ_range x h0 h1
  have hy : IntKind.i64.wrap (lenZ x) = lenZ x := by rw [IntKind.wrap_i64]; omega
  have hz : IntKind.i64.wrap (0 + lenZ x) = lenZ x := by rw [IntKind.wrap_i64]; omega
  go_enter Tryd.func70, Tryd.ntmps70
  go_wp2_with (
    first
    | ((with_reducible refine gate_dst (N := 22) rfl ?_); refine wl_index rfl tabS (.tmp 21) rfl .u8 x rfl h0 (by rw [tabS_size]; exact h1) (lenZ x) (tabS_at x h0 h1) ?_))
  go_ret
  exact ⟨rfl, rfl⟩
set_option maxHeartbeats 1000000 in
theorem len_walk (x : Int) (h0 : 0 ≤ x) (h1 : x < 256) (w : World) : Calls Tryd.prog 57 #[.int .u64 x] w fun e w' => e = .returned (.int .i64 (lenZ x)) ∧ w' = w := by
  go_enter Tryd.func57, Tryd.ntmps57
  go_wp2_with (
    first
    | (go_at_call 70; (with_reducible refine (len64_walk x h0 h1 _).mono ?_); rintro e w' ⟨rfl, rfl⟩))
  go_ret
  exact ⟨rfl, rfl⟩
def bits_Len.f (a0 : Int) : Option Int := if 0 ≤ a0 ∧ a0 < 256 then some (lenZ a0) else none
theorem bits_Len.calls (a0 : Int) (r : Int) (w : World) (h : bits_Len.f a0 = some r) :
    Calls Tryd.prog 57 #[.int .u64 a0] w fun e w' => e = .returned (.int .i64 r) ∧ Drawn0 w w' := by
  unfold bits_Len.f at h
  split at h
  · rename_i hh
    obtain rfl := Option.some.inj h
    exact (len_walk a0 hh.1 hh.2 w).mono fun e w' hw => ⟨hw.1, 0, by rw [hw.2]; rfl⟩
  · cases h
end Go.Proofs.YtoaimcobcgomjaaDoor.Q
namespace Go.Proofs.YtoaimcobcgomjaaDoor.Q
open Go.RowKit Go.Proofs.YtoaimcobcgomjaaDoorW.PrintWords Go.Proofs.YtoaimcobcgomjaaDoorW.PrintLast Go.Proofs.YtoaimcobcgomjaaDoorW.PrintMore
attribute [local go_sem] max2_int min2_int max_two min_two max_three min_three max_four min_four   -- for this text's walks alone
set_option linter.unusedVariables false
set_option linter.unusedSimpArgs false
def beadrollref01_Twin.f (l0 : List Int) : Option (List Int) := if ([] : List Int).length + l0.length < 140737488355328 then (some (([] : List Int) ++ l0)) else (none)
set_option maxHeartbeats 8000000 in
set_option maxRecDepth 100000 in
theorem beadrollref01_Twin.calls (A0 : Option Addr) (c0 : Nat) (l0 : List Int) (r : List Int) (w : World) (hr0 : Kd.C (Kd.int .u8) w A0 l0.length l0) (hc0 : l0.length ≤ c0) (h : beadrollref01_Twin.f l0 = some r) :
    Calls Tryd.prog 12 #[.slice A0 l0.length c0] w fun e w' => ∃ v0_ : Value, e = .returned (v0_) ∧ Kd.R (Kd.int .u8) 5 w' w.heap.size (fun _ => True) v0_ r ∧ Below w.heap.size w w' := by
  have HR0 := Aside0.mk hr0
  have HC0 := Aside0.mk hc0
  clear hr0 hc0
  have HB := Aside0.mk (Below.refl w.heap.size w)
  have H : (if ([] : List Int).length + l0.length < 140737488355328 then (some (([] : List Int) ++ l0)) else (none)) = some r := h
  clear h
  by_cases c2 : ([] : List Int).length + l0.length < 140737488355328
  · rw [if_pos c2] at H
    have LMc2 := Aside0.mk c2
    clear c2
    obtain ⟨y101, hy101⟩ : ∃ y_ : List Int, y_ = (([] : List Int) ++ l0) := ⟨_, rfl⟩
    replace H : (some y101) = some r := by first | (rw [hy101]; with_reducible exact H) | (have H2_ := (Option.bind_some _ _).symm.trans H; rw [hy101]; with_reducible exact H2_) | (have H2_ := (Option.bind_some _ _).symm.trans H; with_reducible exact H2_) | with_reducible exact H | (rw [hy101]; exact H) | exact H
    have Ny101 := Aside0.mk hy101
    clear hy101
    obtain rfl := Option.some.inj H
    go_enter Tryd.func12, Tryd.ntmps12
    go_wp2_with (first | ((with_reducible refine gate_builtin (b := .append) (xs := #[.tmp 4, .tmp 5]) rfl ?_); at_builtin; refine Kd.R_append_rows (Kd.int .u8) (w0 := w) w.heap.size rfl (.tmp 4) (.tmp 5) 22 5 (.int .u8 0) 1 rfl Tryd.underlying22 info5 rfl (by decide) (by omega) (.slice none 0 0) ([] : List Int) l0 _ _ _ (fun _ => True) (fun _ => False) rfl rfl ?aO ?aR (fun _ _ h => h) (fun _ h => h.elim) ?aF ?aB ?aS ?aL ?_; (case aR => repeat (first | exact HR0.out | (with_reducible refine Kd.C_alloc ?_ _) | (with_reducible refine Kd.C_drewN ?_ _) | (with_reducible refine Kd.C_drew ?_))); (case aB => exact (by repeat (first | (with_reducible first | exact HB.out | apply below_alloc | apply pw_below_drewN | apply below_drew1) | exact HB.out))); (case aF => exact (fun _ _ => trivial)); (case aO => exact ((Kd.R_nil _ _ _ _ (fun _ => True)))); (case aS => exact (below_size (by repeat (first | (with_reducible first | exact HB.out | apply below_alloc | apply pw_below_drewN | apply below_drew1) | exact HB.out)))); (case aL => have := LMc2.out; omega); intro v102 w3 ho hb hg hat; rw [← Ny101.out] at ho; have n0_ := Aside0.mk (hb); have n1_ := Aside0.mk (ho); clear HB; have HB := n0_; have HO103 := n1_; clear n0_ n1_; clear ho hb hg hat))
    go_ret
    exact ⟨_, by first | rfl | (simp [errW_none, errW_some] <;> rfl) | (simp [*, errW_none, errW_some] <;> rfl), by (with_reducible repeat (first | apply Kd.R_alloc | apply Kd.R_drewN | apply Kd.R_drew)); exact HO103.out, by repeat (first | (with_reducible first | exact HB.out | apply below_alloc | apply pw_below_drewN | apply below_drew1) | exact HB.out)⟩
  · rw [if_neg c2] at H
    exact absurd H (by simp)
-- NOT PRINTED: function 34 (sha_state_block)
-- NOT PRINTED: function 13 (sha_Of)
-- NOT PRINTED: function 35 (beadrollref02_padded)
-- NOT PRINTED: function 36 (beadrollref02_words)
-- NOT PRINTED: function 37 (beadrollref02_schedule)
-- NOT PRINTED: function 38 (beadrollref02_round)
-- NOT PRINTED: function 14 (beadrollref02_Sum)
def beadrollref02_Joined.l0 : Nat → List (List Int) → List Int → Int → Option (List Int)
  | 0, _, _, _ => none
  | k + 1, x0, x3, x4 => if x4 < (x0.length : Int) then (if 0 ≤ x4 then (if x3.length + (rd_L1 x0 x4).length < 140737488355328 then (beadrollref02_Joined.l0 k x0 (x3 ++ (rd_L1 x0 x4)) (wrap64 (x4 + 1))) else (none)) else (none)) else (some x3)
def beadrollref02_Joined.f (k : Nat) (l0 : List (List Int)) : Option (List Int) := beadrollref02_Joined.l0 k l0 ([] : List Int) 0
theorem beadrollref02_Joined.mono_l : ∀ k, (∀ y0 y1 y2, LeO (beadrollref02_Joined.l0 k y0 y1 y2) (beadrollref02_Joined.l0 (k + 1) y0 y1 y2))
  | 0 => fun _ _ _ r h => by simp [beadrollref02_Joined.l0] at h
  | k + 1 => by
    have ih0 := beadrollref02_Joined.mono_l k
    · intro y0 y1 y2
      unfold beadrollref02_Joined.l0
      repeat' first
      | (with_reducible exact ih0 _ _ _)
      | (with_reducible exact LeO.refl _)
      | (with_reducible exact LeO.none _)
      | (with_reducible refine LeO.ite ?_ ?_)
      | (with_reducible refine LeO.bind ?_ (fun _ => ?_))
      | exact ih0 _ _ _
      | exact LeO.none _
      | refine LeO.ite ?_ ?_
      | refine LeO.bind ?_ (fun _ => ?_)
theorem beadrollref02_Joined.mono : ∀ a0 k, LeO (beadrollref02_Joined.f k a0) (beadrollref02_Joined.f (k + 1) a0) := by
  intro a0 k
  have ih0 := beadrollref02_Joined.mono_l k
  unfold beadrollref02_Joined.f
  repeat' first
      | (with_reducible exact ih0 _ _ _)
      | (with_reducible exact LeO.refl _)
      | (with_reducible exact LeO.none _)
      | (with_reducible refine LeO.ite ?_ ?_)
      | (with_reducible refine LeO.bind ?_ (fun _ => ?_))
      | exact ih0 _ _ _
      | exact LeO.none _
      | refine LeO.ite ?_ ?_
      | refine LeO.bind ?_ (fun _ => ?_)
set_option maxHeartbeats 8000000 in
set_option maxRecDepth 100000 in
theorem beadrollref02_Joined.calls (k : Nat) (A0 : Option Addr) (c0 : Nat) (l0 : List (List Int)) (r : List Int) (w : World) (hr0 : Kd.C (Kd.slice 5 (Kd.int .u8)) w A0 l0.length l0) (hc0 : l0.length ≤ c0) (h : beadrollref02_Joined.f k l0 = some r) :
    Calls Tryd.prog 15 #[.slice A0 l0.length c0] w fun e w' => ∃ v0_ : Value, e = .returned (v0_) ∧ Kd.R (Kd.int .u8) 5 w' w.heap.size (fun _ => True) v0_ r ∧ Below w.heap.size w w' := by
  have HR0 := Aside0.mk hr0
  have HC0 := Aside0.mk hc0
  clear hr0 hc0
  have HB := Aside0.mk (Below.refl w.heap.size w)
  have H : (beadrollref02_Joined.l0 k l0 ([] : List Int) 0) = some r := h
  clear h
  have H' := Aside0.mk H
  clear H
  go_enter Tryd.func15, Tryd.ntmps15
  go_wp2
  go_loopg [3, 4] k (fun kq v3 v4 w' => ∃ (x3_1 : List Int) (x4_1 : Int), v4 = .int .i64 x4_1 ∧ Aside0 (beadrollref02_Joined.l0 kq l0 x3_1 x4_1 = some r) ∧ Aside0 (kq ≤ k) ∧ Aside0 (Kd.R (Kd.int .u8) 5 w' w.heap.size (fun _ => True) v3 x3_1) ∧ Aside0 (Below w.heap.size w w'))
  case atStart => exact ⟨(([] : List Int)), (0), (by first | rfl | (simp; done) | (simp [*]; done)), H', ⟨Nat.le_refl _⟩, ⟨by first | exact Kd.R_nil _ _ _ _ _ | exact Kd.N_nil _ _ _ _ _ | exact Kd.V_nil _ _ _ _ _ | exact Kd.Q_nil _ _ _ _ _ | exact Kd.S_nil _ _ _ _ _⟩, ⟨by repeat (first | (with_reducible first | exact HB.out | apply below_alloc | apply pw_below_drewN | apply below_drew1) | exact HB.out)⟩⟩
  case round =>
    clear H'
    try clear c1
    obtain ⟨x3_1, x4_1, rfl, HA, HK1, HO_3, HB⟩ := hrel
    cases gk with
    | zero => exact absurd HA.out (by simp [beadrollref02_Joined.l0])
    | succ k1 =>
      have H := HA.out
      clear HA
      simp only [beadrollref02_Joined.l0] at H
      by_cases c2 : x4_1 < (l0.length : Int)
      · rw [if_pos c2] at H
        have c2b0 : decide (x4_1 < (l0.length : Int)) = true := decide_eq_true c2
        clear c2
        by_cases c3 : 0 ≤ x4_1
        · rw [if_pos c3] at H
          have c3b0 : decide (0 ≤ x4_1) = true := decide_eq_true c3
          clear c3
          by_cases c4 : x3_1.length + (rd_L1 l0 x4_1).length < 140737488355328
          · rw [if_pos c4] at H
            have LMc4 := Aside0.mk c4
            clear c4
            obtain ⟨y114, hy114⟩ : ∃ y_ : List Int, y_ = (x3_1 ++ (rd_L1 l0 x4_1)) := ⟨_, rfl⟩
            replace H : (beadrollref02_Joined.l0 k1 l0 y114 (wrap64 (x4_1 + 1))) = some r := by first | (rw [hy114]; with_reducible exact H) | (have H2_ := (Option.bind_some _ _).symm.trans H; rw [hy114]; with_reducible exact H2_) | (have H2_ := (Option.bind_some _ _).symm.trans H; with_reducible exact H2_) | with_reducible exact H | (rw [hy114]; exact H) | exact H
            have Ny114 := Aside0.mk hy114
            clear hy114
            have H' := Aside0.mk H
            clear H
            have p113 : 0 ≤ (x4_1 : Int) := of_decide_eq_true (by first | (with_reducible assumption) | assumption)
            have q113 : x4_1 < (l0.length : Int) := of_decide_eq_true (by first | (with_reducible assumption) | assumption)
            obtain ⟨ad113, A113_0, c113_0, e113, hx113_0, hl113_0, hi113_0⟩ := at_L1 HR0.out x4_1 p113 q113
            cases e113
            replace hx113_0 := (HB.out.cell (World.block_lt_of_cell? w _ hx113_0)).trans hx113_0
            have HR113_0 := Aside0.mk hi113_0
            have HC113_0 := Aside0.mk hl113_0
            clear hi113_0 hl113_0
            replace p113 := eq_true p113
            replace q113 := eq_true q113
            go_wp2_with (first | ((with_reducible refine gate_builtin (b := .append) (xs := #[.tmp 11, .tmp 15]) rfl ?_); at_builtin; refine Kd.R_append_rows (Kd.int .u8) (w0 := w) w.heap.size rfl (.tmp 11) (.tmp 15) 22 5 (.int .u8 0) 1 rfl Tryd.underlying22 info5 rfl (by decide) (by omega) u3 x3_1 (rd_L1 l0 x4_1) _ _ _ (fun _ => True) (fun _ => False) rfl rfl ?aO ?aR (fun _ _ h => h) (fun _ h => h.elim) ?aF ?aB ?aS ?aL ?_; (case aR => repeat (first | exact (Kd.C_below HR113_0.out HB.out) | (with_reducible refine Kd.C_alloc ?_ _) | (with_reducible refine Kd.C_drewN ?_ _) | (with_reducible refine Kd.C_drew ?_))); (case aB => exact (by repeat (first | (with_reducible first | exact HB.out | apply below_alloc | apply pw_below_drewN | apply below_drew1) | exact HB.out))); (case aF => exact (fun _ _ => trivial)); (case aO => exact (by (with_reducible repeat (first | apply Kd.R_alloc | apply Kd.R_drewN | apply Kd.R_drew)); exact HO_3.out)); (case aS => exact (below_size (by repeat (first | (with_reducible first | exact HB.out | apply below_alloc | apply pw_below_drewN | apply below_drew1) | exact HB.out)))); (case aL => have := LMc4.out; omega); intro v115 w5 ho hb hg hat; rw [← Ny114.out] at ho; have n0_ := Aside0.mk (hb); have n1_ := Aside0.mk (ho); clear HB; clear HO_3; have HB := n0_; have HO116 := n1_; clear n0_ n1_; clear ho hb hg hat))
            go_roundg k1
            case measure => have := HK1.out; omega
            case rel => exact ⟨(y114), (wrap64 (x4_1 + 1)), (by first | rfl | (simp; done) | (simp [*]; done)), H', ⟨by have := HK1.out; omega⟩, ⟨by (with_reducible repeat (first | apply Kd.R_alloc | apply Kd.R_drewN | apply Kd.R_drew)); exact HO116.out⟩, ⟨by repeat (first | (with_reducible first | exact HB.out | apply below_alloc | apply pw_below_drewN | apply below_drew1) | exact HB.out)⟩⟩
          · rw [if_neg c4] at H
            exact absurd H (by simp)
        · rw [if_neg c3] at H
          exact absurd H (by simp)
      · rw [if_neg c2] at H
        have c2b0 : decide (x4_1 < (l0.length : Int)) = false := decide_eq_false c2
        clear c2
        obtain rfl := Option.some.inj H
        go_wp2
        go_ret
        exact ⟨_, by first | rfl | (simp [errW_none, errW_some] <;> rfl) | (simp [*, errW_none, errW_some] <;> rfl), by (with_reducible repeat (first | apply Kd.R_alloc | apply Kd.R_drewN | apply Kd.R_drew)); exact HO_3.out, by repeat (first | (with_reducible first | exact HB.out | apply below_alloc | apply pw_below_drewN | apply below_drew1) | exact HB.out)⟩
def beadrollref01_Same.f (l0 : List Int) (l1 : List Int) : Option (Bool) := some ((strOfNums l0).toList == (strOfNums l1).toList)
set_option maxHeartbeats 8000000 in
set_option maxRecDepth 100000 in
theorem beadrollref01_Same.calls (A0 : Option Addr) (c0 : Nat) (l0 : List Int) (A1 : Option Addr) (c1 : Nat) (l1 : List Int) (r : Bool) (w : World) (hr0 : Kd.C (Kd.int .u8) w A0 l0.length l0) (hc0 : l0.length ≤ c0) (hr1 : Kd.C (Kd.int .u8) w A1 l1.length l1) (hc1 : l1.length ≤ c1) (h : beadrollref01_Same.f l0 l1 = some r) :
    Calls Tryd.prog 16 #[.slice A0 l0.length c0, .slice A1 l1.length c1] w fun e w' => e = .returned (.bool r) ∧ Drawn0 w w' := by
  have HR0 := Aside0.mk hr0
  have HC0 := Aside0.mk hc0
  clear hr0 hc0
  have HR1 := Aside0.mk hr1
  have HC1 := Aside0.mk hc1
  clear hr1 hc1
  have H : (some ((strOfNums l0).toList == (strOfNums l1).toList)) = some r := h
  clear h
  obtain rfl := Option.some.inj H
  have hcv3 := Kd.C_string (P := Tryd.prog) (A := A0) (c := c0) Tryd.underlying22 Tryd.underlying5 Tryd.underlying9 HR0.out
  have hcv4 := Kd.C_string (P := Tryd.prog) (A := A1) (c := c1) Tryd.underlying22 Tryd.underlying5 Tryd.underlying9 HR1.out
  go_enter Tryd.func16, Tryd.ntmps16
  go_wp2
  go_ret
  exact ⟨by first | rfl | (simp; done) | (simp [*]; done), by repeat (first | exact Drawn0.refl _ | apply Drawn0.step)⟩
-- NOT PRINTED: function 3 (beadrolllaw02_ShaTells)
-- NOT PRINTED: function 68 (slices_IndexFunc_byte_byte)
-- NOT PRINTED: function 55 (slices_ContainsFunc_byte_byte)
-- NOT PRINTED: function 39 (rows_list)
-- NOT PRINTED: function 17 (rows_Sides)
mutual
def num_Put.j1 : Nat → Int → Int → Option (List Int × Int)
  | 0, _, _ => none
  | k + 1, x0, x1 => if 0 ≤ x1 then (if (x1 : Int).toNat ≤ 281474976710656 then (num_Put.l0 k x0 x1 (List.replicate (x1 : Int).toNat 0) x1 0) else (none)) else (none)
def num_Put.l0 : Nat → Int → Int → List Int → Int → Int → Option (List Int × Int)
  | 0, _, _, _, _, _ => none
  | k + 1, x0, x1, x6, x27, x28 => if x28 < x27 then (if 0 ≤ (wrap64 (8 * x28)) then (if 0 ≤ (wrap64 ((wrap64 (x1 - 1)) - x28)) then (if (wrap64 ((wrap64 (x1 - 1)) - x28)) < (x6.length : Int) then (num_Put.l0 k x0 x1 (x6.set ((wrap64 ((wrap64 (x1 - 1)) - x28)) : Int).toNat ((shr .u64 x0 (wrap64 (8 * x28))) % 256)) x27 (wrap64 (x28 + 1))) else (none)) else (none)) else (none)) else (some (x6, 0))
def num_Put.j0 : Nat → Int → Int → Bool → Option (List Int × Int)
  | 0, _, _, _ => none
  | k + 1, x0, x1, x8 => if x8 = true then (some (([] : List Int), 2)) else (if x1 < 8 then (if 0 ≤ (wrap64 (8 * x1)) then (if (shr .u64 x0 (wrap64 (8 * x1))) > 0 then (some (([] : List Int), 4)) else (num_Put.j1 k x0 x1)) else (none)) else (num_Put.j1 k x0 x1))
end
def num_Put.f (k : Nat) (a0 : Int) (a1 : Int) : Option (List Int × Int) := if a1 < 1 then (num_Put.j0 k a0 a1 true) else (num_Put.j0 k a0 a1 (decide (a1 > 8)))
theorem num_Put.mono_l : ∀ k, (∀ y0 y1, LeO (num_Put.j1 k y0 y1) (num_Put.j1 (k + 1) y0 y1)) ∧ (∀ y0 y1 y2 y3 y4, LeO (num_Put.l0 k y0 y1 y2 y3 y4) (num_Put.l0 (k + 1) y0 y1 y2 y3 y4)) ∧ (∀ y0 y1 y2, LeO (num_Put.j0 k y0 y1 y2) (num_Put.j0 (k + 1) y0 y1 y2))
  | 0 => ⟨fun _ _ r h => by simp [num_Put.j1] at h, fun _ _ _ _ _ r h => by simp [num_Put.l0] at h, fun _ _ _ r h => by simp [num_Put.j0] at h⟩
  | k + 1 => by
    obtain ⟨ih0, ih1, ih2⟩ := num_Put.mono_l k
    refine ⟨?_, ?_, ?_⟩
    · intro y0 y1
      unfold num_Put.j1
      repeat' first
      | (with_reducible exact ih0 _ _)
      | (with_reducible exact ih1 _ _ _ _ _)
      | (with_reducible exact ih2 _ _ _)
      | (with_reducible exact LeO.refl _)
      | (with_reducible exact LeO.none _)
      | (with_reducible refine LeO.ite ?_ ?_)
      | (with_reducible refine LeO.bind ?_ (fun _ => ?_))
      | exact ih0 _ _
      | exact ih1 _ _ _ _ _
      | exact ih2 _ _ _
      | exact LeO.none _
      | refine LeO.ite ?_ ?_
      | refine LeO.bind ?_ (fun _ => ?_)
    · intro y0 y1 y2 y3 y4
      unfold num_Put.l0
      repeat' first
      | (with_reducible exact ih0 _ _)
      | (with_reducible exact ih1 _ _ _ _ _)
      | (with_reducible exact ih2 _ _ _)
      | (with_reducible exact LeO.refl _)
      | (with_reducible exact LeO.none _)
      | (with_reducible refine LeO.ite ?_ ?_)
      | (with_reducible refine LeO.bind ?_ (fun _ => ?_))
      | exact ih0 _ _
      | exact ih1 _ _ _ _ _
      | exact ih2 _ _ _
      | exact LeO.none _
      | refine LeO.ite ?_ ?_
      | refine LeO.bind ?_ (fun _ => ?_)
    · intro y0 y1 y2
      unfold num_Put.j0
      repeat' first
      | (with_reducible exact ih0 _ _)
      | (with_reducible exact ih1 _ _ _ _ _)
      | (with_reducible exact ih2 _ _ _)
      | (with_reducible exact LeO.refl _)
      | (with_reducible exact LeO.none _)
      | (with_reducible refine LeO.ite ?_ ?_)
      | (with_reducible refine LeO.bind ?_ (fun _ => ?_))
      | exact ih0 _ _
      | exact ih1 _ _ _ _ _
      | exact ih2 _ _ _
      | exact LeO.none _
      | refine LeO.ite ?_ ?_
      | refine LeO.bind ?_ (fun _ => ?_)
theorem num_Put.mono : ∀ a0 a1 k, LeO (num_Put.f k a0 a1) (num_Put.f (k + 1) a0 a1) := by
  intro a0 a1 k
  obtain ⟨ih0, ih1, ih2⟩ := num_Put.mono_l k
  unfold num_Put.f
  repeat' first
      | (with_reducible exact ih0 _ _)
      | (with_reducible exact ih1 _ _ _ _ _)
      | (with_reducible exact ih2 _ _ _)
      | (with_reducible exact LeO.refl _)
      | (with_reducible exact LeO.none _)
      | (with_reducible refine LeO.ite ?_ ?_)
      | (with_reducible refine LeO.bind ?_ (fun _ => ?_))
      | exact ih0 _ _
      | exact ih1 _ _ _ _ _
      | exact ih2 _ _ _
      | exact LeO.none _
      | refine LeO.ite ?_ ?_
      | refine LeO.bind ?_ (fun _ => ?_)
set_option maxHeartbeats 8000000 in
set_option maxRecDepth 100000 in
theorem num_Put.calls (k : Nat) (a0 : Int) (a1 : Int) (r1 : List Int) (r2 : Int) (w : World) (h : num_Put.f k a0 a1 = some (r1, r2)) :
    Calls Tryd.prog 72 #[.int .u64 a0, .int .i64 a1] w fun e w' => ∃ v0_ : Value, e = .returned (.tuple #[v0_, .int .i64 r2]) ∧ Kd.R (Kd.int .u8) 5 w' w.heap.size (fun _ => True) v0_ r1 ∧ Below w.heap.size w w' := by
  have HB := Aside0.mk (Below.refl w.heap.size w)
  have H : (if a1 < 1 then (num_Put.j0 k a0 a1 true) else (num_Put.j0 k a0 a1 (decide (a1 > 8)))) = some (r1, r2) := h
  clear h
  have HC3 := Aside0.mk H
  clear H
  go_enter Tryd.func72, Tryd.ntmps72
  go_upto_block 0 with (fail)
  go_cut [] (fun wc => ∃ (kq : Nat), Aside0 (num_Put.j1 kq a0 a1 = some (r1, r2)) ∧ Aside0 (kq ≤ k) ∧ Aside0 (Below w.heap.size w wc))
  case first =>
    have H := HC3.out
    clear HC3
    have HC4 := Aside0.mk H
    clear H
    go_upto_region 1 with (fail)
    go_cut [8] (fun v8 wc => ∃ (kq : Nat) (x8_3 : Bool), v8 = .bool x8_3 ∧ Aside0 (num_Put.j0 kq a0 a1 x8_3 = some (r1, r2)) ∧ Aside0 (kq ≤ k) ∧ Aside0 (Below w.heap.size w wc))
    case first =>
      have H := HC4.out
      clear HC4
      by_cases c5 : a1 < 1
      · rw [if_pos c5] at H
        have c5b0 : decide (a1 < 1) = true := decide_eq_true c5
        clear c5
        (first | rw [c5b0] | (simp only [i64_w, i32_w]; rw [c5b0]) | skip)
        have H' := Aside0.mk H
        clear H
        go_wp2
        go_meet
        case rel => exact ⟨_, (true), (by first | rfl | (simp; done) | (simp [*]; done)), H', ⟨by first | omega | exact Nat.le_refl _⟩, ⟨by repeat (first | (with_reducible first | exact HB.out | apply below_alloc | apply pw_below_drewN | apply below_drew1) | exact HB.out)⟩⟩
      · rw [if_neg c5] at H
        have c5b0 : decide (a1 < 1) = false := decide_eq_false c5
        clear c5
        (first | rw [c5b0] | (simp only [i64_w, i32_w]; rw [c5b0]) | skip)
        have H' := Aside0.mk H
        clear H
        go_wp2
        go_meet
        case rel => exact ⟨_, (decide (a1 > 8)), (by first | rfl | (simp; done) | (simp [*]; done)), H', ⟨by first | omega | exact Nat.le_refl _⟩, ⟨by repeat (first | (with_reducible first | exact HB.out | apply below_alloc | apply pw_below_drewN | apply below_drew1) | exact HB.out)⟩⟩
    case rest =>
      clear HC4
      try clear p2
      try clear c5
      try clear c5b0
      obtain ⟨kq, x8_3, rfl, HA, HJ3, HB⟩ := hcut
      cases kq with
      | zero => exact absurd HA.out (by simp [num_Put.j0])
      | succ kj3 =>
        have H := HA.out
        clear HA
        simp only [num_Put.j0] at H
        by_cases c6 : x8_3 = true
        · subst c6
          have H1 : (some (([] : List Int), 2)) = some (r1, r2) := by rw [if_pos rfl] at H; exact H
          clear H
          have H := H1
          clear H1
          simp only [Option.some.injEq, Prod.mk.injEq] at H
          obtain ⟨rfl, rfl⟩ := H
          go_wp2
          go_ret2
          exact ⟨_, by first | rfl | (simp [errW_none, errW_some] <;> rfl) | (simp [*, errW_none, errW_some] <;> rfl), by first | exact Kd.R_nil _ _ _ _ _ | exact Kd.N_nil _ _ _ _ _ | exact Kd.V_nil _ _ _ _ _ | exact Kd.Q_nil _ _ _ _ _ | exact Kd.S_nil _ _ _ _ _, by repeat (first | (with_reducible first | exact HB.out | apply below_alloc | apply pw_below_drewN | apply below_drew1) | exact HB.out)⟩
        · replace c6 := Bool.eq_false_iff.mpr c6
          subst c6
          have H1 : (if a1 < 8 then (if 0 ≤ (wrap64 (8 * a1)) then (if (shr .u64 a0 (wrap64 (8 * a1))) > 0 then (some (([] : List Int), 4)) else (num_Put.j1 kj3 a0 a1)) else (none)) else (num_Put.j1 kj3 a0 a1)) = some (r1, r2) := by rw [if_neg (show ¬ (false = true) by decide)] at H; exact H
          clear H
          have H := H1
          clear H1
          by_cases c7 : a1 < 8
          · rw [if_pos c7] at H
            have c7b0 : decide (a1 < 8) = true := decide_eq_true c7
            clear c7
            obtain ⟨ji8, hji8⟩ : ∃ j_ : Int, (wrap64 (8 * a1)) = j_ := ⟨_, rfl⟩
            replace H : (if 0 ≤ (ji8) then (if (shr .u64 a0 (ji8)) > 0 then (some (([] : List Int), 4)) else (num_Put.j1 kj3 a0 a1)) else (none)) = some (r1, r2) := by first | (rw [hji8] at H; exact H) | (simp only [hji8] at H ⊢; exact H)
            have hji8w : (IntKind.i64.wrap (8 * a1)) = ji8 := (i64_w _).trans hji8
            by_cases c9 : 0 ≤ (ji8)
            · rw [if_pos c9] at H
              have c9b0 := eq_true c9
              have c9b1 : decide (0 ≤ (ji8)) = true := decide_eq_true c9
              clear c9
              obtain ⟨ji10, hji10⟩ : ∃ j_ : Int, (shr .u64 a0 (ji8)) = j_ := ⟨_, rfl⟩
              replace H : (if (ji10) > 0 then (some (([] : List Int), 4)) else (num_Put.j1 kj3 a0 a1)) = some (r1, r2) := by first | (rw [hji10] at H; exact H) | (simp only [hji10] at H ⊢; exact H)
              have hji10_ : (a0 / 2 ^ min (ji8).toNat 64) = ji10 := hji10
              have hji10z : (ji8) ≤ 64 → (a0 / 2 ^ (ji8).toNat) = ji10 := shr_small hji10
              by_cases c11 : (ji10) > 0
              · rw [if_pos c11] at H
                have c11b0 : decide (0 < (ji10)) = true := decide_eq_true c11
                clear c11
                simp only [Option.some.injEq, Prod.mk.injEq] at H
                obtain ⟨rfl, rfl⟩ := H
                go_wp2
                go_ret2
                exact ⟨_, by first | rfl | (simp [errW_none, errW_some] <;> rfl) | (simp only [← hji8, ← hji10]; first | rfl | (simp [errW_none, errW_some] <;> rfl)) | (simp [*, errW_none, errW_some] <;> rfl), by first | exact Kd.R_nil _ _ _ _ _ | exact Kd.N_nil _ _ _ _ _ | exact Kd.V_nil _ _ _ _ _ | exact Kd.Q_nil _ _ _ _ _ | exact Kd.S_nil _ _ _ _ _, by repeat (first | (with_reducible first | exact HB.out | apply below_alloc | apply pw_below_drewN | apply below_drew1) | exact HB.out)⟩
              · rw [if_neg c11] at H
                have c11b0 : decide (0 < (ji10)) = false := decide_eq_false c11
                clear c11
                have H' := Aside0.mk H
                clear H
                go_wp2
                go_meet
                case rel => exact ⟨_, H', ⟨by have := HJ3.out; first | omega | exact Nat.le_refl _⟩, ⟨by repeat (first | (with_reducible first | exact HB.out | apply below_alloc | apply pw_below_drewN | apply below_drew1) | exact HB.out)⟩⟩
            · rw [if_neg c9] at H
              exact absurd H (by simp)
          · rw [if_neg c7] at H
            have c7b0 : decide (a1 < 8) = false := decide_eq_false c7
            clear c7
            have H' := Aside0.mk H
            clear H
            go_wp2
            go_meet
            case rel => exact ⟨_, H', ⟨by have := HJ3.out; first | omega | exact Nat.le_refl _⟩, ⟨by repeat (first | (with_reducible first | exact HB.out | apply below_alloc | apply pw_below_drewN | apply below_drew1) | exact HB.out)⟩⟩
  case rest =>
    clear HC3
    try clear c1
    try clear p2
    try clear c5
    try clear c5b0
    try clear c6
    try clear p6
    try clear c7
    try clear c7b0
    try clear c9
    try clear c9b0
    try clear c9b1
    try clear c11
    try clear c11b0
    try clear p2
    obtain ⟨kq, HA, HJ2, HB⟩ := hcut
    cases kq with
    | zero => exact absurd HA.out (by simp [num_Put.j1])
    | succ kj2 =>
      have H := HA.out
      clear HA
      simp only [num_Put.j1] at H
      by_cases c12 : 0 ≤ a1
      · rw [if_pos c12] at H
        have c12b0 := eq_true c12
        have c12b1 : decide (0 ≤ a1) = true := decide_eq_true c12
        clear c12
        by_cases c13 : (a1 : Int).toNat ≤ 281474976710656
        · rw [if_pos c13] at H
          have c13b0 := eq_true c13
          have c13b1 : decide ((a1 : Int).toNat ≤ 281474976710656) = true := decide_eq_true c13
          clear c13
          obtain ⟨y126, hy126⟩ : ∃ y_ : List Int, y_ = (List.replicate (a1 : Int).toNat 0) := ⟨_, rfl⟩
          replace H : (num_Put.l0 kj2 a0 a1 y126 a1 0) = some (r1, r2) := by first | (rw [hy126]; with_reducible exact H) | (have H2_ := (Option.bind_some _ _).symm.trans H; rw [hy126]; with_reducible exact H2_) | (have H2_ := (Option.bind_some _ _).symm.trans H; with_reducible exact H2_) | with_reducible exact H | (rw [hy126]; exact H) | exact H
          have Ny126 := Aside0.mk hy126
          clear hy126
          have H' := Aside0.mk H
          clear H
          go_wp2_with (first | ((with_reducible refine gate_dst (N := 26) rfl ?_); refine Kd.R_make (Kd.int .u8) _ 5 rfl (N := 26) rfl 22 _ _ rfl a1 rfl rfl Tryd.underlying22 (.int .u8 0) 1 info5 rfl (by decide) (by omega) 0 (ok := fun _ => True) (okp := fun _ => True) rfl (fun _ hk => hk) trivial (of_decide_eq_true (by first | (with_reducible assumption) | assumption)) (Nat.le_trans (Nat.mul_le_mul_right _ (of_decide_eq_true (by first | (with_reducible assumption) | assumption) : a1.toNat ≤ 281474976710656)) (by omega)) (Below.refl _ _) (Nat.le_refl _) ?_; intro v127 w14 ho15 hb hg_ hnew_; clear hg_ hnew_; (first | rw [← Ny126.out] at ho15 | (simp only [Int.reduceToNat] at ho15; rw [← Ny126.out] at ho15)); have n0_ := Aside0.mk (Kd.R_lower ho15 (below_size (by repeat (first | (with_reducible first | exact HB.out | apply below_alloc | apply pw_below_drewN | apply below_drew1) | exact HB.out)))); have n1_ := Aside0.mk (below_step (by repeat (first | (with_reducible first | exact HB.out | apply below_alloc | apply pw_below_drewN | apply below_drew1) | exact HB.out)) hb); clear HB; have HO128 := n0_; have HB := n1_; clear n0_ n1_; clear hb ho15))
          go_loopg [28] kj2 (fun kq v28 w' => ∃ (x6_2 : List Int) (x28_2 : Int), v28 = .int .i64 x28_2 ∧ Aside0 (num_Put.l0 kq a0 a1 x6_2 a1 x28_2 = some (r1, r2)) ∧ Aside0 (kq ≤ kj2) ∧ Aside0 (Kd.R (Kd.int .u8) 5 w' w.heap.size (fun _ => True) v127 x6_2) ∧ Aside0 (Below w.heap.size w w'))
          case atStart => exact ⟨(y126), (0), (by first | rfl | (simp; done) | (simp [*]; done)), H', ⟨Nat.le_refl _⟩, ⟨by (with_reducible repeat (first | apply Kd.R_alloc | apply Kd.R_drewN | apply Kd.R_drew)); exact HO128.out⟩, ⟨by repeat (first | (with_reducible first | exact HB.out | apply below_alloc | apply pw_below_drewN | apply below_drew1) | exact HB.out)⟩⟩
          case round =>
            clear H'
            try clear c1
            try clear p2
            try clear c5
            try clear c5b0
            try clear c6
            try clear p6
            try clear c7
            try clear c7b0
            try clear c9
            try clear c9b0
            try clear c9b1
            try clear c11
            try clear c11b0
            try clear c12
            try clear c12b0
            try clear c12b1
            try clear c13
            try clear c13b0
            try clear c13b1
            try clear p2
            try clear p6
            obtain ⟨x6_2, x28_2, rfl, HA, HK2, HO_6, HB⟩ := hrel
            cases gk with
            | zero => exact absurd HA.out (by simp [num_Put.l0])
            | succ k2 =>
              have H := HA.out
              clear HA
              simp only [num_Put.l0] at H
              by_cases c16 : x28_2 < a1
              · rw [if_pos c16] at H
                have c16b0 : decide (x28_2 < a1) = true := decide_eq_true c16
                clear c16
                obtain ⟨ji17, hji17⟩ : ∃ j_ : Int, (wrap64 (8 * x28_2)) = j_ := ⟨_, rfl⟩
                replace H : (if 0 ≤ (ji17) then (if 0 ≤ (wrap64 ((wrap64 (a1 - 1)) - x28_2)) then (if (wrap64 ((wrap64 (a1 - 1)) - x28_2)) < (x6_2.length : Int) then (num_Put.l0 k2 a0 a1 (x6_2.set ((wrap64 ((wrap64 (a1 - 1)) - x28_2)) : Int).toNat ((shr .u64 a0 (ji17)) % 256)) a1 (wrap64 (x28_2 + 1))) else (none)) else (none)) else (none)) = some (r1, r2) := by first | (rw [hji17] at H; exact H) | (simp only [hji17] at H ⊢; exact H)
                have hji17w : (IntKind.i64.wrap (8 * x28_2)) = ji17 := (i64_w _).trans hji17
                by_cases c18 : 0 ≤ (ji17)
                · rw [if_pos c18] at H
                  have c18b0 := eq_true c18
                  have c18b1 : decide (0 ≤ (ji17)) = true := decide_eq_true c18
                  clear c18
                  obtain ⟨ji19, hji19⟩ : ∃ j_ : Int, (shr .u64 a0 (ji17)) = j_ := ⟨_, rfl⟩
                  replace H : (if 0 ≤ (wrap64 ((wrap64 (a1 - 1)) - x28_2)) then (if (wrap64 ((wrap64 (a1 - 1)) - x28_2)) < (x6_2.length : Int) then (num_Put.l0 k2 a0 a1 (x6_2.set ((wrap64 ((wrap64 (a1 - 1)) - x28_2)) : Int).toNat ((ji19) % 256)) a1 (wrap64 (x28_2 + 1))) else (none)) else (none)) = some (r1, r2) := by first | (rw [hji19] at H; exact H) | (simp only [hji19] at H ⊢; exact H)
                  have hji19_ : (a0 / 2 ^ min (ji17).toNat 64) = ji19 := hji19
                  have hji19z : (ji17) ≤ 64 → (a0 / 2 ^ (ji17).toNat) = ji19 := shr_small hji19
                  obtain ⟨ji20, hji20⟩ : ∃ j_ : Int, (wrap64 ((wrap64 (a1 - 1)) - x28_2)) = j_ := ⟨_, rfl⟩
                  replace H : (if 0 ≤ (ji20) then (if (ji20) < (x6_2.length : Int) then (num_Put.l0 k2 a0 a1 (x6_2.set ((ji20) : Int).toNat ((ji19) % 256)) a1 (wrap64 (x28_2 + 1))) else (none)) else (none)) = some (r1, r2) := by first | (rw [hji20] at H; exact H) | (simp only [hji20] at H ⊢; exact H)
                  have hji20w : (IntKind.i64.wrap ((wrap64 (a1 - 1)) - x28_2)) = ji20 := (i64_w _).trans hji20
                  by_cases c21 : 0 ≤ (ji20)
                  · rw [if_pos c21] at H
                    have c21b0 : decide (0 ≤ (ji20)) = true := decide_eq_true c21
                    clear c21
                    by_cases c22 : (ji20) < (x6_2.length : Int)
                    · rw [if_pos c22] at H
                      have c22b0 : decide ((ji20) < (x6_2.length : Int)) = true := decide_eq_true c22
                      clear c22
                      obtain ⟨y129, hy129⟩ : ∃ y_ : List Int, y_ = (x6_2.set ((ji20) : Int).toNat ((ji19) % 256)) := ⟨_, rfl⟩
                      replace H : (num_Put.l0 k2 a0 a1 y129 a1 (wrap64 (x28_2 + 1))) = some (r1, r2) := by first | (rw [hy129]; with_reducible exact H) | (have H2_ := (Option.bind_some _ _).symm.trans H; rw [hy129]; with_reducible exact H2_) | (have H2_ := (Option.bind_some _ _).symm.trans H; with_reducible exact H2_) | with_reducible exact H | (rw [hy129]; exact H) | exact H
                      have Ny129 := Aside0.mk hy129
                      clear hy129
                      have H' := Aside0.mk H
                      clear H
                      have p23 : 0 ≤ ((ji20) : Int) := of_decide_eq_true (by first | (with_reducible assumption) | assumption)
                      have q23 : ((ji20) : Int) < ((x6_2.length : Int) : Int) := of_decide_eq_true (by first | (with_reducible assumption) | assumption)
                      obtain ⟨go23, co23, eo23, gb23, gl23, cl23, HG23⟩ := Kd.R_form HO_6.out (by omega)
                      (first | cases eo23 | (injection eo23 with ea_ en_ ec_; (first | subst ea_ | (injection ea_ with ea_; subst ea_)); subst ec_; clear en_))
                      have GB23 := Aside0.mk gb23
                      have GG23 := Aside0.mk HG23
                      clear gb23 gl23 HG23
                      obtain ⟨hx23_0, hf23_0⟩ := Kd.R_celln 0 HO_6.out ((ji20) : Int) p23 q23
                      replace p23 := eq_true p23
                      replace q23 := eq_true q23
                      have HP24 := Kd.R_putg HO_6.out ((ji20) : Int) ((ji19) % 256)
                      go_wp2_with (first | ((with_reducible refine gate_store (t := 5) (p := 41) rfl ?_); refine store_event (t := 5) (p := 41) (v := ?vo_w25) (w1 := (wr.setCell ⟨go23, ((ji20) : Int).toNat, none⟩ (.int .u8 ((ji19) % 256)))) ?hg ?ho ?hn ?hr ?_; (case ho => rfl); (case hg => rfl); (case hn => rfl); (case hr => first | (go_simp; done) | (go_simp; rfl)); intro w25 hw; have hg : wr.grownBy w25 (some go23) := (by rw [hw]; exact HP24.2); have hp_ : Kd.R (Kd.int .u8) 5 w25 w.heap.size (fun _ => True) (.slice (some ⟨go23, 0, none⟩) x6_2.length co23) y129 := (by rw [hw, Ny129.out]; exact HP24.1); clear HP24; have n0_ := Aside0.mk (hp_); have n1_ := Aside0.mk ((by rw [hw]; exact below_set (HB.out) GB23.out : Below w.heap.size w w25)); clear HO_6; clear HB; have HO_6 := n0_; have HB := n1_; clear n0_ n1_; clear hg hw hp_))
                      go_roundg k2
                      case measure => have := HJ2.out; have := HK2.out; omega
                      case rel => exact ⟨(y129), (wrap64 (x28_2 + 1)), (by first | rfl | (simp; done) | (simp [*]; done)), H', ⟨by have := HJ2.out; have := HK2.out; omega⟩, ⟨by (with_reducible repeat (first | apply Kd.R_alloc | apply Kd.R_drewN | apply Kd.R_drew)); exact HO_6.out⟩, ⟨by repeat (first | (with_reducible first | exact HB.out | apply below_alloc | apply pw_below_drewN | apply below_drew1) | exact HB.out)⟩⟩
                    · rw [if_neg c22] at H
                      exact absurd H (by simp)
                  · rw [if_neg c21] at H
                    exact absurd H (by simp)
                · rw [if_neg c18] at H
                  exact absurd H (by simp)
              · rw [if_neg c16] at H
                have c16b0 : decide (x28_2 < a1) = false := decide_eq_false c16
                clear c16
                simp only [Option.some.injEq, Prod.mk.injEq] at H
                obtain ⟨rfl, rfl⟩ := H
                go_wp2
                go_ret2
                exact ⟨_, by first | rfl | (simp [errW_none, errW_some] <;> rfl) | (simp [*, errW_none, errW_some] <;> rfl), by (with_reducible repeat (first | apply Kd.R_alloc | apply Kd.R_drewN | apply Kd.R_drew)); exact HO_6.out, by repeat (first | (with_reducible first | exact HB.out | apply below_alloc | apply pw_below_drewN | apply below_drew1) | exact HB.out)⟩
        · rw [if_neg c13] at H
          exact absurd H (by simp)
      · rw [if_neg c12] at H
        exact absurd H (by simp)
def tag_Bytes.l0 : Nat → List Int → List (List Int) → Int → Int → Option (List Int)
  | 0, _, _, _, _ => none
  | k + 1, x5, x12, x13, x14 => if x14 < x13 then (if 0 ≤ x14 then (if x14 < (x12.length : Int) then ((num_Put.f k ((((rd_L1 x12 x14).length : Int)) % 4294967296) 4).bind fun bt134 => (if x5.length + bt134.1.length < 140737488355328 then ((some (x5 ++ bt134.1 : List Int)).bind fun y138 => (if y138.length + (rd_L1 x12 x14).length < 140737488355328 then (tag_Bytes.l0 k (y138 ++ (rd_L1 x12 x14)) x12 x13 (wrap64 (x14 + 1))) else (none))) else (none))) else (none)) else (none)) else (some x5)
def tag_Bytes.f (k : Nat) (a0 : Int) (l1 : List (List Int)) : Option (List Int) := tag_Bytes.l0 k (([a0] : List Int)) l1 (l1.length : Int) 0
theorem tag_Bytes.mono_l : ∀ k, (∀ y0 y1 y2 y3, LeO (tag_Bytes.l0 k y0 y1 y2 y3) (tag_Bytes.l0 (k + 1) y0 y1 y2 y3))
  | 0 => fun _ _ _ _ r h => by simp [tag_Bytes.l0] at h
  | k + 1 => by
    have ih0 := tag_Bytes.mono_l k
    · intro y0 y1 y2 y3
      unfold tag_Bytes.l0
      repeat' first
      | (with_reducible exact ih0 _ _ _ _)
      | (with_reducible exact num_Put.mono _ _ _)
      | (with_reducible exact LeO.refl _)
      | (with_reducible exact LeO.none _)
      | (with_reducible refine LeO.ite ?_ ?_)
      | (with_reducible refine LeO.bind ?_ (fun _ => ?_))
      | exact ih0 _ _ _ _
      | exact num_Put.mono _ _ _
      | exact LeO.none _
      | refine LeO.ite ?_ ?_
      | refine LeO.bind ?_ (fun _ => ?_)
theorem tag_Bytes.mono : ∀ a0 a1 k, LeO (tag_Bytes.f k a0 a1) (tag_Bytes.f (k + 1) a0 a1) := by
  intro a0 a1 k
  have ih0 := tag_Bytes.mono_l k
  unfold tag_Bytes.f
  repeat' first
      | (with_reducible exact ih0 _ _ _ _)
      | (with_reducible exact num_Put.mono _ _ _)
      | (with_reducible exact LeO.refl _)
      | (with_reducible exact LeO.none _)
      | (with_reducible refine LeO.ite ?_ ?_)
      | (with_reducible refine LeO.bind ?_ (fun _ => ?_))
      | exact ih0 _ _ _ _
      | exact num_Put.mono _ _ _
      | exact LeO.none _
      | refine LeO.ite ?_ ?_
      | refine LeO.bind ?_ (fun _ => ?_)
set_option maxHeartbeats 8000000 in
set_option maxRecDepth 100000 in
theorem tag_Bytes.calls (k : Nat) (a0 : Int) (A1 : Option Addr) (c1 : Nat) (l1 : List (List Int)) (r : List Int) (w : World) (hr1 : Kd.C (Kd.slice 5 (Kd.int .u8)) w A1 l1.length l1) (hc1 : l1.length ≤ c1) (h : tag_Bytes.f k a0 l1 = some r) :
    Calls Tryd.prog 60 #[.int .u8 a0, .slice A1 l1.length c1] w fun e w' => ∃ v0_ : Value, e = .returned (v0_) ∧ Kd.R (Kd.int .u8) 5 w' w.heap.size (fun _ => True) v0_ r ∧ Below w.heap.size w w' := by
  have HR1 := Aside0.mk hr1
  have HC1 := Aside0.mk hc1
  clear hr1 hc1
  have HB := Aside0.mk (Below.refl w.heap.size w)
  have H : (tag_Bytes.l0 k (([a0] : List Int)) l1 (l1.length : Int) 0) = some r := h
  clear h
  obtain ⟨y130, hy130⟩ : ∃ y_ : List Int, y_ = (([a0] : List Int)) := ⟨_, rfl⟩
  replace H : (tag_Bytes.l0 k y130 l1 (l1.length : Int) 0) = some r := by first | (rw [hy130]; with_reducible exact H) | (have H2_ := (Option.bind_some _ _).symm.trans H; rw [hy130]; with_reducible exact H2_) | (have H2_ := (Option.bind_some _ _).symm.trans H; with_reducible exact H2_) | with_reducible exact H | (rw [hy130]; exact H) | exact H
  have Ny130 := Aside0.mk hy130
  clear hy130
  have H' := Aside0.mk H
  clear H
  go_enter Tryd.func60, Tryd.ntmps60
  go_wp2_with (first | ((with_reducible refine gate_dst (N := 11) rfl ?_); refine Kd.R_lit (Kd.int .u8) _ 5 ?hg (N := 11) ?hd (xs := ([a0] : List Int)) (inner := [.int .u8 a0]) (ok := fun _ => True) (okp := fun _ => True) ?hr ?hp (fun _ hk => hk) trivial (Below.refl _ _) (Nat.le_refl _) (by simp) ?_; (case hd => rfl); (case hg => rfl); (case hr => first | (go_simp; done) | (go_simp; rfl)); (case hp => exact (Reps.one (show Kd.M (Kd.int .u8) _ _ _ a0 [.int .u8 a0] from rfl) (Reps.none _ _))); intro v131 w3 ho4 hb hg_ hnew_; clear hg_ hnew_; (first | rw [← Ny130.out] at ho4 | (simp only [Int.reduceToNat] at ho4; rw [← Ny130.out] at ho4)); have n0_ := Aside0.mk (Kd.R_lower ho4 (below_size (by repeat (first | (with_reducible first | exact HB.out | apply below_alloc | apply pw_below_drewN | apply below_drew1) | exact HB.out)))); have n1_ := Aside0.mk (below_step (by repeat (first | (with_reducible first | exact HB.out | apply below_alloc | apply pw_below_drewN | apply below_drew1) | exact HB.out)) hb); clear HB; have HO132 := n0_; have HB := n1_; clear n0_ n1_; clear hb ho4))
  go_loopg [5, 14] k (fun kq v5 v14 w' => ∃ (x5_1 : List Int) (x14_1 : Int), v14 = .int .i64 x14_1 ∧ Aside0 (tag_Bytes.l0 kq x5_1 l1 (l1.length : Int) x14_1 = some r) ∧ Aside0 (kq ≤ k) ∧ Aside0 (Kd.R (Kd.int .u8) 5 w' w.heap.size (fun _ => True) v5 x5_1) ∧ Aside0 (Below w.heap.size w w'))
  case atStart => exact ⟨(y130), (0), (by first | rfl | (simp; done) | (simp [*]; done)), H', ⟨Nat.le_refl _⟩, ⟨by (with_reducible repeat (first | apply Kd.R_alloc | apply Kd.R_drewN | apply Kd.R_drew)); exact HO132.out⟩, ⟨by repeat (first | (with_reducible first | exact HB.out | apply below_alloc | apply pw_below_drewN | apply below_drew1) | exact HB.out)⟩⟩
  case round =>
    clear H'
    try clear c1
    try clear p2
    obtain ⟨x5_1, x14_1, rfl, HA, HK1, HO_5, HB⟩ := hrel
    cases gk with
    | zero => exact absurd HA.out (by simp [tag_Bytes.l0])
    | succ k1 =>
      have H := HA.out
      clear HA
      simp only [tag_Bytes.l0] at H
      by_cases c5 : x14_1 < (l1.length : Int)
      · rw [if_pos c5] at H
        have c5b0 : decide (x14_1 < (l1.length : Int)) = true := decide_eq_true c5
        clear c5
        by_cases c6 : 0 ≤ x14_1
        · rw [if_pos c6] at H
          have c6b0 : decide (0 ≤ x14_1) = true := decide_eq_true c6
          clear c6
          by_cases c7 : x14_1 < (l1.length : Int)
          · rw [if_pos c7] at H
            have c7b0 : decide (x14_1 < (l1.length : Int)) = true := decide_eq_true c7
            clear c7
            replace H := Option.bind_eq_some_iff.mp H
            obtain ⟨⟨t134, t135⟩, A80, H⟩ := H
            replace H : (if x5_1.length + t134.length < 140737488355328 then ((some (x5_1 ++ t134 : List Int)).bind fun y138 => (if y138.length + (rd_L1 l1 x14_1).length < 140737488355328 then (tag_Bytes.l0 k1 (y138 ++ (rd_L1 l1 x14_1)) l1 (l1.length : Int) (wrap64 (x14_1 + 1))) else (none))) else (none)) = some r := H
            have A8 := Aside0.mk A80
            clear A80
            by_cases c9 : x5_1.length + t134.length < 140737488355328
            · rw [if_pos c9] at H
              have LMc9 := Aside0.mk c9
              clear c9
              obtain ⟨y138, hy138⟩ : ∃ y_ : List Int, y_ = (x5_1 ++ t134) := ⟨_, rfl⟩
              replace H : (if y138.length + (rd_L1 l1 x14_1).length < 140737488355328 then (tag_Bytes.l0 k1 (y138 ++ (rd_L1 l1 x14_1)) l1 (l1.length : Int) (wrap64 (x14_1 + 1))) else (none)) = some r := by first | (rw [hy138]; with_reducible exact H) | (have H2_ := (Option.bind_some _ _).symm.trans H; rw [hy138]; with_reducible exact H2_) | (have H2_ := (Option.bind_some _ _).symm.trans H; with_reducible exact H2_) | with_reducible exact H | (rw [hy138]; exact H) | exact H
              have Ny138 := Aside0.mk hy138
              clear hy138
              by_cases c10 : y138.length + (rd_L1 l1 x14_1).length < 140737488355328
              · rw [if_pos c10] at H
                have LMc10 := Aside0.mk c10
                clear c10
                obtain ⟨y141, hy141⟩ : ∃ y_ : List Int, y_ = (y138 ++ (rd_L1 l1 x14_1)) := ⟨_, rfl⟩
                replace H : (tag_Bytes.l0 k1 y141 l1 (l1.length : Int) (wrap64 (x14_1 + 1))) = some r := by first | (rw [hy141]; with_reducible exact H) | (have H2_ := (Option.bind_some _ _).symm.trans H; rw [hy141]; with_reducible exact H2_) | (have H2_ := (Option.bind_some _ _).symm.trans H; with_reducible exact H2_) | with_reducible exact H | (rw [hy141]; exact H) | exact H
                have Ny141 := Aside0.mk hy141
                clear hy141
                have H' := Aside0.mk H
                clear H
                have p133 : 0 ≤ (x14_1 : Int) := of_decide_eq_true (by first | (with_reducible assumption) | assumption)
                have q133 : x14_1 < (l1.length : Int) := of_decide_eq_true (by first | (with_reducible assumption) | assumption)
                obtain ⟨ad133, A133_0, c133_0, e133, hx133_0, hl133_0, hi133_0⟩ := at_L1 HR1.out x14_1 p133 q133
                cases e133
                replace hx133_0 := (HB.out.cell (World.block_lt_of_cell? w _ hx133_0)).trans hx133_0
                have HR133_0 := Aside0.mk hi133_0
                have HC133_0 := Aside0.mk hl133_0
                clear hi133_0 hl133_0
                replace p133 := eq_true p133
                replace q133 := eq_true q133
                go_wp2_with (first | ((with_reducible refine gate_callee (f := 72) rfl ?_); refine goesL_ (some 23) rfl rfl Tryd.func72 (by kernel_rfl) rfl #[.int .u64 ((((rd_L1 l1 x14_1).length : Int)) % 4294967296), .int .i64 4] rfl (by (try simp only [List.map_toArray, List.map_cons, List.map_nil]); first | done | rfl | (simp only [List.length_drop, List.length_take]; rfl)) ?_; (with_reducible refine (num_Put.calls k1 ((((rd_L1 l1 x14_1).length : Int)) % 4294967296) 4 t134 t135 _ A8.out).mono ?_); rintro e w11 ⟨v136, rfl, ho0, hb⟩; refine ⟨_, rfl, ?_⟩; have n0_ := Aside0.mk (Kd.R_elder' (by (with_reducible repeat (first | apply Kd.R_alloc | apply Kd.R_drewN | apply Kd.R_drew)); exact HO_5.out) (Kd.R_base ho0) hb); have n1_ := Aside0.mk (Kd.R_lower (Kd.R_new' ho0 (Kd.R_lt (by (with_reducible repeat (first | apply Kd.R_alloc | apply Kd.R_drewN | apply Kd.R_drew)); exact HO_5.out))) (below_size (by repeat (first | (with_reducible first | exact HB.out | apply below_alloc | apply pw_below_drewN | apply below_drew1) | exact HB.out)))); have n2_ := Aside0.mk (below_step (by repeat (first | (with_reducible first | exact HB.out | apply below_alloc | apply pw_below_drewN | apply below_drew1) | exact HB.out)) hb); clear HO_5; clear HB; have HO_5 := n0_; have HO137 := n1_; have HB := n2_; clear n0_ n1_ n2_; (try clear hb); (try clear hb2); (try clear hk); (try clear hi); (try clear ho0); obtain ⟨Ao13, co13, eo13⟩ := Kd.R_slice HO137.out; subst eo13) | ((with_reducible refine gate_builtin (b := .append) (xs := #[.tmp 26, .tmp 27]) rfl ?_); at_builtin; refine Kd.R_append_rows (Kd.int .u8) (w0 := w) w.heap.size rfl (.tmp 26) (.tmp 27) 22 5 (.int .u8 0) 1 rfl Tryd.underlying22 info5 rfl (by decide) (by omega) u5 x5_1 t134 _ _ _ (fun k_ => some k_ ≠ (.slice Ao13 t134.length co13 : Value).ownBlock) (fun _ => False) rfl rfl ?aO ?aR (fun _ _ h => h) (fun _ h => h.elim) ?aF ?aB ?aS ?aL ?_; (case aR => repeat (first | exact (Kd.R_reads' HO137.out).2.2 | (with_reducible refine Kd.C_alloc ?_ _) | (with_reducible refine Kd.C_drewN ?_ _) | (with_reducible refine Kd.C_drew ?_))); (case aB => exact (by repeat (first | (with_reducible first | exact HB.out | apply below_alloc | apply pw_below_drewN | apply below_drew1) | exact HB.out))); (case aF => exact (fun k_ hk => Kd.fresh' (Kd.R_lt (by (with_reducible repeat (first | apply Kd.R_alloc | apply Kd.R_drewN | apply Kd.R_drew)); exact HO137.out)) k_ hk)); (case aO => exact (by (with_reducible repeat (first | apply Kd.R_alloc | apply Kd.R_drewN | apply Kd.R_drew)); exact Kd.R_mono HO_5.out (fun _ hk => hk.2))); (case aS => exact (below_size (by repeat (first | (with_reducible first | exact HB.out | apply below_alloc | apply pw_below_drewN | apply below_drew1) | exact HB.out)))); (case aL => have := LMc9.out; omega); intro v139 w12 ho hb hg hat; rw [← Ny138.out] at ho; have n0_ := Aside0.mk (Kd.R_after (ok := (fun _ => True)) (by (with_reducible repeat (first | apply Kd.R_alloc | apply Kd.R_drewN | apply Kd.R_drew)); exact HO137.out) hg hat); have n1_ := Aside0.mk (hb); have n2_ := Aside0.mk (ho); clear HO137; clear HB; clear HO_5; have HO137 := n0_; have HB := n1_; have HO140 := n2_; clear n0_ n1_ n2_; clear ho hb hg hat) | ((with_reducible refine gate_builtin (b := .append) (xs := #[.tmp 28, .tmp 29]) rfl ?_); at_builtin; refine Kd.R_append_rows (Kd.int .u8) (w0 := w) w.heap.size rfl (.tmp 28) (.tmp 29) 22 5 (.int .u8 0) 1 rfl Tryd.underlying22 info5 rfl (by decide) (by omega) v139 y138 (rd_L1 l1 x14_1) _ _ _ (fun k_ => some k_ ≠ (.slice Ao13 t134.length co13 : Value).ownBlock) (fun _ => False) rfl rfl ?aO ?aR (fun _ _ h => h) (fun _ h => h.elim) ?aF ?aB ?aS ?aL ?_; (case aR => repeat (first | exact (Kd.C_below HR133_0.out HB.out) | (with_reducible refine Kd.C_alloc ?_ _) | (with_reducible refine Kd.C_drewN ?_ _) | (with_reducible refine Kd.C_drew ?_))); (case aB => exact (by repeat (first | (with_reducible first | exact HB.out | apply below_alloc | apply pw_below_drewN | apply below_drew1) | exact HB.out))); (case aF => exact (fun k_ hk => Kd.fresh' (Kd.R_lt (by (with_reducible repeat (first | apply Kd.R_alloc | apply Kd.R_drewN | apply Kd.R_drew)); exact HO137.out)) k_ hk)); (case aO => exact (by (with_reducible repeat (first | apply Kd.R_alloc | apply Kd.R_drewN | apply Kd.R_drew)); exact HO140.out)); (case aS => exact (below_size (by repeat (first | (with_reducible first | exact HB.out | apply below_alloc | apply pw_below_drewN | apply below_drew1) | exact HB.out)))); (case aL => have := LMc10.out; omega); intro v142 w14 ho hb hg hat; rw [← Ny141.out] at ho; have n0_ := Aside0.mk (Kd.R_after (ok := (fun _ => True)) (by (with_reducible repeat (first | apply Kd.R_alloc | apply Kd.R_drewN | apply Kd.R_drew)); exact HO137.out) hg hat); have n1_ := Aside0.mk (hb); have n2_ := Aside0.mk (ho); clear HO137; clear HB; clear HO140; have HO137 := n0_; have HB := n1_; have HO143 := n2_; clear n0_ n1_ n2_; clear ho hb hg hat))
                go_roundg k1
                case measure => have := HK1.out; omega
                case rel => exact ⟨(y141), (wrap64 (x14_1 + 1)), (by first | rfl | (simp; done) | (simp [*]; done)), H', ⟨by have := HK1.out; omega⟩, ⟨by (with_reducible repeat (first | apply Kd.R_alloc | apply Kd.R_drewN | apply Kd.R_drew)); exact Kd.R_mono HO143.out (fun _ hk => trivial)⟩, ⟨by repeat (first | (with_reducible first | exact HB.out | apply below_alloc | apply pw_below_drewN | apply below_drew1) | exact HB.out)⟩⟩
              · rw [if_neg c10] at H
                exact absurd H (by simp)
            · rw [if_neg c9] at H
              exact absurd H (by simp)
          · rw [if_neg c7] at H
            exact absurd H (by simp)
        · rw [if_neg c6] at H
          exact absurd H (by simp)
      · rw [if_neg c5] at H
        have c5b0 : decide (x14_1 < (l1.length : Int)) = false := decide_eq_false c5
        clear c5
        obtain rfl := Option.some.inj H
        go_wp2
        go_ret
        exact ⟨_, by first | rfl | (simp [errW_none, errW_some] <;> rfl) | (simp [*, errW_none, errW_some] <;> rfl), by (with_reducible repeat (first | apply Kd.R_alloc | apply Kd.R_drewN | apply Kd.R_drew)); exact HO_5.out, by repeat (first | (with_reducible first | exact HB.out | apply below_alloc | apply pw_below_drewN | apply below_drew1) | exact HB.out)⟩
-- NOT PRINTED: function 44 (tag_Of)
-- NOT PRINTED: function 45 (tag_None)
-- NOT PRINTED: function 58 (rows_halves)
-- NOT PRINTED: function 42 (rows_root)
-- NOT PRINTED: function 19 (rows_Root)
def rows_front.f (a0 : Int) : Option (Int) := (bits_Len.f (IntKind.u64.wrap (wrap64 (a0 - 1)))).bind fun t144 => (if 0 ≤ (wrap64 (t144 - 1)) then (some (shl .i64 1 (wrap64 (t144 - 1)))) else (none))
set_option maxHeartbeats 8000000 in
set_option maxRecDepth 100000 in
theorem rows_front.calls (a0 : Int) (r : Int) (w : World) (h : rows_front.f a0 = some r) :
    Calls Tryd.prog 41 #[.int .i64 a0] w fun e w' => e = .returned (.int .i64 r) ∧ Drawn0 w w' := by
  have H : ((bits_Len.f (IntKind.u64.wrap (wrap64 (a0 - 1)))).bind fun t144 => (if 0 ≤ (wrap64 (t144 - 1)) then (some (shl .i64 1 (wrap64 (t144 - 1)))) else (none))) = some r := h
  clear h
  replace H := Option.bind_eq_some_iff.mp H
  obtain ⟨t144, A20, H⟩ := H
  replace H : (if 0 ≤ (wrap64 (t144 - 1)) then (some (shl .i64 1 (wrap64 (t144 - 1)))) else (none)) = some r := H
  have A2 := Aside0.mk A20
  clear A20
  obtain ⟨ji3, hji3⟩ : ∃ j_ : Int, (wrap64 (t144 - 1)) = j_ := ⟨_, rfl⟩
  replace H : (if 0 ≤ (ji3) then (some (shl .i64 1 (ji3))) else (none)) = some r := by first | (rw [hji3] at H; exact H) | (simp only [hji3] at H ⊢; exact H)
  (try rw [hji3] at A2)
  have hji3w : (IntKind.i64.wrap (t144 - 1)) = ji3 := (i64_w _).trans hji3
  by_cases c4 : 0 ≤ (ji3)
  · rw [if_pos c4] at H
    have c4b0 := eq_true c4
    have c4b1 : decide (0 ≤ (ji3)) = true := decide_eq_true c4
    clear c4
    obtain ⟨ji5, hji5⟩ : ∃ j_ : Int, (shl .i64 1 (ji3)) = j_ := ⟨_, rfl⟩
    replace H : (some ji5) = some r := by first | (rw [hji5] at H; exact H) | (simp only [hji5] at H ⊢; exact H)
    (try rw [hji5] at A2)
    have hji5_ : (IntKind.i64.wrap (1 * 2 ^ min (ji3).toNat 64)) = ji5 := hji5
    have hji5z : (ji3) ≤ 64 → (IntKind.i64.wrap (1 * 2 ^ (ji3).toNat)) = ji5 := shl_small hji5
    have hji5u : (IntKind.i64.wrap (2 ^ min (ji3).toNat 64)) = ji5 := by have h_ := hji5_; rw [Int.one_mul] at h_; exact h_
    have hji5v : (ji3) ≤ 64 → (IntKind.i64.wrap (2 ^ (ji3).toNat)) = ji5 := fun hle_ => by have h_ := hji5z hle_; rw [Int.one_mul] at h_; exact h_
    have hji5y : (wrap64 (1 * 2 ^ min (ji3).toNat 64)) = ji5 := (i64_w _).symm.trans hji5_
    have hji5x : (ji3) ≤ 64 → (wrap64 (1 * 2 ^ (ji3).toNat)) = ji5 := fun h_ => (i64_w _).symm.trans (hji5z h_)
    obtain rfl := Option.some.inj H
    go_enter Tryd.func41, Tryd.ntmps41
    go_wp2_with (first | ((with_reducible refine gate_callee (f := 57) rfl ?_); refine goesL_ (some 6) rfl rfl Tryd.func57 (by kernel_rfl) rfl #[.int .u64 (IntKind.u64.wrap (wrap64 (a0 - 1)))] rfl (by (try simp only [List.map_toArray, List.map_cons, List.map_nil]); first | done | rfl | (simp only [List.length_drop, List.length_take]; rfl)) ?_; (with_reducible refine (bits_Len.calls (IntKind.u64.wrap (wrap64 (a0 - 1))) t144 _ A2.out).mono ?_); rintro e w' ⟨rfl, ⟨nd, rfl⟩⟩; refine ⟨_, rfl, ?_⟩))
    go_ret
    exact ⟨by first | rfl | (simp; done) | (simp only [← hji3, ← hji5] <;> (first | rfl | simp)) | (simp [*]; done), by repeat (first | exact Drawn0.refl _ | apply Drawn0.step)⟩
  · rw [if_neg c4] at H
    exact absurd H (by simp)
end Go.Proofs.YtoaimcobcgomjaaDoor.Q
namespace Go.Proofs.YtoaimcobcgomjaaDoor.Q
open Go.RowKit Go.Proofs.YtoaimcobcgomjaaDoorW.PrintWords Go.Proofs.YtoaimcobcgomjaaDoorW.PrintLast Go.Proofs.YtoaimcobcgomjaaDoorW.PrintMore
set_option linter.unusedVariables false
set_option linter.unusedSimpArgs false
/-- A word turned down by n. -/
def rot (x : Int) (n : Nat) : Int := bits .or .u32 (x * 2 ^ (32 - n) % 4294967296) (x / 2 ^ n)
set_option maxHeartbeats 1000000 in
theorem rotl_walk (x : Int) (n : Nat) (h0 : 0 < n) (h1 : n < 32) (hx : 0 ≤ x) (w : World) :
    Calls Tryd.prog 67 #[.int .u32 x, .int .i64 (-(n : Int))] w fun e w' => e = .returned (.int .u32 (rot x n)) ∧ w' = w := by
  have hw : IntKind.u64.wrap (-(n : Int)) = 18446744073709551616 - n := by rw [IntKind.wrap_u64]; omega
  have hand : bits .and .u64 (18446744073709551616 - (n : Int)) 31 = 32 - n := by
    have : ∀ m : Fin 32, 0 < m.1 → bits .and .u64 (18446744073709551616 - ((m.1 : Nat) : Int)) 31 = 32 - ((m.1 : Nat) : Int) := by decide +kernel
    exact this ⟨n, h1⟩ h0
  go_enter Tryd.func67, Tryd.ntmps67
  go_wp2
  go_ret
  exact ⟨by unfold rot; rw [show 32 - (32 - n) = n by omega]; rfl, rfl⟩
set_option maxHeartbeats 1000000 in
theorem turned_walk (x : Int) (n : Nat) (h0 : 0 < n) (h1 : n < 32) (hx : 0 ≤ x) (w : World) :
    Calls Tryd.prog 53 #[.int .u32 x, .int .i64 (n : Int)] w fun e w' => e = .returned (.int .u32 (rot x n)) ∧ w' = w := by
  have hw : IntKind.i64.wrap (-(n : Int)) = -(n : Int) := by rw [IntKind.wrap_i64]; omega
  have HW := Aside0.mk (fun w => rotl_walk x n h0 h1 hx w)
  go_enter Tryd.func53, Tryd.ntmps53
  go_wp2_with (go_at_call 67; (with_reducible refine (HW.out _).mono ?_); rintro e w' ⟨rfl, rfl⟩)
  go_ret
  exact ⟨rfl, rfl⟩
theorem turned_m (x : Int) (n : Nat) (m : Int) (hm : m = n) (h0 : 0 < n) (h1 : n < 32) (hx : 0 ≤ x) (w : World) :
    Calls Tryd.prog 53 #[.int .u32 x, .int .i64 m] w fun e w' => e = .returned (.int .u32 (rot x n)) ∧ w' = w := by
  subst hm; exact turned_walk x n h0 h1 hx w
/-- Every u32 operation's value is one. -/
def U32 (x : Int) : Prop := 0 ≤ x ∧ x < 4294967296
theorem u32_wrap (x : Int) : U32 (IntKind.u32.wrap x) := by rw [IntKind.wrap_u32]; unfold U32; omega
theorem u32_bits (op : BinOp) (x y : Int) : U32 (bits op .u32 x y) := by unfold bits; exact u32_wrap _
theorem not_u32 (x : Int) (h : 0 ≤ x ∧ x < 4294967296) : bits .xor .u32 (if IntKind.u32.signed = true then -1 else IntKind.u32.max) x = 4294967295 - x := by
  obtain ⟨n, rfl⟩ := Int.eq_ofNat_of_zero_le h.1
  have hn : n < 4294967296 := by omega
  have e : bits .xor .u32 (if IntKind.u32.signed = true then -1 else IntKind.u32.max) (n : Int) = IntKind.u32.wrap ((BitVec.allOnes 32 ^^^ BitVec.ofNat 32 n).toNat : Int) := by
    unfold bits
    congr 3
  rw [e, IntKind.wrap_u32, BitVec.allOnes_xor, BitVec.toNat_not, BitVec.toNat_ofNat]
  omega
end Go.Proofs.YtoaimcobcgomjaaDoor.Q
namespace Go.Proofs.YtoaimcobcgomjaaDoor.Q
open Go.RowKit Go.Proofs.YtoaimcobcgomjaaDoorW.PrintWords
set_option linter.unusedVariables false
def add32 (x y : Int) : Int := IntKind.u32.wrap (x + y)
def xor32 (x y : Int) : Int := bits .xor .u32 x y
def and32 (x y : Int) : Int := bits .and .u32 x y
def or32 (x y : Int) : Int := bits .or .u32 x y
/-- The words of the rounds. -/
def K64 : List Int := [0x428a2f98, 0x71374491, 0xb5c0fbcf, 0xe9b5dba5, 0x3956c25b, 0x59f111f1, 0x923f82a4, 0xab1c5ed5,
  0xd807aa98, 0x12835b01, 0x243185be, 0x550c7dc3, 0x72be5d74, 0x80deb1fe, 0x9bdc06a7, 0xc19bf174,
  0xe49b69c1, 0xefbe4786, 0x0fc19dc6, 0x240ca1cc, 0x2de92c6f, 0x4a7484aa, 0x5cb0a9dc, 0x76f988da,
  0x983e5152, 0xa831c66d, 0xb00327c8, 0xbf597fc7, 0xc6e00bf3, 0xd5a79147, 0x06ca6351, 0x14292967,
  0x27b70a85, 0x2e1b2138, 0x4d2c6dfc, 0x53380d13, 0x650a7354, 0x766a0abb, 0x81c2c92e, 0x92722c85,
  0xa2bfe8a1, 0xa81a664b, 0xc24b8b70, 0xc76c51a3, 0xd192e819, 0xd6990624, 0xf40e3585, 0x106aa070,
  0x19a4c116, 0x1e376c08, 0x2748774c, 0x34b0bcb5, 0x391c0cb3, 0x4ed8aa4a, 0x5b9cca4f, 0x682e6ff3,
  0x748f82ee, 0x78a5636f, 0x84c87814, 0x8cc70208, 0x90befffa, 0xa4506ceb, 0xbef9a3f7, 0xc67178f2]
def init8 : List Int := [0x6a09e667, 0xbb67ae85, 0x3c6ef372, 0xa54ff53a, 0x510e527f, 0x9b05688c, 0x1f83d9ab, 0x5be0cd19]
def at_ (l : List Int) (i : Nat) : Int := rd l (i : Int)
/-- A word of a block's bytes. -/
def word (b : List Int) (t : Nat) : Int := or32 (or32 (or32 (IntKind.u32.wrap (at_ b (4 * t) * 16777216)) (IntKind.u32.wrap (at_ b (4 * t + 1) * 65536))) (IntKind.u32.wrap (at_ b (4 * t + 2) * 256))) (at_ b (4 * t + 3))
def sig0 (x : Int) : Int := xor32 (xor32 (rot x 7) (rot x 18)) (x / 8)
def sig1 (x : Int) : Int := xor32 (xor32 (rot x 17) (rot x 19)) (x / 1024)
def nextW (ws : List Int) (t : Nat) : Int := add32 (add32 (add32 (at_ ws (t - 16)) (sig0 (at_ ws (t - 15)))) (at_ ws (t - 7))) (sig1 (at_ ws (t - 2)))
def schedTo (b : List Int) : Nat → List Int
  | 0 => []
  | t + 1 => schedTo b t ++ [if t < 16 then word b t else nextW (schedTo b t) t]
def oneR (v : List Int) (k w : Int) : Int := add32 (add32 (add32 (add32 (at_ v 7) (xor32 (xor32 (rot (at_ v 4) 6) (rot (at_ v 4) 11)) (rot (at_ v 4) 25))) (xor32 (and32 (at_ v 4) (at_ v 5)) (and32 (4294967295 - at_ v 4) (at_ v 6)))) k) w
def twoR (v : List Int) : Int := add32 (xor32 (xor32 (rot (at_ v 0) 2) (rot (at_ v 0) 13)) (rot (at_ v 0) 22)) (xor32 (xor32 (and32 (at_ v 0) (at_ v 1)) (and32 (at_ v 0) (at_ v 2))) (and32 (at_ v 1) (at_ v 2)))
def rnd (v : List Int) (k w : Int) : List Int := [add32 (oneR v k w) (twoR v), at_ v 0, at_ v 1, at_ v 2, add32 (at_ v 3) (oneR v k w), at_ v 4, at_ v 5, at_ v 6]
def rounds (s ws : List Int) : Nat → List Int
  | 0 => s
  | t + 1 => rnd (rounds s ws t) (at_ K64 t) (at_ ws t)
def compress (s b : List Int) : List Int := (List.range 8).map fun i => add32 (at_ s i) (at_ (rounds s (schedTo b 64) 64) i)
/-- Whole blocks turned into a state; n: how many at most. -/
def absorb : Nat → List Int → List Int → List Int × List Int
  | 0, s, m => (s, m)
  | n + 1, s, m => if 64 ≤ m.length then absorb n (compress s (m.take 64)) (m.drop 64) else (s, m)
def padTo (m : List Int) : List Int := m ++ [128] ++ List.replicate ((119 - m.length % 64) % 64) 0
def len8 (n : Int) : List Int := (List.range 8).map fun i => n / 2 ^ (56 - 8 * i) % 256
def bytes32 (s : List Int) : List Int := (List.range 32).map fun i => at_ s (i / 4) / 2 ^ (24 - 8 * (i % 4)) % 256
/-- The digest of bytes. -/
def shaOf (m : List Int) : List Int := bytes32 (absorb ((m.length + 72) / 64) init8 (padTo m ++ len8 (8 * m.length))).1
theorem sched_u32 (b : List Int) (t : Nat) : ∀ x ∈ schedTo b t, U32 x := by
  induction t with
  | zero => simp [schedTo]
  | succ t ih =>
    intro x hx
    simp only [schedTo, List.mem_append, List.mem_singleton] at hx
    rcases hx with hx | rfl
    · exact ih x hx
    · split
      · unfold word or32; exact u32_bits _ _ _
      · unfold nextW add32; exact u32_wrap _
theorem at_mem {P : Int → Prop} (l : List Int) (h : ∀ x ∈ l, P x) (i : Nat) (hi : i < l.length) : P (at_ l i) := by
  unfold at_ rd
  simp only [Int.toNat_natCast, List.getD_eq_getElem?_getD, List.getElem?_eq_getElem hi, Option.getD_some]
  exact h _ (List.getElem_mem hi)
theorem rounds_length (s ws : List Int) (hs : s.length = 8) (t : Nat) : (rounds s ws t).length = 8 := by
  cases t with
  | zero => exact hs
  | succ t => rfl
theorem rounds_u32 (s ws : List Int) (hl : s.length = 8) (hs : ∀ x ∈ s, U32 x) (t : Nat) : ∀ x ∈ rounds s ws t, U32 x := by
  induction t with
  | zero => exact hs
  | succ t ih =>
    have hr := rounds_length s ws hl t
    have h := fun i hi => at_mem _ ih i (by rw [hr]; exact hi)
    intro x hx
    simp only [rounds, rnd, List.mem_cons, List.not_mem_nil, or_false] at hx
    rcases hx with rfl | rfl | rfl | rfl | rfl | rfl | rfl | rfl
    · exact u32_wrap _
    · exact h 0 (by omega)
    · exact h 1 (by omega)
    · exact h 2 (by omega)
    · exact u32_wrap _
    · exact h 4 (by omega)
    · exact h 5 (by omega)
    · exact h 6 (by omega)
end Go.Proofs.YtoaimcobcgomjaaDoor.Q
namespace Go.Proofs.YtoaimcobcgomjaaDoor.Q
open Go.RowKit Go.Proofs.YtoaimcobcgomjaaDoorW.PrintWords Go.Proofs.YtoaimcobcgomjaaDoorW.PrintLast Go.Proofs.YtoaimcobcgomjaaDoorW.PrintMore
set_option linter.unusedVariables false
set_option linter.unusedSimpArgs false
theorem add_zero_plain (g j : Nat) : (⟨g, 0, none⟩ : Addr).add j = ⟨g, j, none⟩ := by unfold Addr.add; split <;> simp_all
end Go.Proofs.YtoaimcobcgomjaaDoor.Q
namespace Go.Proofs.YtoaimcobcgomjaaDoor.Q
open Go.RowKit Go.Proofs.YtoaimcobcgomjaaDoorW.PrintWords Go.Proofs.YtoaimcobcgomjaaDoorW.PrintLast Go.Proofs.YtoaimcobcgomjaaDoorW.PrintMore
set_option linter.unusedVariables false
set_option linter.unusedSimpArgs false
/-- An array of bytes, as a value's cells. -/
def arr (ds : List Int) : Array Value := (ds.map (Value.int .u8)).toArray
theorem arr_size (ds : List Int) : (arr ds).size = ds.length := by simp [arr]
theorem arr_get (ds : List Int) (k : Nat) (h : k < ds.length) : (arr ds)[k]? = some (.int .u8 (rd ds (k : Int))) := by simp [arr, rd, h]
/-- A digest: 32 bytes. -/
def Dig (ds : List Int) : Prop := ds.length = 32 ∧ ∀ x ∈ ds, 0 ≤ x ∧ x < 256
def hexL : List UInt8 := [48, 49, 50, 51, 52, 53, 54, 55, 56, 57, 97, 98, 99, 100, 101, 102]
def hx (n : Int) : UInt8 := hexL.getD n.toNat 0
theorem info_dig : (Tryd.prog.info? 25).map (·.size) = some 32 := by kernel_rfl
theorem arr_one (ds : List Int) : (arr ds).all (·.oneCell') = true := by simp [arr, Value.oneCell']
/-- A whole digest, stored. -/
theorem dig_store {ops : Array Oper} {rest : List Oper} {o : Oper} {a : Act} {W : World} {Q : Exit → Act → World → Prop} (hgd : o.guard = none) (x y : Operand) (ho : o.op = .store 25 x y) (g : Nat) (ds old : List Int) (hx : a.eval x = .pointer (some ⟨g, 0, none⟩)) (hy : a.eval y = .agg (arr ds))
    (hg : W.heap[g]? = some (.cells (arr old) 25 (0, 0))) (hl : ds.length = 32) (hold : old.length = 32)
    (h : ∀ w1, w1.heap[g]? = some (.cells (arr ds) 25 (0, 0)) → (∀ k, k ≠ g → w1.heap[k]? = W.heap[k]?) → (∀ (B : Nat) (w0 : World), Below B w0 W → B ≤ g → Below B w0 w1) → wpList Tryd.prog ops Q rest (a.put o.dst undef) w1) : wpList Tryd.prog ops Q (o :: rest) a W :=
  wpList_store_row hgd 25 x y ho g (arr ds) hx hy 25 (arr old) hg (by rw [arr_size, hl]; exact info_dig) (by rw [arr_size, arr_size, hl, hold]) (arr_one ds)
    (h _ (setRow_heap W g _ _ _ _ hg) (fun k hk => setRow_other W g k _ hk) (fun B w0 hb hB => below_setRow hb hB _))
end Go.Proofs.YtoaimcobcgomjaaDoor.Q
namespace Go.Proofs.YtoaimcobcgomjaaDoor.Q
open Go.RowKit Go.Proofs.YtoaimcobcgomjaaDoorW.PrintWords Go.Proofs.YtoaimcobcgomjaaDoorW.PrintLast Go.Proofs.YtoaimcobcgomjaaDoorW.PrintMore
set_option linter.unusedVariables false
set_option linter.unusedSimpArgs false
/-- An array of words, as a value's cells. -/
def arr32 (l : List Int) : Array Value := (l.map (Value.int .u32)).toArray
theorem arr32_size (l : List Int) : (arr32 l).size = l.length := by simp [arr32]
theorem arr32_get (l : List Int) (k : Nat) (h : k < l.length) : (arr32 l)[k]? = some (.int .u32 (at_ l k)) := by simp [arr32, at_, rd, h]
theorem arr32_set (l : List Int) (k : Nat) (x : Int) : (arr32 l).setIfInBounds k (.int .u32 x) = arr32 (l.set k x) := by simp [arr32, List.map_set]
theorem idx_slice (kb ob n cap i : Nat) (hi : i < n) (W : World) : (Instr.indexAt 22 (.slice (some ⟨kb, ob, none⟩) n cap) (.int .i64 (i : Int))).run Tryd.prog W = .ok (.pointer (some ⟨kb, ob + i, none⟩)) W := by
  have hel : Tryd.prog.elem 22 = 5 := by kernel_rfl
  obtain ⟨j, hj, h1, h2, h3⟩ := info_parts info5
  rw [run_indexAt_slice W 22 _ _ _ _ _ (by rw [hel]; exact Tryd.underlying22)]
  simp [hi, hel, sizeOf, typeInfo, hj, h2, Result.andThen, Addr.add]
theorem idx_arr {t n : Nat} (ht : Tryd.prog.underlying t = some (.array n 54)) (he : Tryd.prog.elem t = 54) (hn : Tryd.prog.arrayLen t = n) (g i : Nat) (hi : i < n) (W : World) : (Instr.indexAt t (.pointer (some ⟨g, 0, none⟩)) (.int .i64 (i : Int))).run Tryd.prog W = .ok (.pointer (some ⟨g, i, none⟩)) W := by
  have hs : (sizeOf 54).run Tryd.prog W = .ok 1 W := by
    obtain ⟨j, hj, h1⟩ := Option.map_eq_some_iff.1 (show (Tryd.prog.info? 54).map (·.size) = some 1 by kernel_rfl)
    simp [sizeOf, typeInfo, hj, h1]
  rw [run_indexAt_array W t _ _ _ (by rw [hn, he]; exact ht)]
  simp [hi, he, hn, hs, Result.andThen, add_zero_plain]
theorem cell_other (w : World) (g i j : Nat) (v : Value) (h : i ≠ j) : (w.setCell ⟨g, i, none⟩ v).cell? ⟨g, j, none⟩ = w.cell? ⟨g, j, none⟩ := World.cell?_setCell_other _ _ _ _ (fun e => by injection e; contradiction)
theorem cell_of_32 {W : World} {g t : Nat} {l : List Int} (h : W.heap[g]? = some (.cells (arr32 l) t (0, 0))) (k : Nat) (hk : k < l.length) : W.cell? ⟨g, k, none⟩ = some (.int .u32 (at_ l k)) := (blk_cell h k).trans (arr32_get l k hk)
theorem info_st : (Tryd.prog.info? 56).map (·.size) = some 8 := by kernel_rfl
/-- The words so far, and noughts. -/
def wsTo (b : List Int) (t : Nat) : List Int := schedTo b t ++ List.replicate (64 - t) 0
theorem schedTo_length (b : List Int) (t : Nat) : (schedTo b t).length = t := by
  induction t with
  | zero => rfl
  | succ t ih => simp [schedTo, ih]
theorem wsTo_length (b : List Int) (t : Nat) (ht : t ≤ 64) : (wsTo b t).length = 64 := by simp [wsTo, schedTo_length]; omega
theorem wsTo_set (b : List Int) (t : Nat) (ht : t < 64) : (wsTo b t).set t (if t < 16 then word b t else nextW (schedTo b t) t) = wsTo b (t + 1) := by
  unfold wsTo
  have h64 : 64 - t = (64 - (t + 1)) + 1 := by omega
  rw [h64, List.replicate_succ]
  have hl := schedTo_length b t
  rw [List.set_append_right _ _ (by omega), hl, Nat.sub_self]
  simp [schedTo]
theorem wsTo_at (b : List Int) (t i : Nat) (hi : i < t) (ht : t ≤ 64) : at_ (wsTo b t) i = at_ (schedTo b t) i := by
  unfold at_ rd wsTo
  simp only [Int.toNat_natCast, List.getD_eq_getElem?_getD]
  rw [List.getElem?_append_left (by rw [schedTo_length]; exact hi)]
def blk5_T : Bool × List (List Nat × List Nat) := (true, [([], []), ([], []), ([], []), ([2], [2]), ([1, 3], [1, 3]), ([4], [4]), ([5], [5]), ([6], [6]), ([], []), ([], []), ([9], [9]), ([10], [10]), ([8, 11], [8, 11]), ([12], [12]), ([13], [13]), ([14], [14]), ([7, 15], [7, 15]), ([], []), ([], []), ([18], [18]), ([19], [19]), ([17, 20], [17, 20]), ([21], [21]), ([22], [22]), ([23], [23]), ([16, 24], [16, 24]), ([], []), ([], []), ([27], [27]), ([28], [28]), ([26, 29], [26, 29]), ([30], [30]), ([31], [31]), ([25, 32], [25, 32]), ([0, 0, 1, 2, 3, 4, 5, 6, 7, 8, 9, 10, 11, 12, 13, 14, 15, 16, 17, 18, 19, 20, 21, 22, 23, 24, 25, 26, 27, 28, 29, 30, 31, 32, 33], [0]), ([34, 33, 0, 1, 2, 3, 4, 5, 6, 7, 8, 9, 10, 11, 12, 13, 14, 15, 16, 17, 18, 19, 20, 21, 22, 23, 24, 25, 26, 27, 28, 29, 30, 31, 32, 33], [33, 34])])
def blk5_B : List Nat := [0, 0, 0, 4, 14, 30, 62, 126, 0, 0, 512, 1536, 3840, 7936, 16128, 32512, 65534, 0, 0, 262144, 786432, 1966080, 4063232, 8257536, 16646144, 33554430, 0, 0, 134217728, 402653184, 1006632960, 2080374784, 4227858432, 8589934590, 17179869183, 34359738367]
theorem blk5_tab : rtab .any (opsOf Tryd.f34 5) = blk5_T := by kernel_rfl
theorem blk5_bits : waitsOk blk5_T.2 blk5_B = true := by kernel_rfl
def blk6_T : Bool × List (List Nat × List Nat) := (true, [([], []), ([0], [0]), ([1], [1]), ([2], [2]), ([], []), ([4], [4]), ([5], [5]), ([6], [6]), ([3, 0, 1, 2, 3], [3]), ([7, 8, 0, 1, 2, 3, 4, 5, 6, 7, 8], [7])])
def blk6_B : List Nat := [0, 1, 3, 7, 0, 16, 48, 112, 15, 511]
theorem blk6_tab : rtab .any (opsOf Tryd.f34 6) = blk6_T := by kernel_rfl
theorem blk6_bits : waitsOk blk6_T.2 blk6_B = true := by kernel_rfl
def blk7_T : Bool × List (List Nat × List Nat) := (true, [([], []), ([], []), ([1], [1]), ([2], [2]), ([3], [3]), ([], []), ([5], [5]), ([], []), ([7, 6], [7]), ([6, 8], [6, 8]), ([], []), ([10], [10]), ([9, 11], [9, 11]), ([4, 12], [4, 12]), ([], []), ([14], [14]), ([15], [15]), ([16], [16]), ([13, 17], [13, 17]), ([], []), ([19, 8], [19]), ([], []), ([21, 20], [21]), ([20, 22], [20, 22]), ([], []), ([24], [24]), ([23, 25], [23, 25]), ([18, 26], [18, 26]), ([0, 0, 1, 2, 3, 4, 5, 6, 7, 8, 9, 10, 11, 12, 13, 14, 15, 16, 17, 18, 19, 20, 21, 22, 23, 24, 25, 26, 27], [0]), ([28, 27, 22, 0, 1, 2, 3, 4, 5, 6, 7, 8, 9, 10, 11, 12, 13, 14, 15, 16, 17, 18, 19, 20, 21, 22, 23, 24, 25, 26, 27], [27, 28])])
def blk7_B : List Nat := [0, 0, 2, 6, 14, 0, 32, 0, 224, 480, 0, 1024, 4064, 8190, 0, 16384, 49152, 114688, 262142, 0, 524768, 0, 3670496, 7864800, 0, 16777216, 66585056, 134217726, 268435455, 536870911]
theorem blk7_tab : rtab .any (opsOf Tryd.f34 7) = blk7_T := by kernel_rfl
theorem blk7_bits : waitsOk blk7_T.2 blk7_B = true := by kernel_rfl
def blk13_T : Bool × List (List Nat × List Nat) := (true, [([], []), ([0], [0]), ([], []), ([2], [2]), ([], []), ([4], [4]), ([], []), ([6], [6]), ([], []), ([8], [8]), ([], []), ([10], [10]), ([1, 0, 1], [1]), ([3, 12, 0, 1, 2, 3, 12], [3]), ([5, 13, 0, 1, 2, 3, 4, 5, 12, 13], [5]), ([7, 14, 0, 1, 2, 3, 4, 5, 6, 7, 12, 13, 14], [7]), ([9, 15, 0, 1, 2, 3, 4, 5, 6, 7, 8, 9, 12, 13, 14, 15], [9]), ([11, 16, 0, 1, 2, 3, 4, 5, 6, 7, 8, 9, 10, 11, 12, 13, 14, 15, 16], [11])])
def blk13_B : List Nat := [0, 1, 0, 4, 0, 16, 0, 64, 0, 256, 0, 1024, 3, 4111, 12351, 28927, 62463, 131071]
theorem blk13_tab : rtab .any (opsOf Tryd.f34 13) = blk13_T := by kernel_rfl
theorem blk13_bits : waitsOk blk13_T.2 blk13_B = true := by kernel_rfl
def blk14_T : Bool × List (List Nat × List Nat) := (true, [([], []), ([0], [0]), ([], []), ([2], [2]), ([], []), ([4, 3], [4]), ([3, 5], [3, 5]), ([], []), ([7, 5], [7]), ([6, 8], [6, 8]), ([1, 9], [1, 9]), ([], []), ([], []), ([11, 12], [11, 12]), ([], []), ([14], [14]), ([], []), ([15, 16], [15, 16]), ([13, 17], [13, 17]), ([10, 18], [10, 18]), ([], []), ([20], [20]), ([21], [21]), ([19, 22], [19, 22]), ([], []), ([24], [24]), ([25], [25]), ([23, 26], [23, 26]), ([27, 8, 0, 1, 2, 3, 4, 5, 6, 7, 8, 9, 10, 11, 12, 13, 14, 15, 16, 17, 18, 19, 20, 21, 22, 23, 24, 25, 26, 27], [27])])
def blk14_B : List Nat := [0, 1, 0, 4, 0, 28, 60, 0, 188, 508, 1023, 0, 0, 6144, 0, 16384, 0, 114688, 260096, 524287, 0, 1048576, 3145728, 8388607, 0, 16777216, 50331648, 134217727, 268435455]
theorem blk14_tab : rtab .any (opsOf Tryd.f34 14) = blk14_T := by kernel_rfl
theorem blk14_bits : waitsOk blk14_T.2 blk14_B = true := by kernel_rfl
def blk21_T : Bool × List (List Nat × List Nat) := (true, [([], []), ([], []), ([0], [0]), ([2, 1], [1, 2]), ([3], [3]), ([], []), ([5], [5]), ([6], [6]), ([4, 7], [4, 7]), ([0], [0]), ([9, 1, 0, 1, 2, 3, 4, 5, 6, 7, 8], [1, 9]), ([10, 8, 0, 1, 2, 3, 4, 5, 6, 7, 8], [8, 10])])
def blk21_B : List Nat := [0, 0, 1, 7, 15, 0, 32, 96, 255, 1, 1023, 2047]
theorem blk21_tab : rtab .any (opsOf Tryd.f34 21) = blk21_T := by kernel_rfl
theorem blk21_bits : waitsOk blk21_T.2 blk21_B = true := by kernel_rfl
/-- The state, t words on. -/
def outTo (s v : List Int) (t : Nat) : List Int := (List.range 8).map fun i => if i < t then add32 (at_ s i) (at_ v i) else at_ s i
theorem outTo_length (s v : List Int) (t : Nat) : (outTo s v t).length = 8 := by simp [outTo]
theorem outTo_zero (s v : List Int) (hs : s.length = 8) : outTo s v 0 = s := by
  unfold outTo
  apply List.ext_getElem (by simp [hs])
  intro i h1 h2
  simp only [List.getElem_map, List.getElem_range, Nat.not_lt_zero, if_false]
  simp [at_, rd, h2]
theorem outTo_at (s v : List Int) (t : Nat) (ht : t < 8) : at_ (outTo s v t) t = at_ s t := by
  unfold outTo
  show rd _ _ = _
  unfold rd
  simp only [Int.toNat_natCast, List.getD_eq_getElem?_getD, List.getElem?_map]
  rw [List.getElem?_range ht]
  simp
theorem outTo_set (s v : List Int) (t : Nat) (ht : t < 8) : (outTo s v t).set t (add32 (at_ s t) (at_ v t)) = outTo s v (t + 1) := by
  unfold outTo
  apply List.ext_getElem (by simp)
  intro i h1 h2
  rw [List.getElem_set]
  simp only [List.getElem_map, List.getElem_range]
  by_cases he : t = i
  · subst he; rw [if_pos rfl, if_pos (by omega)]
  · rw [if_neg he]
    by_cases hl : i < t
    · rw [if_pos hl, if_pos (by omega)]
    · rw [if_neg hl, if_neg (by omega)]
/-- A whole state, stored. -/
theorem st_store {ops : Array Oper} {rest : List Oper} {o : Oper} {a : Act} {W : World} {Q : Exit → Act → World → Prop} (hgd : o.guard = none) (x y : Operand) (ho : o.op = .store 56 x y) (g : Nat) (ds old : List Int) (hx : a.eval x = .pointer (some ⟨g, 0, none⟩)) (hy : a.eval y = .agg (arr32 ds))
    (hg : W.heap[g]? = some (.cells (arr32 old) 56 (0, 0))) (hl : ds.length = 8) (hold : old.length = 8)
    (h : ∀ w1, w1.heap[g]? = some (.cells (arr32 ds) 56 (0, 0)) → (∀ k, k ≠ g → w1.heap[k]? = W.heap[k]?) → (∀ (B : Nat) (w0 : World), Below B w0 W → B ≤ g → Below B w0 w1) → wpList Tryd.prog ops Q rest (a.put o.dst undef) w1) : wpList Tryd.prog ops Q (o :: rest) a W :=
  wpList_store_row hgd 56 x y ho g (arr32 ds) hx hy 56 (arr32 old) hg (by rw [arr32_size, hl]; exact info_st) (by rw [arr32_size, arr32_size, hl, hold]) (by simp [arr32, Value.oneCell'])
    (h _ (setRow_heap W g _ _ _ _ hg) (fun k hk => setRow_other W g k _ hk) (fun B w0 hb hB => below_setRow hb hB _))
/-- What a block's walk wants to know of the world. -/
structure BlkPre (gs kb ob : Nat) (s b : List Int) (W : World) : Prop where
  st : W.heap[gs]? = some (.cells (arr32 s) 56 (0, 0))
  by_ : ∀ j, j < 64 → W.cell? ⟨kb, ob + j, none⟩ = some (.int .u8 (at_ b j))
  kb_ : kb ≠ gs
  kt : ∀ j, j < 64 → W.cell? ⟨0, j, none⟩ = some (.int .u32 (at_ K64 j))
  k0 : 0 ≠ gs
  sl : s.length = 8
  su : ∀ x ∈ s, U32 x
  bl : b.length = 64
  bb : ∀ x ∈ b, 0 ≤ x ∧ x < 256
set_option maxHeartbeats 16000000 in
set_option maxRecDepth 100000 in
theorem block_walk (gs kb ob cap : Nat) (s b : List Int) (W : World) (hp : BlkPre gs kb ob s b W) :
    Calls Tryd.prog 34 #[.pointer (some ⟨gs, 0, none⟩), .slice (some ⟨kb, ob, none⟩) 64 cap] W fun e W' => e = .returned (.tuple #[]) ∧ W'.heap[gs]? = some (.cells (arr32 (compress s b)) 56 (0, 0)) ∧ W.heap.size ≤ W'.heap.size ∧ (∀ k, k < W.heap.size → k ≠ gs → W'.heap[k]? = W.heap[k]?) ∧ (∀ (B : Nat) (w0 : World), Below B w0 W → B ≤ gs → Below B w0 W') := by
  have HP := Aside0.mk hp
  have HB := Aside0.mk (Below.refl W.heap.size W)
  clear hp
  go_enter Tryd.func34, Tryd.ntmps34
  go_wp2_with (
    first
    | ((with_reducible refine gate_dst (N := 4) rfl ?_); refine box_event ?hg (N := 4) ?hd (cs := arr32 (List.replicate 64 0)) (t := 59) ?hr ?_; (case hd => rfl); (case hg => rfl); (case hr => first | (go_simp; done) | (go_simp; rfl));
       intro gw hg w1 hbox hb; have BW := Aside0.mk hbox; have GW := Aside0.mk (show W.heap.size ≤ gw by rw [hg]; exact Nat.le_refl _); have HB1 := Aside0.mk (below_step HB.out hb); clear HB; have HB := HB1; clear HB1 hb hbox hg))
  go_loopw [5, 6, 7, 19] (fun _ _ _ i wr => ∃ t : Nat, t ≤ 64 ∧ i = .int .i64 (t : Int) ∧ Aside0 (wr.heap[gw]? = some (.cells (arr32 (wsTo b t)) 59 (0, 0)) ∧ Below W.heap.size W wr)) (fun _ _ _ i _ => 64 - (intOf i).toNat)
  case atStart => exact ⟨0, by omega, rfl, ⟨BW.out, HB.out⟩⟩
  case round =>
    obtain ⟨t, ht, rfl, HI⟩ := hrel
    clear HB BW
    have BW := Aside0.mk HI.out.1
    have HB := Aside0.mk HI.out.2
    clear HI
    by_cases hlt : t < 64
    · have hiw := fun W => idx_arr Tryd.underlying59 (by kernel_rfl) (by kernel_rfl) gw t hlt W
      by_cases h16 : t < 16
      · have hbc : ∀ j, j < 64 → wr.cell? ⟨kb, ob + j, none⟩ = some (.int .u8 (at_ b j)) := fun j hj => by
          have := HP.out.by_ j hj
          exact (HB.out.cell (World.block_lt_of_cell? _ _ this)).trans this
        have hrange : ∀ j, j < 64 → 0 ≤ at_ b j ∧ at_ b j < 256 := fun j hj => HP.out.bb _ (by
          unfold at_ rd
          have hl : j < b.length := by rw [HP.out.bl]; exact hj
          simp [hl])
        obtain ⟨c0, e0⟩ : ∃ c, at_ b (4 * t) = c := ⟨_, rfl⟩
        obtain ⟨c1, e1⟩ : ∃ c, at_ b (4 * t + 1) = c := ⟨_, rfl⟩
        obtain ⟨c2, e2⟩ : ∃ c, at_ b (4 * t + 2) = c := ⟨_, rfl⟩
        obtain ⟨c3, e3⟩ : ∃ c, at_ b (4 * t + 3) = c := ⟨_, rfl⟩
        have hc0 : wr.drew.cell? ⟨kb, ob + 4 * t, none⟩ = some (.int .u8 c0) := e0 ▸ hbc (4 * t) (by omega)
        have hc1 : wr.drew.cell? ⟨kb, ob + (4 * t + 1), none⟩ = some (.int .u8 c1) := e1 ▸ hbc (4 * t + 1) (by omega)
        have hc2 : wr.drew.cell? ⟨kb, ob + (4 * t + 2), none⟩ = some (.int .u8 c2) := e2 ▸ hbc (4 * t + 2) (by omega)
        have hc3 : wr.drew.cell? ⟨kb, ob + (4 * t + 3), none⟩ = some (.int .u8 c3) := e3 ▸ hbc (4 * t + 3) (by omega)
        have r0 := e0 ▸ hrange (4 * t) (by omega)
        have r1 := e1 ▸ hrange (4 * t + 1) (by omega)
        have r2 := e2 ▸ hrange (4 * t + 2) (by omega)
        have r3 := e3 ▸ hrange (4 * t + 3) (by omega)
        have hv0 : IntKind.u32.wrap c0 = c0 := by rw [IntKind.wrap_u32]; omega
        have hv1 : IntKind.u32.wrap c1 = c1 := by rw [IntKind.wrap_u32]; omega
        have hv2 : IntKind.u32.wrap c2 = c2 := by rw [IntKind.wrap_u32]; omega
        have hv3 : IntKind.u32.wrap c3 = c3 := by rw [IntKind.wrap_u32]; omega
        have hw0 : IntKind.i64.wrap (4 * (t : Int)) = 4 * (t : Int) := by rw [IntKind.wrap_i64]; omega
        have hw1 : IntKind.i64.wrap (4 * (t : Int) + 1) = 4 * (t : Int) + 1 := by rw [IntKind.wrap_i64]; omega
        have hw2 : IntKind.i64.wrap (4 * (t : Int) + 2) = 4 * (t : Int) + 2 := by rw [IntKind.wrap_i64]; omega
        have hw3 : IntKind.i64.wrap (4 * (t : Int) + 3) = 4 * (t : Int) + 3 := by rw [IntKind.wrap_i64]; omega
        have hi0 := fun W => idx_slice kb ob 64 cap (4 * t) (by omega) W
        have hi1 := fun W => idx_slice kb ob 64 cap (4 * t + 1) (by omega) W
        have hi2 := fun W => idx_slice kb ob 64 cap (4 * t + 2) (by omega) W
        have hi3 := fun W => idx_slice kb ob 64 cap (4 * t + 3) (by omega) W
        rw [show ((4 * t : Nat) : Int) = 4 * (t : Int) by omega] at hi0
        rw [show ((4 * t + 1 : Nat) : Int) = 4 * (t : Int) + 1 by omega] at hi1
        rw [show ((4 * t + 2 : Nat) : Int) = 4 * (t : Int) + 2 by omega] at hi2
        rw [show ((4 * t + 3 : Nat) : Int) = 4 * (t : Int) + 3 by omega] at hi3
        have E0 := Aside0.mk e0
        have E1 := Aside0.mk e1
        have E2 := Aside0.mk e2
        have E3 := Aside0.mk e3
        have hcw : wr.drew.cell? ⟨gw, t, none⟩ = some (.int .u32 (at_ (wsTo b t) t)) := cell_of_32 (blk_drew BW.out) t (by rw [wsTo_length b t ht]; exact hlt)
        have hfw : wr.drew.frozen? ⟨gw, t, none⟩ = false := blk_frozen (blk_drew BW.out) t
        have hkw : kb ≠ gw := by
          have h1 : kb < W.heap.size := World.block_lt_of_cell? W _ (HP.out.by_ 0 (by omega))
          have h2 := GW.out
          omega
        clear e0 e1 e2 e3 hbc hrange
        go_wp2
        refine start_ (n := 36) (S := fun w' => w'.cell? ⟨kb, ob + 4 * t, none⟩ = some (.int .u8 c0) ∧ w'.cell? ⟨kb, ob + (4 * t + 1), none⟩ = some (.int .u8 c1) ∧ w'.cell? ⟨kb, ob + (4 * t + 2), none⟩ = some (.int .u8 c2) ∧ w'.cell? ⟨kb, ob + (4 * t + 3), none⟩ = some (.int .u8 c3)) (ds := []) #[false, false, false, false, false, false, false, false, false, false, false, false, false, false, false, false, false, false, false, false, false, false, false, false, false, false, false, false, false, false, false, false, false, false, false, false] (by kernel_rfl) rfl rfl ⟨hc0, hc1, hc2, hc3⟩ (fun hHeld => ?_)
        refine with_tabW blk5_tab blk5_bits (fun HT_ HW_ => ?_)
        refine pure_ (i := 0) (N := (some 24)) (v := ?_) (a' := ?_) #[true, false, false, false, false, false, false, false, false, false, false, false, false, false, false, false, false, false, false, false, false, false, false, false, false, false, false, false, false, false, false, false, false, false, false, false] rfl rfl (any_of HT_.out (by kernel_rfl)) (fun _ _ _ h => h) (Or.inl ⟨by rfl, ?_⟩) ?_ ?_
        rotate_left
        · intro w'
          go_simp
          first | with_reducible rfl | (simp; done) | rfl
        rotate_left
        · simp only [Act.put, List.setIfInBounds_toArray, List.set_cons_zero, List.set_cons_succ, i64_w, i32_w]
          rfl
        refine pure_ (i := 1) (N := (some 25)) (v := ?_) (a' := ?_) #[true, true, false, false, false, false, false, false, false, false, false, false, false, false, false, false, false, false, false, false, false, false, false, false, false, false, false, false, false, false, false, false, false, false, false, false] rfl rfl (any_of HT_.out (by kernel_rfl)) (fun _ _ _ h => h) (Or.inl ⟨by rfl, ?_⟩) ?_ ?_
        rotate_left
        · intro w'
          go_simp
          first | with_reducible rfl | (simp; done) | rfl
        rotate_left
        · simp only [Act.put, List.setIfInBounds_toArray, List.set_cons_zero, List.set_cons_succ, i64_w, i32_w]
          rfl
        refine pure_ (i := 2) (N := (some 26)) (v := ?_) (a' := ?_) #[true, true, true, false, false, false, false, false, false, false, false, false, false, false, false, false, false, false, false, false, false, false, false, false, false, false, false, false, false, false, false, false, false, false, false, false] rfl rfl (any_of HT_.out (by kernel_rfl)) (fun _ _ _ h => h) (Or.inl ⟨by rfl, ?_⟩) ?_ ?_
        rotate_left
        · intro w'
          go_simp
          first | with_reducible rfl | (simp; done) | rfl
        rotate_left
        · simp only [Act.put, List.setIfInBounds_toArray, List.set_cons_zero, List.set_cons_succ, i64_w, i32_w]
          rfl
        refine pure_ (i := 3) (N := (some 27)) (v := ?_) (a' := ?_) #[true, true, true, true, false, false, false, false, false, false, false, false, false, false, false, false, false, false, false, false, false, false, false, false, false, false, false, false, false, false, false, false, false, false, false, false] rfl rfl (any_of HT_.out (by kernel_rfl)) (fun _ _ _ h => h) (Or.inl ⟨by rfl, ?_⟩) ?_ ?_
        rotate_left
        · intro w'
          go_simp
          first | with_reducible rfl | (simp; done) | rfl
        rotate_left
        · simp only [Act.put, List.setIfInBounds_toArray, List.set_cons_zero, List.set_cons_succ, i64_w, i32_w]
          rfl
        refine pure_ (i := 4) (N := (some 28)) (v := ?_) (a' := ?_) #[true, true, true, true, true, false, false, false, false, false, false, false, false, false, false, false, false, false, false, false, false, false, false, false, false, false, false, false, false, false, false, false, false, false, false, false] rfl rfl (any_of HT_.out (by kernel_rfl)) (fun _ _ _ h => h) (Or.inl ⟨by rfl, ?_⟩) ?_ ?_
        rotate_left
        · intro w'
          go_simp
          first | with_reducible rfl | (simp; done) | rfl
        rotate_left
        · simp only [Act.put, List.setIfInBounds_toArray, List.set_cons_zero, List.set_cons_succ, i64_w, i32_w]
          rfl
        refine pure_ (i := 8) (N := (some 32)) (v := ?_) (a' := ?_) #[true, true, true, true, true, false, false, false, true, false, false, false, false, false, false, false, false, false, false, false, false, false, false, false, false, false, false, false, false, false, false, false, false, false, false, false] rfl rfl (any_of HT_.out (by kernel_rfl)) (fun _ _ _ h => h) (Or.inl ⟨by rfl, ?_⟩) ?_ ?_
        rotate_left
        · intro w'
          go_simp
          first | with_reducible rfl | (simp; done) | rfl
        rotate_left
        · simp only [Act.put, List.setIfInBounds_toArray, List.set_cons_zero, List.set_cons_succ, i64_w, i32_w]
          rfl
        refine pure_ (i := 9) (N := (some 33)) (v := ?_) (a' := ?_) #[true, true, true, true, true, false, false, false, true, true, false, false, false, false, false, false, false, false, false, false, false, false, false, false, false, false, false, false, false, false, false, false, false, false, false, false] rfl rfl (any_of HT_.out (by kernel_rfl)) (fun _ _ _ h => h) (Or.inl ⟨by rfl, ?_⟩) ?_ ?_
        rotate_left
        · intro w'
          go_simp
          first | with_reducible rfl | (simp; done) | rfl
        rotate_left
        · simp only [Act.put, List.setIfInBounds_toArray, List.set_cons_zero, List.set_cons_succ, i64_w, i32_w]
          rfl
        refine pure_ (i := 10) (N := (some 34)) (v := ?_) (a' := ?_) #[true, true, true, true, true, false, false, false, true, true, true, false, false, false, false, false, false, false, false, false, false, false, false, false, false, false, false, false, false, false, false, false, false, false, false, false] rfl rfl (any_of HT_.out (by kernel_rfl)) (fun _ _ _ h => h) (Or.inl ⟨by rfl, ?_⟩) ?_ ?_
        rotate_left
        · intro w'
          go_simp
          first | with_reducible rfl | (simp; done) | rfl
        rotate_left
        · simp only [Act.put, List.setIfInBounds_toArray, List.set_cons_zero, List.set_cons_succ, i64_w, i32_w]
          rfl
        refine pure_ (i := 11) (N := (some 35)) (v := ?_) (a' := ?_) #[true, true, true, true, true, false, false, false, true, true, true, true, false, false, false, false, false, false, false, false, false, false, false, false, false, false, false, false, false, false, false, false, false, false, false, false] rfl rfl (any_of HT_.out (by kernel_rfl)) (fun _ _ _ h => h) (Or.inl ⟨by rfl, ?_⟩) ?_ ?_
        rotate_left
        · intro w'
          go_simp
          first | with_reducible rfl | (simp; done) | rfl
        rotate_left
        · simp only [Act.put, List.setIfInBounds_toArray, List.set_cons_zero, List.set_cons_succ, i64_w, i32_w]
          rfl
        refine pure_ (i := 12) (N := (some 36)) (v := ?_) (a' := ?_) #[true, true, true, true, true, false, false, false, true, true, true, true, true, false, false, false, false, false, false, false, false, false, false, false, false, false, false, false, false, false, false, false, false, false, false, false] rfl rfl (any_of HT_.out (by kernel_rfl)) (fun _ _ _ h => h) (Or.inl ⟨by rfl, ?_⟩) ?_ ?_
        rotate_left
        · intro w'
          go_simp
          first | with_reducible rfl | (simp; done) | rfl
        rotate_left
        · simp only [Act.put, List.setIfInBounds_toArray, List.set_cons_zero, List.set_cons_succ, i64_w, i32_w]
          rfl
        refine pure_ (i := 17) (N := (some 41)) (v := ?_) (a' := ?_) #[true, true, true, true, true, false, false, false, true, true, true, true, true, false, false, false, false, true, false, false, false, false, false, false, false, false, false, false, false, false, false, false, false, false, false, false] rfl rfl (any_of HT_.out (by kernel_rfl)) (fun _ _ _ h => h) (Or.inl ⟨by rfl, ?_⟩) ?_ ?_
        rotate_left
        · intro w'
          go_simp
          first | with_reducible rfl | (simp; done) | rfl
        rotate_left
        · simp only [Act.put, List.setIfInBounds_toArray, List.set_cons_zero, List.set_cons_succ, i64_w, i32_w]
          rfl
        refine pure_ (i := 18) (N := (some 42)) (v := ?_) (a' := ?_) #[true, true, true, true, true, false, false, false, true, true, true, true, true, false, false, false, false, true, true, false, false, false, false, false, false, false, false, false, false, false, false, false, false, false, false, false] rfl rfl (any_of HT_.out (by kernel_rfl)) (fun _ _ _ h => h) (Or.inl ⟨by rfl, ?_⟩) ?_ ?_
        rotate_left
        · intro w'
          go_simp
          first | with_reducible rfl | (simp; done) | rfl
        rotate_left
        · simp only [Act.put, List.setIfInBounds_toArray, List.set_cons_zero, List.set_cons_succ, i64_w, i32_w]
          rfl
        refine pure_ (i := 19) (N := (some 43)) (v := ?_) (a' := ?_) #[true, true, true, true, true, false, false, false, true, true, true, true, true, false, false, false, false, true, true, true, false, false, false, false, false, false, false, false, false, false, false, false, false, false, false, false] rfl rfl (any_of HT_.out (by kernel_rfl)) (fun _ _ _ h => h) (Or.inl ⟨by rfl, ?_⟩) ?_ ?_
        rotate_left
        · intro w'
          go_simp
          first | with_reducible rfl | (simp; done) | rfl
        rotate_left
        · simp only [Act.put, List.setIfInBounds_toArray, List.set_cons_zero, List.set_cons_succ, i64_w, i32_w]
          rfl
        refine pure_ (i := 20) (N := (some 44)) (v := ?_) (a' := ?_) #[true, true, true, true, true, false, false, false, true, true, true, true, true, false, false, false, false, true, true, true, true, false, false, false, false, false, false, false, false, false, false, false, false, false, false, false] rfl rfl (any_of HT_.out (by kernel_rfl)) (fun _ _ _ h => h) (Or.inl ⟨by rfl, ?_⟩) ?_ ?_
        rotate_left
        · intro w'
          go_simp
          first | with_reducible rfl | (simp; done) | rfl
        rotate_left
        · simp only [Act.put, List.setIfInBounds_toArray, List.set_cons_zero, List.set_cons_succ, i64_w, i32_w]
          rfl
        refine pure_ (i := 21) (N := (some 45)) (v := ?_) (a' := ?_) #[true, true, true, true, true, false, false, false, true, true, true, true, true, false, false, false, false, true, true, true, true, true, false, false, false, false, false, false, false, false, false, false, false, false, false, false] rfl rfl (any_of HT_.out (by kernel_rfl)) (fun _ _ _ h => h) (Or.inl ⟨by rfl, ?_⟩) ?_ ?_
        rotate_left
        · intro w'
          go_simp
          first | with_reducible rfl | (simp; done) | rfl
        rotate_left
        · simp only [Act.put, List.setIfInBounds_toArray, List.set_cons_zero, List.set_cons_succ, i64_w, i32_w]
          rfl
        refine pure_ (i := 26) (N := (some 50)) (v := ?_) (a' := ?_) #[true, true, true, true, true, false, false, false, true, true, true, true, true, false, false, false, false, true, true, true, true, true, false, false, false, false, true, false, false, false, false, false, false, false, false, false] rfl rfl (any_of HT_.out (by kernel_rfl)) (fun _ _ _ h => h) (Or.inl ⟨by rfl, ?_⟩) ?_ ?_
        rotate_left
        · intro w'
          go_simp
          first | with_reducible rfl | (simp; done) | rfl
        rotate_left
        · simp only [Act.put, List.setIfInBounds_toArray, List.set_cons_zero, List.set_cons_succ, i64_w, i32_w]
          rfl
        refine pure_ (i := 27) (N := (some 51)) (v := ?_) (a' := ?_) #[true, true, true, true, true, false, false, false, true, true, true, true, true, false, false, false, false, true, true, true, true, true, false, false, false, false, true, true, false, false, false, false, false, false, false, false] rfl rfl (any_of HT_.out (by kernel_rfl)) (fun _ _ _ h => h) (Or.inl ⟨by rfl, ?_⟩) ?_ ?_
        rotate_left
        · intro w'
          go_simp
          first | with_reducible rfl | (simp; done) | rfl
        rotate_left
        · simp only [Act.put, List.setIfInBounds_toArray, List.set_cons_zero, List.set_cons_succ, i64_w, i32_w]
          rfl
        refine pure_ (i := 28) (N := (some 52)) (v := ?_) (a' := ?_) #[true, true, true, true, true, false, false, false, true, true, true, true, true, false, false, false, false, true, true, true, true, true, false, false, false, false, true, true, true, false, false, false, false, false, false, false] rfl rfl (any_of HT_.out (by kernel_rfl)) (fun _ _ _ h => h) (Or.inl ⟨by rfl, ?_⟩) ?_ ?_
        rotate_left
        · intro w'
          go_simp
          first | with_reducible rfl | (simp; done) | rfl
        rotate_left
        · simp only [Act.put, List.setIfInBounds_toArray, List.set_cons_zero, List.set_cons_succ, i64_w, i32_w]
          rfl
        refine pure_ (i := 29) (N := (some 53)) (v := ?_) (a' := ?_) #[true, true, true, true, true, false, false, false, true, true, true, true, true, false, false, false, false, true, true, true, true, true, false, false, false, false, true, true, true, true, false, false, false, false, false, false] rfl rfl (any_of HT_.out (by kernel_rfl)) (fun _ _ _ h => h) (Or.inl ⟨by rfl, ?_⟩) ?_ ?_
        rotate_left
        · intro w'
          go_simp
          first | with_reducible rfl | (simp; done) | rfl
        rotate_left
        · simp only [Act.put, List.setIfInBounds_toArray, List.set_cons_zero, List.set_cons_succ, i64_w, i32_w]
          rfl
        refine pure_ (i := 30) (N := (some 54)) (v := ?_) (a' := ?_) #[true, true, true, true, true, false, false, false, true, true, true, true, true, false, false, false, false, true, true, true, true, true, false, false, false, false, true, true, true, true, true, false, false, false, false, false] rfl rfl (any_of HT_.out (by kernel_rfl)) (fun _ _ _ h => h) (Or.inl ⟨by rfl, ?_⟩) ?_ ?_
        rotate_left
        · intro w'
          go_simp
          first | with_reducible rfl | (simp; done) | rfl
        rotate_left
        · simp only [Act.put, List.setIfInBounds_toArray, List.set_cons_zero, List.set_cons_succ, i64_w, i32_w]
          rfl
        refine take_ (i := 5) (N := (some 29)) (v := ?_) (a' := ?_) #[true, true, true, true, true, true, false, false, true, true, true, true, true, false, false, false, false, true, true, true, true, true, false, false, false, false, true, true, true, true, true, false, false, false, false, false] rfl rfl (take_ofW HT_.out HW_.out (by kernel_rfl)) (fun _ _ _ h => h) (Or.inl ⟨by rfl, ?_⟩) hHeld ?_ ?_
        rotate_left
        · rintro w' ⟨s0, s1, s2, s3⟩
          go_simp
          with_reducible rfl
        rotate_left
        · simp only [Act.put, List.setIfInBounds_toArray, List.set_cons_zero, List.set_cons_succ, i64_w, i32_w]
          rfl
        refine take_ (i := 13) (N := (some 37)) (v := ?_) (a' := ?_) #[true, true, true, true, true, true, false, false, true, true, true, true, true, true, false, false, false, true, true, true, true, true, false, false, false, false, true, true, true, true, true, false, false, false, false, false] rfl rfl (take_ofW HT_.out HW_.out (by kernel_rfl)) (fun _ _ _ h => h) (Or.inl ⟨by rfl, ?_⟩) hHeld ?_ ?_
        rotate_left
        · rintro w' ⟨s0, s1, s2, s3⟩
          go_simp
          with_reducible rfl
        rotate_left
        · simp only [Act.put, List.setIfInBounds_toArray, List.set_cons_zero, List.set_cons_succ, i64_w, i32_w]
          rfl
        refine take_ (i := 22) (N := (some 46)) (v := ?_) (a' := ?_) #[true, true, true, true, true, true, false, false, true, true, true, true, true, true, false, false, false, true, true, true, true, true, true, false, false, false, true, true, true, true, true, false, false, false, false, false] rfl rfl (take_ofW HT_.out HW_.out (by kernel_rfl)) (fun _ _ _ h => h) (Or.inl ⟨by rfl, ?_⟩) hHeld ?_ ?_
        rotate_left
        · rintro w' ⟨s0, s1, s2, s3⟩
          go_simp
          with_reducible rfl
        rotate_left
        · simp only [Act.put, List.setIfInBounds_toArray, List.set_cons_zero, List.set_cons_succ, i64_w, i32_w]
          rfl
        refine take_ (i := 31) (N := (some 55)) (v := ?_) (a' := ?_) #[true, true, true, true, true, true, false, false, true, true, true, true, true, true, false, false, false, true, true, true, true, true, true, false, false, false, true, true, true, true, true, true, false, false, false, false] rfl rfl (take_ofW HT_.out HW_.out (by kernel_rfl)) (fun _ _ _ h => h) (Or.inl ⟨by rfl, ?_⟩) hHeld ?_ ?_
        rotate_left
        · rintro w' ⟨s0, s1, s2, s3⟩
          go_simp
          with_reducible rfl
        rotate_left
        · simp only [Act.put, List.setIfInBounds_toArray, List.set_cons_zero, List.set_cons_succ, i64_w, i32_w]
          rfl
        refine pure_ (i := 6) (N := (some 30)) (v := ?_) (a' := ?_) #[true, true, true, true, true, true, true, false, true, true, true, true, true, true, false, false, false, true, true, true, true, true, true, false, false, false, true, true, true, true, true, true, false, false, false, false] rfl rfl (any_of HT_.out (by kernel_rfl)) (fun _ _ _ h => h) (Or.inl ⟨by rfl, ?_⟩) ?_ ?_
        rotate_left
        · intro w'
          go_simp
          first | with_reducible rfl | (simp; done) | rfl
        rotate_left
        · simp only [Act.put, List.setIfInBounds_toArray, List.set_cons_zero, List.set_cons_succ, i64_w, i32_w]
          rfl
        refine pure_ (i := 7) (N := (some 31)) (v := ?_) (a' := ?_) #[true, true, true, true, true, true, true, true, true, true, true, true, true, true, false, false, false, true, true, true, true, true, true, false, false, false, true, true, true, true, true, true, false, false, false, false] rfl rfl (any_of HT_.out (by kernel_rfl)) (fun _ _ _ h => h) (Or.inl ⟨by rfl, ?_⟩) ?_ ?_
        rotate_left
        · intro w'
          go_simp
          first | with_reducible rfl | (simp; done) | rfl
        rotate_left
        · simp only [Act.put, List.setIfInBounds_toArray, List.set_cons_zero, List.set_cons_succ, i64_w, i32_w]
          rfl
        refine pure_ (i := 14) (N := (some 38)) (v := ?_) (a' := ?_) #[true, true, true, true, true, true, true, true, true, true, true, true, true, true, true, false, false, true, true, true, true, true, true, false, false, false, true, true, true, true, true, true, false, false, false, false] rfl rfl (any_of HT_.out (by kernel_rfl)) (fun _ _ _ h => h) (Or.inl ⟨by rfl, ?_⟩) ?_ ?_
        rotate_left
        · intro w'
          go_simp
          first | with_reducible rfl | (simp; done) | rfl
        rotate_left
        · simp only [Act.put, List.setIfInBounds_toArray, List.set_cons_zero, List.set_cons_succ, i64_w, i32_w]
          rfl
        refine pure_ (i := 15) (N := (some 39)) (v := ?_) (a' := ?_) #[true, true, true, true, true, true, true, true, true, true, true, true, true, true, true, true, false, true, true, true, true, true, true, false, false, false, true, true, true, true, true, true, false, false, false, false] rfl rfl (any_of HT_.out (by kernel_rfl)) (fun _ _ _ h => h) (Or.inl ⟨by rfl, ?_⟩) ?_ ?_
        rotate_left
        · intro w'
          go_simp
          first | with_reducible rfl | (simp; done) | rfl
        rotate_left
        · simp only [Act.put, List.setIfInBounds_toArray, List.set_cons_zero, List.set_cons_succ, i64_w, i32_w]
          rfl
        refine pure_ (i := 16) (N := (some 40)) (v := ?_) (a' := ?_) #[true, true, true, true, true, true, true, true, true, true, true, true, true, true, true, true, true, true, true, true, true, true, true, false, false, false, true, true, true, true, true, true, false, false, false, false] rfl rfl (any_of HT_.out (by kernel_rfl)) (fun _ _ _ h => h) (Or.inl ⟨by rfl, ?_⟩) ?_ ?_
        rotate_left
        · intro w'
          go_simp
          first | with_reducible rfl | (simp; done) | rfl
        rotate_left
        · simp only [Act.put, List.setIfInBounds_toArray, List.set_cons_zero, List.set_cons_succ, i64_w, i32_w]
          rfl
        refine pure_ (i := 23) (N := (some 47)) (v := ?_) (a' := ?_) #[true, true, true, true, true, true, true, true, true, true, true, true, true, true, true, true, true, true, true, true, true, true, true, true, false, false, true, true, true, true, true, true, false, false, false, false] rfl rfl (any_of HT_.out (by kernel_rfl)) (fun _ _ _ h => h) (Or.inl ⟨by rfl, ?_⟩) ?_ ?_
        rotate_left
        · intro w'
          go_simp
          first | with_reducible rfl | (simp; done) | rfl
        rotate_left
        · simp only [Act.put, List.setIfInBounds_toArray, List.set_cons_zero, List.set_cons_succ, i64_w, i32_w]
          rfl
        refine pure_ (i := 24) (N := (some 48)) (v := ?_) (a' := ?_) #[true, true, true, true, true, true, true, true, true, true, true, true, true, true, true, true, true, true, true, true, true, true, true, true, true, false, true, true, true, true, true, true, false, false, false, false] rfl rfl (any_of HT_.out (by kernel_rfl)) (fun _ _ _ h => h) (Or.inl ⟨by rfl, ?_⟩) ?_ ?_
        rotate_left
        · intro w'
          go_simp
          first | with_reducible rfl | (simp; done) | rfl
        rotate_left
        · simp only [Act.put, List.setIfInBounds_toArray, List.set_cons_zero, List.set_cons_succ, i64_w, i32_w]
          rfl
        refine pure_ (i := 25) (N := (some 49)) (v := ?_) (a' := ?_) #[true, true, true, true, true, true, true, true, true, true, true, true, true, true, true, true, true, true, true, true, true, true, true, true, true, true, true, true, true, true, true, true, false, false, false, false] rfl rfl (any_of HT_.out (by kernel_rfl)) (fun _ _ _ h => h) (Or.inl ⟨by rfl, ?_⟩) ?_ ?_
        rotate_left
        · intro w'
          go_simp
          first | with_reducible rfl | (simp; done) | rfl
        rotate_left
        · simp only [Act.put, List.setIfInBounds_toArray, List.set_cons_zero, List.set_cons_succ, i64_w, i32_w]
          rfl
        refine pure_ (i := 32) (N := (some 56)) (v := ?_) (a' := ?_) #[true, true, true, true, true, true, true, true, true, true, true, true, true, true, true, true, true, true, true, true, true, true, true, true, true, true, true, true, true, true, true, true, true, false, false, false] rfl rfl (any_of HT_.out (by kernel_rfl)) (fun _ _ _ h => h) (Or.inl ⟨by rfl, ?_⟩) ?_ ?_
        rotate_left
        · intro w'
          go_simp
          first | with_reducible rfl | (simp; done) | rfl
        rotate_left
        · simp only [Act.put, List.setIfInBounds_toArray, List.set_cons_zero, List.set_cons_succ, i64_w, i32_w]
          rfl
        refine pure_ (i := 33) (N := (some 57)) (v := ?_) (a' := ?_) #[true, true, true, true, true, true, true, true, true, true, true, true, true, true, true, true, true, true, true, true, true, true, true, true, true, true, true, true, true, true, true, true, true, true, false, false] rfl rfl (any_of HT_.out (by kernel_rfl)) (fun _ _ _ h => h) (Or.inl ⟨by rfl, ?_⟩) ?_ ?_
        rotate_left
        · intro w'
          go_simp
          first | with_reducible rfl | (simp; done) | rfl
        rotate_left
        · simp only [Act.put, List.setIfInBounds_toArray, List.set_cons_zero, List.set_cons_succ, i64_w, i32_w]
          rfl
        refine pure_ (i := 34) (N := (some 58)) (v := ?_) (a' := ?_) #[true, true, true, true, true, true, true, true, true, true, true, true, true, true, true, true, true, true, true, true, true, true, true, true, true, true, true, true, true, true, true, true, true, true, true, false] rfl rfl (any_of HT_.out (by kernel_rfl)) (fun _ _ _ h => h) (Or.inl ⟨by rfl, ?_⟩) ?_ ?_
        rotate_left
        · intro w'
          go_simp
          first | with_reducible rfl | (simp; done) | rfl
        rotate_left
        · simp only [Act.put, List.setIfInBounds_toArray, List.set_cons_zero, List.set_cons_succ, i64_w, i32_w]
          rfl
        refine one_ (i := 35) (N := none) #[true, true, true, true, true, true, true, true, true, true, true, true, true, true, true, true, true, true, true, true, true, true, true, true, true, true, true, true, true, true, true, true, true, true, true, true] rfl rfl (one_of HT_.out (by kernel_rfl)) (by decide) (fun K hK => ?_)
        refine skip_ (w1 := ?_) (by rfl) rfl ?_ ?_
        rotate_left
        · go_simp
          rfl
        refine hK.out _ _ ⟨(cell_far (p := ⟨gw, t, none⟩) hkw _).trans hHeld.1, (cell_far (p := ⟨gw, t, none⟩) hkw _).trans hHeld.2.1, (cell_far (p := ⟨gw, t, none⟩) hkw _).trans hHeld.2.2.1, (cell_far (p := ⟨gw, t, none⟩) hkw _).trans hHeld.2.2.2⟩ (fun hHeld => ?_)
        clear hK K
        refine done_ (done_of HT_.out (by kernel_rfl)) ?_
        go_wp2
        refine ⟨⟨t + 1, by omega, by simp, ⟨?_, below_set (below_drew1 HB.out) GW.out⟩⟩, by simp [intOf]; omega⟩
        have hw := wsTo_set b t hlt
        rw [if_pos h16] at hw
        rw [← hw]
        refine blk_put (blk_drew BW.out) t _ ?_
        rw [arr32_set]
        have g0 : IntKind.u32.wrap (c0 * 16777216) = c0 * 16777216 := by rw [IntKind.wrap_u32]; omega
        have g1 : IntKind.u32.wrap (c1 * 65536) = c1 * 65536 := by rw [IntKind.wrap_u32]; omega
        have g2 : IntKind.u32.wrap (c2 * 256) = c2 * 256 := by rw [IntKind.wrap_u32]; omega
        unfold word
        rw [E0.out, E1.out, E2.out, E3.out, g0, g1, g2]
        rfl
      · have hl : t ≤ 64 := ht
        have lay : ∀ d : Nat, d < 17 → 0 < d → IntKind.i64.wrap ((t : Int) - d) = (t : Int) - d := fun d h1 h2 => by rw [IntKind.wrap_i64]; omega
        have hs16 : IntKind.i64.wrap ((t : Int) - 16) = (t : Int) - 16 := lay 16 (by omega) (by omega)
        have hs15 : IntKind.i64.wrap ((t : Int) - 15) = (t : Int) - 15 := lay 15 (by omega) (by omega)
        have hs7 : IntKind.i64.wrap ((t : Int) - 7) = (t : Int) - 7 := lay 7 (by omega) (by omega)
        have hs2 : IntKind.i64.wrap ((t : Int) - 2) = (t : Int) - 2 := lay 2 (by omega) (by omega)
        have ix : ∀ (d : Nat) (W : World), d < 17 → 0 < d → (Instr.indexAt 59 (.pointer (some ⟨gw, 0, none⟩)) (.int .i64 ((t : Int) - d))).run Tryd.prog W = .ok (.pointer (some ⟨gw, t - d, none⟩)) W := fun d W h1 h2 => by
          have := idx_arr Tryd.underlying59 (by kernel_rfl) (by kernel_rfl) gw (t - d) (by omega) W
          rwa [show ((t - d : Nat) : Int) = (t : Int) - d by omega] at this
        have ix16 := fun W => ix 16 W (by omega) (by omega)
        have ix15 := fun W => ix 15 W (by omega) (by omega)
        have ix7 := fun W => ix 7 W (by omega) (by omega)
        have ix2 := fun W => ix 2 W (by omega) (by omega)
        rw [show ((16 : Nat) : Int) = 16 from rfl] at ix16
        rw [show ((15 : Nat) : Int) = 15 from rfl] at ix15
        rw [show ((7 : Nat) : Int) = 7 from rfl] at ix7
        rw [show ((2 : Nat) : Int) = 2 from rfl] at ix2
        have cx : ∀ (d : Nat), d < 17 → 0 < d → wr.cell? ⟨gw, t - d, none⟩ = some (.int .u32 (at_ (schedTo b t) (t - d))) := fun d h1 h2 => by
          rw [← wsTo_at b t (t - d) (by omega) hl]
          exact cell_of_32 BW.out (t - d) (by rw [wsTo_length b t hl]; omega)
        have ux : ∀ (d : Nat), d < 17 → 0 < d → U32 (at_ (schedTo b t) (t - d)) := fun d h1 h2 => at_mem _ (sched_u32 b t) (t - d) (by rw [schedTo_length]; omega)
        obtain ⟨x16, e16⟩ : ∃ x, at_ (schedTo b t) (t - 16) = x := ⟨_, rfl⟩
        obtain ⟨x15, e15⟩ : ∃ x, at_ (schedTo b t) (t - 15) = x := ⟨_, rfl⟩
        obtain ⟨x7, e7⟩ : ∃ x, at_ (schedTo b t) (t - 7) = x := ⟨_, rfl⟩
        obtain ⟨x2, e2⟩ : ∃ x, at_ (schedTo b t) (t - 2) = x := ⟨_, rfl⟩
        have c16 : wr.drew.drew.cell? ⟨gw, t - 16, none⟩ = some (.int .u32 x16) := e16 ▸ cx 16 (by omega) (by omega)
        have c15 : wr.drew.cell? ⟨gw, t - 15, none⟩ = some (.int .u32 x15) := e15 ▸ cx 15 (by omega) (by omega)
        have c7 : wr.drew.drew.cell? ⟨gw, t - 7, none⟩ = some (.int .u32 x7) := e7 ▸ cx 7 (by omega) (by omega)
        have c2 : wr.drew.cell? ⟨gw, t - 2, none⟩ = some (.int .u32 x2) := e2 ▸ cx 2 (by omega) (by omega)
        have u15 := e15 ▸ ux 15 (by omega) (by omega)
        have u2 := e2 ▸ ux 2 (by omega) (by omega)
        have hcw : wr.drew.drew.cell? ⟨gw, t, none⟩ = some (.int .u32 (at_ (wsTo b t) t)) := cell_of_32 (blk_drew (blk_drew BW.out)) t (by rw [wsTo_length b t ht]; exact hlt)
        have hfw : wr.drew.drew.frozen? ⟨gw, t, none⟩ = false := blk_frozen (blk_drew (blk_drew BW.out)) t
        have E16 := Aside0.mk e16
        have E15 := Aside0.mk e15
        have E7 := Aside0.mk e7
        have E2 := Aside0.mk e2
        have U15 : Aside0 (0 ≤ x15) := ⟨And.left u15⟩
        have U2 : Aside0 (0 ≤ x2) := ⟨And.left u2⟩
        clear e16 e15 e7 e2 cx ux ix lay u15 u2
        go_wp2
        refine start_ (n := 10) (S := fun w' => w'.cell? ⟨gw, t - 15, none⟩ = some (.int .u32 x15) ∧ w'.cell? ⟨gw, t - 2, none⟩ = some (.int .u32 x2)) (ds := []) #[false, false, false, false, false, false, false, false, false, false] (by kernel_rfl) rfl rfl ⟨c15, c2⟩ (fun hHeld => ?_)
        refine with_tabW blk6_tab blk6_bits (fun HT_ HW_ => ?_)
        refine pure_ (i := 0) (N := (some 59)) (v := ?_) (a' := ?_) #[true, false, false, false, false, false, false, false, false, false] rfl rfl (any_of HT_.out (by kernel_rfl)) (fun _ _ _ h => h) (Or.inl ⟨by rfl, ?_⟩) ?_ ?_
        rotate_left
        · intro w'
          go_simp
          first | with_reducible rfl | (simp; done) | rfl
        rotate_left
        · simp only [Act.put, List.setIfInBounds_toArray, List.set_cons_zero, List.set_cons_succ, i64_w, i32_w]
          rfl
        refine pure_ (i := 1) (N := (some 60)) (v := ?_) (a' := ?_) #[true, true, false, false, false, false, false, false, false, false] rfl rfl (any_of HT_.out (by kernel_rfl)) (fun _ _ _ h => h) (Or.inl ⟨by rfl, ?_⟩) ?_ ?_
        rotate_left
        · intro w'
          go_simp
          first | with_reducible rfl | (simp; done) | rfl
        rotate_left
        · simp only [Act.put, List.setIfInBounds_toArray, List.set_cons_zero, List.set_cons_succ, i64_w, i32_w]
          rfl
        refine pure_ (i := 2) (N := (some 61)) (v := ?_) (a' := ?_) #[true, true, true, false, false, false, false, false, false, false] rfl rfl (any_of HT_.out (by kernel_rfl)) (fun _ _ _ h => h) (Or.inl ⟨by rfl, ?_⟩) ?_ ?_
        rotate_left
        · intro w'
          go_simp
          first | with_reducible rfl | (simp; done) | rfl
        rotate_left
        · simp only [Act.put, List.setIfInBounds_toArray, List.set_cons_zero, List.set_cons_succ, i64_w, i32_w]
          rfl
        refine pure_ (i := 4) (N := (some 63)) (v := ?_) (a' := ?_) #[true, true, true, false, true, false, false, false, false, false] rfl rfl (any_of HT_.out (by kernel_rfl)) (fun _ _ _ h => h) (Or.inl ⟨by rfl, ?_⟩) ?_ ?_
        rotate_left
        · intro w'
          go_simp
          first | with_reducible rfl | (simp; done) | rfl
        rotate_left
        · simp only [Act.put, List.setIfInBounds_toArray, List.set_cons_zero, List.set_cons_succ, i64_w, i32_w]
          rfl
        refine pure_ (i := 5) (N := (some 64)) (v := ?_) (a' := ?_) #[true, true, true, false, true, true, false, false, false, false] rfl rfl (any_of HT_.out (by kernel_rfl)) (fun _ _ _ h => h) (Or.inl ⟨by rfl, ?_⟩) ?_ ?_
        rotate_left
        · intro w'
          go_simp
          first | with_reducible rfl | (simp; done) | rfl
        rotate_left
        · simp only [Act.put, List.setIfInBounds_toArray, List.set_cons_zero, List.set_cons_succ, i64_w, i32_w]
          rfl
        refine pure_ (i := 6) (N := (some 65)) (v := ?_) (a' := ?_) #[true, true, true, false, true, true, true, false, false, false] rfl rfl (any_of HT_.out (by kernel_rfl)) (fun _ _ _ h => h) (Or.inl ⟨by rfl, ?_⟩) ?_ ?_
        rotate_left
        · intro w'
          go_simp
          first | with_reducible rfl | (simp; done) | rfl
        rotate_left
        · simp only [Act.put, List.setIfInBounds_toArray, List.set_cons_zero, List.set_cons_succ, i64_w, i32_w]
          rfl
        refine take_ (i := 3) (N := (some 62)) (v := ?_) (a' := ?_) #[true, true, true, true, true, true, true, false, false, false] rfl rfl (take_ofW HT_.out HW_.out (by kernel_rfl)) (fun _ _ _ h => h) (Or.inl ⟨by rfl, ?_⟩) hHeld ?_ ?_
        rotate_left
        · rintro w' ⟨s0, s1⟩
          go_simp
          with_reducible rfl
        rotate_left
        · simp only [Act.put, List.setIfInBounds_toArray, List.set_cons_zero, List.set_cons_succ, i64_w, i32_w]
          rfl
        refine take_ (i := 7) (N := (some 66)) (v := ?_) (a' := ?_) #[true, true, true, true, true, true, true, true, false, false] rfl rfl (take_ofW HT_.out HW_.out (by kernel_rfl)) (fun _ _ _ h => h) (Or.inl ⟨by rfl, ?_⟩) hHeld ?_ ?_
        rotate_left
        · rintro w' ⟨s0, s1⟩
          go_simp
          with_reducible rfl
        rotate_left
        · simp only [Act.put, List.setIfInBounds_toArray, List.set_cons_zero, List.set_cons_succ, i64_w, i32_w]
          rfl
        refine pure_ (i := 8) (N := (some 6)) (v := ?_) (a' := ?_) #[true, true, true, true, true, true, true, true, true, false] rfl rfl (any_of HT_.out (by kernel_rfl)) (fun _ _ _ h => h) (Or.inl ⟨by rfl, ?_⟩) ?_ ?_
        rotate_left
        · intro w'
          go_simp
          first | with_reducible rfl | (simp; done) | rfl
        rotate_left
        · simp only [Act.put, List.setIfInBounds_toArray, List.set_cons_zero, List.set_cons_succ, i64_w, i32_w]
          rfl
        refine pure_ (i := 9) (N := (some 7)) (v := ?_) (a' := ?_) #[true, true, true, true, true, true, true, true, true, true] rfl rfl (any_of HT_.out (by kernel_rfl)) (fun _ _ _ h => h) (Or.inl ⟨by rfl, ?_⟩) ?_ ?_
        rotate_left
        · intro w'
          go_simp
          first | with_reducible rfl | (simp; done) | rfl
        rotate_left
        · simp only [Act.put, List.setIfInBounds_toArray, List.set_cons_zero, List.set_cons_succ, i64_w, i32_w]
          rfl
        refine done_ (done_of HT_.out (by kernel_rfl)) ?_
        go_wp2
        refine start_ (n := 30) (S := fun w' => w'.cell? ⟨gw, t - 16, none⟩ = some (.int .u32 x16) ∧ w'.cell? ⟨gw, t - 7, none⟩ = some (.int .u32 x7)) (ds := []) #[false, false, false, false, false, false, false, false, false, false, false, false, false, false, false, false, false, false, false, false, false, false, false, false, false, false, false, false, false, false] (by kernel_rfl) rfl rfl ⟨c16, c7⟩ (fun hHeld => ?_)
        refine with_tabW blk7_tab blk7_bits (fun HT_ HW_ => ?_)
        refine pure_ (i := 0) (N := (some 67)) (v := ?_) (a' := ?_) #[true, false, false, false, false, false, false, false, false, false, false, false, false, false, false, false, false, false, false, false, false, false, false, false, false, false, false, false, false, false] rfl rfl (any_of HT_.out (by kernel_rfl)) (fun _ _ _ h => h) (Or.inl ⟨by rfl, ?_⟩) ?_ ?_
        rotate_left
        · intro w'
          go_simp
          first | with_reducible rfl | (simp; done) | rfl
        rotate_left
        · simp only [Act.put, List.setIfInBounds_toArray, List.set_cons_zero, List.set_cons_succ, i64_w, i32_w]
          rfl
        refine pure_ (i := 1) (N := (some 68)) (v := ?_) (a' := ?_) #[true, true, false, false, false, false, false, false, false, false, false, false, false, false, false, false, false, false, false, false, false, false, false, false, false, false, false, false, false, false] rfl rfl (any_of HT_.out (by kernel_rfl)) (fun _ _ _ h => h) (Or.inl ⟨by rfl, ?_⟩) ?_ ?_
        rotate_left
        · intro w'
          go_simp
          first | with_reducible rfl | (simp; done) | rfl
        rotate_left
        · simp only [Act.put, List.setIfInBounds_toArray, List.set_cons_zero, List.set_cons_succ, i64_w, i32_w]
          rfl
        refine pure_ (i := 2) (N := (some 69)) (v := ?_) (a' := ?_) #[true, true, true, false, false, false, false, false, false, false, false, false, false, false, false, false, false, false, false, false, false, false, false, false, false, false, false, false, false, false] rfl rfl (any_of HT_.out (by kernel_rfl)) (fun _ _ _ h => h) (Or.inl ⟨by rfl, ?_⟩) ?_ ?_
        rotate_left
        · intro w'
          go_simp
          first | with_reducible rfl | (simp; done) | rfl
        rotate_left
        · simp only [Act.put, List.setIfInBounds_toArray, List.set_cons_zero, List.set_cons_succ, i64_w, i32_w]
          rfl
        refine pure_ (i := 3) (N := (some 70)) (v := ?_) (a' := ?_) #[true, true, true, true, false, false, false, false, false, false, false, false, false, false, false, false, false, false, false, false, false, false, false, false, false, false, false, false, false, false] rfl rfl (any_of HT_.out (by kernel_rfl)) (fun _ _ _ h => h) (Or.inl ⟨by rfl, ?_⟩) ?_ ?_
        rotate_left
        · intro w'
          go_simp
          first | with_reducible rfl | (simp; done) | rfl
        rotate_left
        · simp only [Act.put, List.setIfInBounds_toArray, List.set_cons_zero, List.set_cons_succ, i64_w, i32_w]
          rfl
        refine pure_ (i := 5) (N := (some 72)) (v := ?_) (a' := ?_) #[true, true, true, true, false, true, false, false, false, false, false, false, false, false, false, false, false, false, false, false, false, false, false, false, false, false, false, false, false, false] rfl rfl (any_of HT_.out (by kernel_rfl)) (fun _ _ _ h => h) (Or.inl ⟨by rfl, ?_⟩) ?_ ?_
        rotate_left
        · intro w'
          go_simp
          first | with_reducible rfl | (simp; done) | rfl
        rotate_left
        · simp only [Act.put, List.setIfInBounds_toArray, List.set_cons_zero, List.set_cons_succ, i64_w, i32_w]
          rfl
        refine pure_ (i := 7) (N := (some 74)) (v := ?_) (a' := ?_) #[true, true, true, true, false, true, false, true, false, false, false, false, false, false, false, false, false, false, false, false, false, false, false, false, false, false, false, false, false, false] rfl rfl (any_of HT_.out (by kernel_rfl)) (fun _ _ _ h => h) (Or.inl ⟨by rfl, ?_⟩) ?_ ?_
        rotate_left
        · intro w'
          go_simp
          first | with_reducible rfl | (simp; done) | rfl
        rotate_left
        · simp only [Act.put, List.setIfInBounds_toArray, List.set_cons_zero, List.set_cons_succ, i64_w, i32_w]
          rfl
        refine pure_ (i := 10) (N := (some 77)) (v := ?_) (a' := ?_) #[true, true, true, true, false, true, false, true, false, false, true, false, false, false, false, false, false, false, false, false, false, false, false, false, false, false, false, false, false, false] rfl rfl (any_of HT_.out (by kernel_rfl)) (fun _ _ _ h => h) (Or.inl ⟨by rfl, ?_⟩) ?_ ?_
        rotate_left
        · intro w'
          go_simp
          first | with_reducible rfl | (simp; done) | rfl
        rotate_left
        · simp only [Act.put, List.setIfInBounds_toArray, List.set_cons_zero, List.set_cons_succ, i64_w, i32_w]
          rfl
        refine pure_ (i := 11) (N := (some 78)) (v := ?_) (a' := ?_) #[true, true, true, true, false, true, false, true, false, false, true, true, false, false, false, false, false, false, false, false, false, false, false, false, false, false, false, false, false, false] rfl rfl (any_of HT_.out (by kernel_rfl)) (fun _ _ _ h => h) (Or.inl ⟨by rfl, ?_⟩) ?_ ?_
        rotate_left
        · intro w'
          go_simp
          first | with_reducible rfl | (simp; done) | rfl
        rotate_left
        · simp only [Act.put, List.setIfInBounds_toArray, List.set_cons_zero, List.set_cons_succ, i64_w, i32_w]
          rfl
        refine pure_ (i := 14) (N := (some 81)) (v := ?_) (a' := ?_) #[true, true, true, true, false, true, false, true, false, false, true, true, false, false, true, false, false, false, false, false, false, false, false, false, false, false, false, false, false, false] rfl rfl (any_of HT_.out (by kernel_rfl)) (fun _ _ _ h => h) (Or.inl ⟨by rfl, ?_⟩) ?_ ?_
        rotate_left
        · intro w'
          go_simp
          first | with_reducible rfl | (simp; done) | rfl
        rotate_left
        · simp only [Act.put, List.setIfInBounds_toArray, List.set_cons_zero, List.set_cons_succ, i64_w, i32_w]
          rfl
        refine pure_ (i := 15) (N := (some 82)) (v := ?_) (a' := ?_) #[true, true, true, true, false, true, false, true, false, false, true, true, false, false, true, true, false, false, false, false, false, false, false, false, false, false, false, false, false, false] rfl rfl (any_of HT_.out (by kernel_rfl)) (fun _ _ _ h => h) (Or.inl ⟨by rfl, ?_⟩) ?_ ?_
        rotate_left
        · intro w'
          go_simp
          first | with_reducible rfl | (simp; done) | rfl
        rotate_left
        · simp only [Act.put, List.setIfInBounds_toArray, List.set_cons_zero, List.set_cons_succ, i64_w, i32_w]
          rfl
        refine pure_ (i := 16) (N := (some 83)) (v := ?_) (a' := ?_) #[true, true, true, true, false, true, false, true, false, false, true, true, false, false, true, true, true, false, false, false, false, false, false, false, false, false, false, false, false, false] rfl rfl (any_of HT_.out (by kernel_rfl)) (fun _ _ _ h => h) (Or.inl ⟨by rfl, ?_⟩) ?_ ?_
        rotate_left
        · intro w'
          go_simp
          first | with_reducible rfl | (simp; done) | rfl
        rotate_left
        · simp only [Act.put, List.setIfInBounds_toArray, List.set_cons_zero, List.set_cons_succ, i64_w, i32_w]
          rfl
        refine pure_ (i := 19) (N := (some 86)) (v := ?_) (a' := ?_) #[true, true, true, true, false, true, false, true, false, false, true, true, false, false, true, true, true, false, false, true, false, false, false, false, false, false, false, false, false, false] rfl rfl (any_of HT_.out (by kernel_rfl)) (fun _ _ _ h => h) (Or.inl ⟨by rfl, ?_⟩) ?_ ?_
        rotate_left
        · intro w'
          go_simp
          first | with_reducible rfl | (simp; done) | rfl
        rotate_left
        · simp only [Act.put, List.setIfInBounds_toArray, List.set_cons_zero, List.set_cons_succ, i64_w, i32_w]
          rfl
        refine pure_ (i := 21) (N := (some 88)) (v := ?_) (a' := ?_) #[true, true, true, true, false, true, false, true, false, false, true, true, false, false, true, true, true, false, false, true, false, true, false, false, false, false, false, false, false, false] rfl rfl (any_of HT_.out (by kernel_rfl)) (fun _ _ _ h => h) (Or.inl ⟨by rfl, ?_⟩) ?_ ?_
        rotate_left
        · intro w'
          go_simp
          first | with_reducible rfl | (simp; done) | rfl
        rotate_left
        · simp only [Act.put, List.setIfInBounds_toArray, List.set_cons_zero, List.set_cons_succ, i64_w, i32_w]
          rfl
        refine pure_ (i := 24) (N := (some 91)) (v := ?_) (a' := ?_) #[true, true, true, true, false, true, false, true, false, false, true, true, false, false, true, true, true, false, false, true, false, true, false, false, true, false, false, false, false, false] rfl rfl (any_of HT_.out (by kernel_rfl)) (fun _ _ _ h => h) (Or.inl ⟨by rfl, ?_⟩) ?_ ?_
        rotate_left
        · intro w'
          go_simp
          first | with_reducible rfl | (simp; done) | rfl
        rotate_left
        · simp only [Act.put, List.setIfInBounds_toArray, List.set_cons_zero, List.set_cons_succ, i64_w, i32_w]
          rfl
        refine pure_ (i := 25) (N := (some 92)) (v := ?_) (a' := ?_) #[true, true, true, true, false, true, false, true, false, false, true, true, false, false, true, true, true, false, false, true, false, true, false, false, true, true, false, false, false, false] rfl rfl (any_of HT_.out (by kernel_rfl)) (fun _ _ _ h => h) (Or.inl ⟨by rfl, ?_⟩) ?_ ?_
        rotate_left
        · intro w'
          go_simp
          first | with_reducible rfl | (simp; done) | rfl
        rotate_left
        · simp only [Act.put, List.setIfInBounds_toArray, List.set_cons_zero, List.set_cons_succ, i64_w, i32_w]
          rfl
        refine take_ (i := 4) (N := (some 71)) (v := ?_) (a' := ?_) #[true, true, true, true, true, true, false, true, false, false, true, true, false, false, true, true, true, false, false, true, false, true, false, false, true, true, false, false, false, false] rfl rfl (take_ofW HT_.out HW_.out (by kernel_rfl)) (fun _ _ _ h => h) (Or.inl ⟨by rfl, ?_⟩) hHeld ?_ ?_
        rotate_left
        · rintro w' ⟨s0, s1⟩
          go_simp
          with_reducible rfl
        rotate_left
        · simp only [Act.put, List.setIfInBounds_toArray, List.set_cons_zero, List.set_cons_succ, i64_w, i32_w]
          rfl
        refine take_ (i := 17) (N := (some 84)) (v := ?_) (a' := ?_) #[true, true, true, true, true, true, false, true, false, false, true, true, false, false, true, true, true, true, false, true, false, true, false, false, true, true, false, false, false, false] rfl rfl (take_ofW HT_.out HW_.out (by kernel_rfl)) (fun _ _ _ h => h) (Or.inl ⟨by rfl, ?_⟩) hHeld ?_ ?_
        rotate_left
        · rintro w' ⟨s0, s1⟩
          go_simp
          with_reducible rfl
        rotate_left
        · simp only [Act.put, List.setIfInBounds_toArray, List.set_cons_zero, List.set_cons_succ, i64_w, i32_w]
          rfl
        refine one_ (i := 6) (N := (some 73)) #[true, true, true, true, true, true, true, true, false, false, true, true, false, false, true, true, true, true, false, true, false, true, false, false, true, true, false, false, false, false] rfl rfl (one_of HT_.out (by kernel_rfl)) (by decide) (fun K hK => ?_)
        refine goes_ Tryd.func53 (by kernel_rfl) rfl #[.int .u32 x15, .int .i64 7] (by rfl) rfl rfl (by (try simp only [List.map_toArray, List.map_cons, List.map_nil]); first | done | rfl) ?_
        with_reducible refine (turned_m x15 7 7 rfl (by omega) (by omega) U15.out _).mono ?_
        rintro e0 w' ⟨rfl, rfl⟩
        refine ⟨_, rfl, ?_⟩
        refine hK.out _ _ hHeld (fun hHeld => ?_)
        clear hK K
        refine norm_ (a' := ?_) ?_ ?_
        rotate_left
        · show Act.put _ (some 73) _ = _
          simp only [Act.put, List.setIfInBounds_toArray, List.set_cons_zero, List.set_cons_succ, i64_w, i32_w]
          rfl
        refine one_ (i := 8) (N := (some 75)) #[true, true, true, true, true, true, true, true, true, false, true, true, false, false, true, true, true, true, false, true, false, true, false, false, true, true, false, false, false, false] rfl rfl (one_of HT_.out (by kernel_rfl)) (by decide) (fun K hK => ?_)
        refine goes_ Tryd.func53 (by kernel_rfl) rfl #[.int .u32 x15, .int .i64 18] (by rfl) rfl rfl (by (try simp only [List.map_toArray, List.map_cons, List.map_nil]); first | done | rfl) ?_
        with_reducible refine (turned_m x15 18 18 rfl (by omega) (by omega) U15.out _).mono ?_
        rintro e0 w' ⟨rfl, rfl⟩
        refine ⟨_, rfl, ?_⟩
        refine hK.out _ _ hHeld (fun hHeld => ?_)
        clear hK K
        refine norm_ (a' := ?_) ?_ ?_
        rotate_left
        · show Act.put _ (some 75) _ = _
          simp only [Act.put, List.setIfInBounds_toArray, List.set_cons_zero, List.set_cons_succ, i64_w, i32_w]
          rfl
        refine pure_ (i := 9) (N := (some 76)) (v := ?_) (a' := ?_) #[true, true, true, true, true, true, true, true, true, true, true, true, false, false, true, true, true, true, false, true, false, true, false, false, true, true, false, false, false, false] rfl rfl (any_of HT_.out (by kernel_rfl)) (fun _ _ _ h => h) (Or.inl ⟨by rfl, ?_⟩) ?_ ?_
        rotate_left
        · intro w'
          go_simp
          first | with_reducible rfl | (simp; done) | rfl
        rotate_left
        · simp only [Act.put, List.setIfInBounds_toArray, List.set_cons_zero, List.set_cons_succ, i64_w, i32_w]
          rfl
        refine pure_ (i := 12) (N := (some 79)) (v := ?_) (a' := ?_) #[true, true, true, true, true, true, true, true, true, true, true, true, true, false, true, true, true, true, false, true, false, true, false, false, true, true, false, false, false, false] rfl rfl (any_of HT_.out (by kernel_rfl)) (fun _ _ _ h => h) (Or.inl ⟨by rfl, ?_⟩) ?_ ?_
        rotate_left
        · intro w'
          go_simp
          first | with_reducible rfl | (simp; done) | rfl
        rotate_left
        · simp only [Act.put, List.setIfInBounds_toArray, List.set_cons_zero, List.set_cons_succ, i64_w, i32_w]
          rfl
        refine pure_ (i := 13) (N := (some 80)) (v := ?_) (a' := ?_) #[true, true, true, true, true, true, true, true, true, true, true, true, true, true, true, true, true, true, false, true, false, true, false, false, true, true, false, false, false, false] rfl rfl (any_of HT_.out (by kernel_rfl)) (fun _ _ _ h => h) (Or.inl ⟨by rfl, ?_⟩) ?_ ?_
        rotate_left
        · intro w'
          go_simp
          first | with_reducible rfl | (simp; done) | rfl
        rotate_left
        · simp only [Act.put, List.setIfInBounds_toArray, List.set_cons_zero, List.set_cons_succ, i64_w, i32_w]
          rfl
        refine pure_ (i := 18) (N := (some 85)) (v := ?_) (a' := ?_) #[true, true, true, true, true, true, true, true, true, true, true, true, true, true, true, true, true, true, true, true, false, true, false, false, true, true, false, false, false, false] rfl rfl (any_of HT_.out (by kernel_rfl)) (fun _ _ _ h => h) (Or.inl ⟨by rfl, ?_⟩) ?_ ?_
        rotate_left
        · intro w'
          go_simp
          first | with_reducible rfl | (simp; done) | rfl
        rotate_left
        · simp only [Act.put, List.setIfInBounds_toArray, List.set_cons_zero, List.set_cons_succ, i64_w, i32_w]
          rfl
        refine one_ (i := 20) (N := (some 87)) #[true, true, true, true, true, true, true, true, true, true, true, true, true, true, true, true, true, true, true, true, true, true, false, false, true, true, false, false, false, false] rfl rfl (one_of HT_.out (by kernel_rfl)) (by decide) (fun K hK => ?_)
        refine goes_ Tryd.func53 (by kernel_rfl) rfl #[.int .u32 x2, .int .i64 17] (by rfl) rfl rfl (by (try simp only [List.map_toArray, List.map_cons, List.map_nil]); first | done | rfl) ?_
        with_reducible refine (turned_m x2 17 17 rfl (by omega) (by omega) U2.out _).mono ?_
        rintro e0 w' ⟨rfl, rfl⟩
        refine ⟨_, rfl, ?_⟩
        refine hK.out _ _ hHeld (fun hHeld => ?_)
        clear hK K
        refine norm_ (a' := ?_) ?_ ?_
        rotate_left
        · show Act.put _ (some 87) _ = _
          simp only [Act.put, List.setIfInBounds_toArray, List.set_cons_zero, List.set_cons_succ, i64_w, i32_w]
          rfl
        refine one_ (i := 22) (N := (some 89)) #[true, true, true, true, true, true, true, true, true, true, true, true, true, true, true, true, true, true, true, true, true, true, true, false, true, true, false, false, false, false] rfl rfl (one_of HT_.out (by kernel_rfl)) (by decide) (fun K hK => ?_)
        refine goes_ Tryd.func53 (by kernel_rfl) rfl #[.int .u32 x2, .int .i64 19] (by rfl) rfl rfl (by (try simp only [List.map_toArray, List.map_cons, List.map_nil]); first | done | rfl) ?_
        with_reducible refine (turned_m x2 19 19 rfl (by omega) (by omega) U2.out _).mono ?_
        rintro e0 w' ⟨rfl, rfl⟩
        refine ⟨_, rfl, ?_⟩
        refine hK.out _ _ hHeld (fun hHeld => ?_)
        clear hK K
        refine norm_ (a' := ?_) ?_ ?_
        rotate_left
        · show Act.put _ (some 89) _ = _
          simp only [Act.put, List.setIfInBounds_toArray, List.set_cons_zero, List.set_cons_succ, i64_w, i32_w]
          rfl
        refine pure_ (i := 23) (N := (some 90)) (v := ?_) (a' := ?_) #[true, true, true, true, true, true, true, true, true, true, true, true, true, true, true, true, true, true, true, true, true, true, true, true, true, true, false, false, false, false] rfl rfl (any_of HT_.out (by kernel_rfl)) (fun _ _ _ h => h) (Or.inl ⟨by rfl, ?_⟩) ?_ ?_
        rotate_left
        · intro w'
          go_simp
          first | with_reducible rfl | (simp; done) | rfl
        rotate_left
        · simp only [Act.put, List.setIfInBounds_toArray, List.set_cons_zero, List.set_cons_succ, i64_w, i32_w]
          rfl
        refine pure_ (i := 26) (N := (some 93)) (v := ?_) (a' := ?_) #[true, true, true, true, true, true, true, true, true, true, true, true, true, true, true, true, true, true, true, true, true, true, true, true, true, true, true, false, false, false] rfl rfl (any_of HT_.out (by kernel_rfl)) (fun _ _ _ h => h) (Or.inl ⟨by rfl, ?_⟩) ?_ ?_
        rotate_left
        · intro w'
          go_simp
          first | with_reducible rfl | (simp; done) | rfl
        rotate_left
        · simp only [Act.put, List.setIfInBounds_toArray, List.set_cons_zero, List.set_cons_succ, i64_w, i32_w]
          rfl
        refine pure_ (i := 27) (N := (some 94)) (v := ?_) (a' := ?_) #[true, true, true, true, true, true, true, true, true, true, true, true, true, true, true, true, true, true, true, true, true, true, true, true, true, true, true, true, false, false] rfl rfl (any_of HT_.out (by kernel_rfl)) (fun _ _ _ h => h) (Or.inl ⟨by rfl, ?_⟩) ?_ ?_
        rotate_left
        · intro w'
          go_simp
          first | with_reducible rfl | (simp; done) | rfl
        rotate_left
        · simp only [Act.put, List.setIfInBounds_toArray, List.set_cons_zero, List.set_cons_succ, i64_w, i32_w]
          rfl
        refine pure_ (i := 28) (N := (some 95)) (v := ?_) (a' := ?_) #[true, true, true, true, true, true, true, true, true, true, true, true, true, true, true, true, true, true, true, true, true, true, true, true, true, true, true, true, true, false] rfl rfl (any_of HT_.out (by kernel_rfl)) (fun _ _ _ h => h) (Or.inl ⟨by rfl, ?_⟩) ?_ ?_
        rotate_left
        · intro w'
          go_simp
          first | with_reducible rfl | (simp; done) | rfl
        rotate_left
        · simp only [Act.put, List.setIfInBounds_toArray, List.set_cons_zero, List.set_cons_succ, i64_w, i32_w]
          rfl
        have hne : ∀ d : Nat, 0 < d → t - d ≠ t := fun d h => by omega
        refine one_ (i := 29) (N := none) #[true, true, true, true, true, true, true, true, true, true, true, true, true, true, true, true, true, true, true, true, true, true, true, true, true, true, true, true, true, true] rfl rfl (one_of HT_.out (by kernel_rfl)) (by decide) (fun K hK => ?_)
        refine skip_ (w1 := ?_) (by rfl) rfl ?_ ?_
        rotate_left
        · go_simp
          rfl
        refine hK.out _ _ ⟨(cell_other _ gw t (t - 16) _ (by omega)).trans hHeld.1, (cell_other _ gw t (t - 7) _ (by omega)).trans hHeld.2⟩ (fun hHeld => ?_)
        clear hK K
        refine done_ (done_of HT_.out (by kernel_rfl)) ?_
        go_wp2
        refine ⟨⟨t + 1, by omega, by simp, ⟨?_, below_set (below_drew1 (below_drew1 HB.out)) GW.out⟩⟩, by simp [intOf]; omega⟩
        have hw := wsTo_set b t hlt
        rw [if_neg h16] at hw
        rw [← hw]
        refine blk_put (blk_drew (blk_drew BW.out)) t _ ?_
        rw [arr32_set]
        unfold nextW
        rw [E16.out, E15.out, E7.out, E2.out]
        unfold add32 sig0 sig1 xor32
        simp only [IntKind.wrap_u32]
    · have hends : wsTo b t = schedTo b 64 := by
        obtain rfl : t = 64 := by omega
        simp [wsTo]
      rw [hends] at BW
      clear hends
      have hks : gs < W.heap.size := blk_lt HP.out.st
      have BS : Aside0 (wr.heap[gs]? = some (.cells (arr32 s) 56 (0, 0))) := ⟨(HB.out.block gs hks).trans HP.out.st⟩
      have HNE : Aside0 (gs ≠ gw) := ⟨by have := GW.out; omega⟩
      obtain ⟨ws, hws⟩ : ∃ ws, schedTo b 64 = ws := ⟨_, rfl⟩
      rw [hws] at BW
      have HWL : Aside0 (ws.length = 64) := ⟨by rw [← hws]; exact schedTo_length b 64⟩
      have HWS := Aside0.mk hws
      have HWU : Aside0 (∀ x ∈ ws, U32 x) := ⟨by rw [← hws]; exact sched_u32 b 64⟩
      clear hws hks
      go_wp2_with (
        first
        | ((with_reducible refine gate_dst (N := 99) rfl ?_); refine wpList_load_row rfl 56 (.tmp 98) rfl gs rfl 56 (arr32 s) (0, 0) _ BS.out Tryd.underlying56 rfl (by rw [arr32_size, HP.out.sl]; exact info_st) ?_)
        | ((with_reducible refine gate_dst (N := 8) rfl ?_); refine box_event ?hg (N := 8) ?hd (cs := arr32 (List.replicate 8 0)) (t := 56) ?hr ?_; (case hd => rfl); (case hg => rfl); (case hr => first | (go_simp; done) | (go_simp; rfl));
           intro gv hg w2 hbox hb; have BV := Aside0.mk hbox; have GV := Aside0.mk (show W.heap.size ≤ gv by rw [hg]; exact below_size HB.out); have NWV := Aside0.mk (show gw ≠ gv by rw [hg]; exact Nat.ne_of_lt (blk_lt BW.out)); have n1 := Aside0.mk (blk_below BW.out hb); have n2 := Aside0.mk (blk_below BS.out hb); have HB1 := Aside0.mk (below_step HB.out hb); clear HB BW BS; have HB := HB1; have BW := n1; have BS := n2; clear HB1 n1 n2 hb hbox hg)
        | ((with_reducible refine gate_store (p := 8) rfl ?_); refine st_store rfl (.tmp 8) (.tmp 99) rfl gv s (List.replicate 8 0) rfl rfl BV.out HP.out.sl rfl ?_; intro w3 bk hoth hbel; have n1 := Aside0.mk bk; have n2 := Aside0.mk ((hoth gw NWV.out).trans BW.out); have n3 := Aside0.mk (hbel _ _ HB.out GV.out); clear BV BW HB bk hoth hbel; have BV := n1; have BW := n2; have HB := n3; clear n1 n2 n3 BS))
      go_loopw [9, 10, 11, 12, 13, 14, 15, 16, 17, 100] (fun _ _ _ _ _ _ _ _ _ i wr => ∃ t : Nat, t ≤ 64 ∧ i = .int .i64 (t : Int) ∧ Aside0 (wr.heap[gv]? = some (.cells (arr32 (rounds s ws t)) 56 (0, 0)) ∧ wr.heap[gw]? = some (.cells (arr32 ws) 59 (0, 0)) ∧ Below W.heap.size W wr)) (fun _ _ _ _ _ _ _ _ _ i _ => 64 - (intOf i).toNat)
      case atStart => exact ⟨0, by omega, rfl, ⟨BV.out, BW.out, HB.out⟩⟩
      case round =>
        obtain ⟨t, ht, rfl, HI⟩ := hrel
        clear HB BW BV
        have BV := Aside0.mk HI.out.1
        have BW := Aside0.mk HI.out.2.1
        have HB := Aside0.mk HI.out.2.2
        clear HI
        by_cases hlt : t < 64
        · have hvl := rounds_length s ws HP.out.sl t
          have hvu := rounds_u32 s ws HP.out.sl HP.out.su t
          obtain ⟨v, hv⟩ : ∃ v, rounds s ws t = v := ⟨_, rfl⟩
          rw [hv] at hvl hvu BV
          have hc := fun i hi => cell_of_32 BV.out i (by rw [hvl]; exact hi)
          have hu := fun i hi => at_mem v hvu i (by rw [hvl]; exact hi)
          have iv := fun i hi W => idx_arr Tryd.underlying56 (by kernel_rfl) (by kernel_rfl) gv i hi W
          obtain ⟨v0, e0⟩ : ∃ x, at_ v 0 = x := ⟨_, rfl⟩
          have d0 : wr.drew.cell? ⟨gv, 0, none⟩ = some (.int .u32 v0) := e0 ▸ hc 0 (by omega)
          have U0 : Aside0 (0 ≤ v0) := ⟨And.left (e0 ▸ hu 0 (by omega))⟩
          have E0 := Aside0.mk e0
          have i0 := fun W => iv 0 (by omega) W
          rw [show ((0 : Nat) : Int) = 0 from rfl] at i0
          clear e0
          obtain ⟨v1, e1⟩ : ∃ x, at_ v 1 = x := ⟨_, rfl⟩
          have d1 : wr.drew.cell? ⟨gv, 1, none⟩ = some (.int .u32 v1) := e1 ▸ hc 1 (by omega)
          have U1 : Aside0 (0 ≤ v1) := ⟨And.left (e1 ▸ hu 1 (by omega))⟩
          have E1 := Aside0.mk e1
          have i1 := fun W => iv 1 (by omega) W
          rw [show ((1 : Nat) : Int) = 1 from rfl] at i1
          clear e1
          obtain ⟨v2, e2⟩ : ∃ x, at_ v 2 = x := ⟨_, rfl⟩
          have d2 : wr.drew.cell? ⟨gv, 2, none⟩ = some (.int .u32 v2) := e2 ▸ hc 2 (by omega)
          have U2 : Aside0 (0 ≤ v2) := ⟨And.left (e2 ▸ hu 2 (by omega))⟩
          have E2 := Aside0.mk e2
          have i2 := fun W => iv 2 (by omega) W
          rw [show ((2 : Nat) : Int) = 2 from rfl] at i2
          clear e2
          obtain ⟨v3, e3⟩ : ∃ x, at_ v 3 = x := ⟨_, rfl⟩
          have d3 : wr.drew.cell? ⟨gv, 3, none⟩ = some (.int .u32 v3) := e3 ▸ hc 3 (by omega)
          have U3 : Aside0 (0 ≤ v3) := ⟨And.left (e3 ▸ hu 3 (by omega))⟩
          have E3 := Aside0.mk e3
          have i3 := fun W => iv 3 (by omega) W
          rw [show ((3 : Nat) : Int) = 3 from rfl] at i3
          clear e3
          obtain ⟨v4, e4⟩ : ∃ x, at_ v 4 = x := ⟨_, rfl⟩
          have d4 : wr.drew.cell? ⟨gv, 4, none⟩ = some (.int .u32 v4) := e4 ▸ hc 4 (by omega)
          have U4 : Aside0 (0 ≤ v4) := ⟨And.left (e4 ▸ hu 4 (by omega))⟩
          have E4 := Aside0.mk e4
          have i4 := fun W => iv 4 (by omega) W
          rw [show ((4 : Nat) : Int) = 4 from rfl] at i4
          clear e4
          obtain ⟨v5, e5⟩ : ∃ x, at_ v 5 = x := ⟨_, rfl⟩
          have d5 : wr.drew.cell? ⟨gv, 5, none⟩ = some (.int .u32 v5) := e5 ▸ hc 5 (by omega)
          have U5 : Aside0 (0 ≤ v5) := ⟨And.left (e5 ▸ hu 5 (by omega))⟩
          have E5 := Aside0.mk e5
          have i5 := fun W => iv 5 (by omega) W
          rw [show ((5 : Nat) : Int) = 5 from rfl] at i5
          clear e5
          obtain ⟨v6, e6⟩ : ∃ x, at_ v 6 = x := ⟨_, rfl⟩
          have d6 : wr.drew.cell? ⟨gv, 6, none⟩ = some (.int .u32 v6) := e6 ▸ hc 6 (by omega)
          have U6 : Aside0 (0 ≤ v6) := ⟨And.left (e6 ▸ hu 6 (by omega))⟩
          have E6 := Aside0.mk e6
          have i6 := fun W => iv 6 (by omega) W
          rw [show ((6 : Nat) : Int) = 6 from rfl] at i6
          clear e6
          obtain ⟨v7, e7⟩ : ∃ x, at_ v 7 = x := ⟨_, rfl⟩
          have d7 : wr.drew.drew.cell? ⟨gv, 7, none⟩ = some (.int .u32 v7) := e7 ▸ hc 7 (by omega)
          have U7 : Aside0 (0 ≤ v7) := ⟨And.left (e7 ▸ hu 7 (by omega))⟩
          have E7 := Aside0.mk e7
          have i7 := fun W => iv 7 (by omega) W
          rw [show ((7 : Nat) : Int) = 7 from rfl] at i7
          clear e7
          have dk : wr.drew.drew.cell? ⟨0, t, none⟩ = some (.int .u32 (at_ K64 t)) := (HB.out.cell (World.block_lt_of_cell? _ _ (HP.out.kt t hlt))).trans (HP.out.kt t hlt)
          have dw : wr.drew.drew.cell? ⟨gw, t, none⟩ = some (.int .u32 (at_ ws t)) := cell_of_32 (blk_drew (blk_drew BW.out)) t (by rw [HWL.out]; exact hlt)
          obtain ⟨kt, ekt⟩ : ∃ x, at_ K64 t = x := ⟨_, rfl⟩
          obtain ⟨wt, ewt⟩ : ∃ x, at_ ws t = x := ⟨_, rfl⟩
          rw [ekt] at dk
          rw [ewt] at dw
          have ik := fun W => idx_arr Tryd.underlying59 (by kernel_rfl) (by kernel_rfl) 0 t hlt W
          have iw := fun W => idx_arr Tryd.underlying59 (by kernel_rfl) (by kernel_rfl) gw t hlt W
          have EKT := Aside0.mk ekt
          have EWT := Aside0.mk ewt
          have HV := Aside0.mk hv
          have HVL := Aside0.mk hvl
          have HVU := Aside0.mk hvu
          clear hc hu iv ekt ewt hv hvl hvu
          go_wp2
          refine start_ (n := 18) (S := fun w' => w'.cell? ⟨gv, 0, none⟩ = some (.int .u32 v0) ∧ w'.cell? ⟨gv, 1, none⟩ = some (.int .u32 v1) ∧ w'.cell? ⟨gv, 2, none⟩ = some (.int .u32 v2) ∧ w'.cell? ⟨gv, 4, none⟩ = some (.int .u32 v4) ∧ w'.cell? ⟨gv, 5, none⟩ = some (.int .u32 v5) ∧ w'.cell? ⟨gv, 6, none⟩ = some (.int .u32 v6)) (ds := []) #[false, false, false, false, false, false, false, false, false, false, false, false, false, false, false, false, false, false] (by kernel_rfl) rfl rfl ⟨d0, d1, d2, d4, d5, d6⟩ (fun hHeld => ?_)
          refine with_tabW blk13_tab blk13_bits (fun HT_ HW_ => ?_)
          refine pure_ (i := 0) (N := (some 103)) (v := ?_) (a' := ?_) #[true, false, false, false, false, false, false, false, false, false, false, false, false, false, false, false, false, false] rfl rfl (any_of HT_.out (by kernel_rfl)) (fun _ _ _ h => h) (Or.inl ⟨by rfl, ?_⟩) ?_ ?_
          rotate_left
          · intro w'
            go_simp
            first | with_reducible rfl | (simp; done) | rfl
          rotate_left
          · simp only [Act.put, List.setIfInBounds_toArray, List.set_cons_zero, List.set_cons_succ, i64_w, i32_w]
            rfl
          refine pure_ (i := 2) (N := (some 105)) (v := ?_) (a' := ?_) #[true, false, true, false, false, false, false, false, false, false, false, false, false, false, false, false, false, false] rfl rfl (any_of HT_.out (by kernel_rfl)) (fun _ _ _ h => h) (Or.inl ⟨by rfl, ?_⟩) ?_ ?_
          rotate_left
          · intro w'
            go_simp
            first | with_reducible rfl | (simp; done) | rfl
          rotate_left
          · simp only [Act.put, List.setIfInBounds_toArray, List.set_cons_zero, List.set_cons_succ, i64_w, i32_w]
            rfl
          refine pure_ (i := 4) (N := (some 107)) (v := ?_) (a' := ?_) #[true, false, true, false, true, false, false, false, false, false, false, false, false, false, false, false, false, false] rfl rfl (any_of HT_.out (by kernel_rfl)) (fun _ _ _ h => h) (Or.inl ⟨by rfl, ?_⟩) ?_ ?_
          rotate_left
          · intro w'
            go_simp
            first | with_reducible rfl | (simp; done) | rfl
          rotate_left
          · simp only [Act.put, List.setIfInBounds_toArray, List.set_cons_zero, List.set_cons_succ, i64_w, i32_w]
            rfl
          refine pure_ (i := 6) (N := (some 109)) (v := ?_) (a' := ?_) #[true, false, true, false, true, false, true, false, false, false, false, false, false, false, false, false, false, false] rfl rfl (any_of HT_.out (by kernel_rfl)) (fun _ _ _ h => h) (Or.inl ⟨by rfl, ?_⟩) ?_ ?_
          rotate_left
          · intro w'
            go_simp
            first | with_reducible rfl | (simp; done) | rfl
          rotate_left
          · simp only [Act.put, List.setIfInBounds_toArray, List.set_cons_zero, List.set_cons_succ, i64_w, i32_w]
            rfl
          refine pure_ (i := 8) (N := (some 111)) (v := ?_) (a' := ?_) #[true, false, true, false, true, false, true, false, true, false, false, false, false, false, false, false, false, false] rfl rfl (any_of HT_.out (by kernel_rfl)) (fun _ _ _ h => h) (Or.inl ⟨by rfl, ?_⟩) ?_ ?_
          rotate_left
          · intro w'
            go_simp
            first | with_reducible rfl | (simp; done) | rfl
          rotate_left
          · simp only [Act.put, List.setIfInBounds_toArray, List.set_cons_zero, List.set_cons_succ, i64_w, i32_w]
            rfl
          refine pure_ (i := 10) (N := (some 113)) (v := ?_) (a' := ?_) #[true, false, true, false, true, false, true, false, true, false, true, false, false, false, false, false, false, false] rfl rfl (any_of HT_.out (by kernel_rfl)) (fun _ _ _ h => h) (Or.inl ⟨by rfl, ?_⟩) ?_ ?_
          rotate_left
          · intro w'
            go_simp
            first | with_reducible rfl | (simp; done) | rfl
          rotate_left
          · simp only [Act.put, List.setIfInBounds_toArray, List.set_cons_zero, List.set_cons_succ, i64_w, i32_w]
            rfl
          refine take_ (i := 1) (N := (some 104)) (v := ?_) (a' := ?_) #[true, true, true, false, true, false, true, false, true, false, true, false, false, false, false, false, false, false] rfl rfl (take_ofW HT_.out HW_.out (by kernel_rfl)) (fun _ _ _ h => h) (Or.inl ⟨by rfl, ?_⟩) hHeld ?_ ?_
          rotate_left
          · rintro w' ⟨s0, s1, s2, s3, s4, s5⟩
            go_simp
            with_reducible rfl
          rotate_left
          · simp only [Act.put, List.setIfInBounds_toArray, List.set_cons_zero, List.set_cons_succ, i64_w, i32_w]
            rfl
          refine take_ (i := 3) (N := (some 106)) (v := ?_) (a' := ?_) #[true, true, true, true, true, false, true, false, true, false, true, false, false, false, false, false, false, false] rfl rfl (take_ofW HT_.out HW_.out (by kernel_rfl)) (fun _ _ _ h => h) (Or.inl ⟨by rfl, ?_⟩) hHeld ?_ ?_
          rotate_left
          · rintro w' ⟨s0, s1, s2, s3, s4, s5⟩
            go_simp
            with_reducible rfl
          rotate_left
          · simp only [Act.put, List.setIfInBounds_toArray, List.set_cons_zero, List.set_cons_succ, i64_w, i32_w]
            rfl
          refine take_ (i := 5) (N := (some 108)) (v := ?_) (a' := ?_) #[true, true, true, true, true, true, true, false, true, false, true, false, false, false, false, false, false, false] rfl rfl (take_ofW HT_.out HW_.out (by kernel_rfl)) (fun _ _ _ h => h) (Or.inl ⟨by rfl, ?_⟩) hHeld ?_ ?_
          rotate_left
          · rintro w' ⟨s0, s1, s2, s3, s4, s5⟩
            go_simp
            with_reducible rfl
          rotate_left
          · simp only [Act.put, List.setIfInBounds_toArray, List.set_cons_zero, List.set_cons_succ, i64_w, i32_w]
            rfl
          refine take_ (i := 7) (N := (some 110)) (v := ?_) (a' := ?_) #[true, true, true, true, true, true, true, true, true, false, true, false, false, false, false, false, false, false] rfl rfl (take_ofW HT_.out HW_.out (by kernel_rfl)) (fun _ _ _ h => h) (Or.inl ⟨by rfl, ?_⟩) hHeld ?_ ?_
          rotate_left
          · rintro w' ⟨s0, s1, s2, s3, s4, s5⟩
            go_simp
            with_reducible rfl
          rotate_left
          · simp only [Act.put, List.setIfInBounds_toArray, List.set_cons_zero, List.set_cons_succ, i64_w, i32_w]
            rfl
          refine take_ (i := 9) (N := (some 112)) (v := ?_) (a' := ?_) #[true, true, true, true, true, true, true, true, true, true, true, false, false, false, false, false, false, false] rfl rfl (take_ofW HT_.out HW_.out (by kernel_rfl)) (fun _ _ _ h => h) (Or.inl ⟨by rfl, ?_⟩) hHeld ?_ ?_
          rotate_left
          · rintro w' ⟨s0, s1, s2, s3, s4, s5⟩
            go_simp
            with_reducible rfl
          rotate_left
          · simp only [Act.put, List.setIfInBounds_toArray, List.set_cons_zero, List.set_cons_succ, i64_w, i32_w]
            rfl
          refine take_ (i := 11) (N := (some 114)) (v := ?_) (a' := ?_) #[true, true, true, true, true, true, true, true, true, true, true, true, false, false, false, false, false, false] rfl rfl (take_ofW HT_.out HW_.out (by kernel_rfl)) (fun _ _ _ h => h) (Or.inl ⟨by rfl, ?_⟩) hHeld ?_ ?_
          rotate_left
          · rintro w' ⟨s0, s1, s2, s3, s4, s5⟩
            go_simp
            with_reducible rfl
          rotate_left
          · simp only [Act.put, List.setIfInBounds_toArray, List.set_cons_zero, List.set_cons_succ, i64_w, i32_w]
            rfl
          refine pure_ (i := 12) (N := (some 10)) (v := ?_) (a' := ?_) #[true, true, true, true, true, true, true, true, true, true, true, true, true, false, false, false, false, false] rfl rfl (any_of HT_.out (by kernel_rfl)) (fun _ _ _ h => h) (Or.inl ⟨by rfl, ?_⟩) ?_ ?_
          rotate_left
          · intro w'
            go_simp
            first | with_reducible rfl | (simp; done) | rfl
          rotate_left
          · simp only [Act.put, List.setIfInBounds_toArray, List.set_cons_zero, List.set_cons_succ, i64_w, i32_w]
            rfl
          refine pure_ (i := 13) (N := (some 11)) (v := ?_) (a' := ?_) #[true, true, true, true, true, true, true, true, true, true, true, true, true, true, false, false, false, false] rfl rfl (any_of HT_.out (by kernel_rfl)) (fun _ _ _ h => h) (Or.inl ⟨by rfl, ?_⟩) ?_ ?_
          rotate_left
          · intro w'
            go_simp
            first | with_reducible rfl | (simp; done) | rfl
          rotate_left
          · simp only [Act.put, List.setIfInBounds_toArray, List.set_cons_zero, List.set_cons_succ, i64_w, i32_w]
            rfl
          refine pure_ (i := 14) (N := (some 12)) (v := ?_) (a' := ?_) #[true, true, true, true, true, true, true, true, true, true, true, true, true, true, true, false, false, false] rfl rfl (any_of HT_.out (by kernel_rfl)) (fun _ _ _ h => h) (Or.inl ⟨by rfl, ?_⟩) ?_ ?_
          rotate_left
          · intro w'
            go_simp
            first | with_reducible rfl | (simp; done) | rfl
          rotate_left
          · simp only [Act.put, List.setIfInBounds_toArray, List.set_cons_zero, List.set_cons_succ, i64_w, i32_w]
            rfl
          refine pure_ (i := 15) (N := (some 13)) (v := ?_) (a' := ?_) #[true, true, true, true, true, true, true, true, true, true, true, true, true, true, true, true, false, false] rfl rfl (any_of HT_.out (by kernel_rfl)) (fun _ _ _ h => h) (Or.inl ⟨by rfl, ?_⟩) ?_ ?_
          rotate_left
          · intro w'
            go_simp
            first | with_reducible rfl | (simp; done) | rfl
          rotate_left
          · simp only [Act.put, List.setIfInBounds_toArray, List.set_cons_zero, List.set_cons_succ, i64_w, i32_w]
            rfl
          refine pure_ (i := 16) (N := (some 14)) (v := ?_) (a' := ?_) #[true, true, true, true, true, true, true, true, true, true, true, true, true, true, true, true, true, false] rfl rfl (any_of HT_.out (by kernel_rfl)) (fun _ _ _ h => h) (Or.inl ⟨by rfl, ?_⟩) ?_ ?_
          rotate_left
          · intro w'
            go_simp
            first | with_reducible rfl | (simp; done) | rfl
          rotate_left
          · simp only [Act.put, List.setIfInBounds_toArray, List.set_cons_zero, List.set_cons_succ, i64_w, i32_w]
            rfl
          refine pure_ (i := 17) (N := (some 15)) (v := ?_) (a' := ?_) #[true, true, true, true, true, true, true, true, true, true, true, true, true, true, true, true, true, true] rfl rfl (any_of HT_.out (by kernel_rfl)) (fun _ _ _ h => h) (Or.inl ⟨by rfl, ?_⟩) ?_ ?_
          rotate_left
          · intro w'
            go_simp
            first | with_reducible rfl | (simp; done) | rfl
          rotate_left
          · simp only [Act.put, List.setIfInBounds_toArray, List.set_cons_zero, List.set_cons_succ, i64_w, i32_w]
            rfl
          refine done_ (done_of HT_.out (by kernel_rfl)) ?_
          go_wp2
          refine start_ (n := 29) (S := fun w' => w'.cell? ⟨gv, 7, none⟩ = some (.int .u32 v7) ∧ w'.cell? ⟨0, t, none⟩ = some (.int .u32 kt) ∧ w'.cell? ⟨gw, t, none⟩ = some (.int .u32 wt)) (ds := []) #[false, false, false, false, false, false, false, false, false, false, false, false, false, false, false, false, false, false, false, false, false, false, false, false, false, false, false, false, false] (by kernel_rfl) rfl rfl ⟨d7, dk, dw⟩ (fun hHeld => ?_)
          refine with_tabW blk14_tab blk14_bits (fun HT_ HW_ => ?_)
          refine pure_ (i := 0) (N := (some 115)) (v := ?_) (a' := ?_) #[true, false, false, false, false, false, false, false, false, false, false, false, false, false, false, false, false, false, false, false, false, false, false, false, false, false, false, false, false] rfl rfl (any_of HT_.out (by kernel_rfl)) (fun _ _ _ h => h) (Or.inl ⟨by rfl, ?_⟩) ?_ ?_
          rotate_left
          · intro w'
            go_simp
            first | with_reducible rfl | (simp; done) | rfl
          rotate_left
          · simp only [Act.put, List.setIfInBounds_toArray, List.set_cons_zero, List.set_cons_succ, i64_w, i32_w]
            rfl
          refine pure_ (i := 2) (N := (some 117)) (v := ?_) (a' := ?_) #[true, false, true, false, false, false, false, false, false, false, false, false, false, false, false, false, false, false, false, false, false, false, false, false, false, false, false, false, false] rfl rfl (any_of HT_.out (by kernel_rfl)) (fun _ _ _ h => h) (Or.inl ⟨by rfl, ?_⟩) ?_ ?_
          rotate_left
          · intro w'
            go_simp
            first | with_reducible rfl | (simp; done) | rfl
          rotate_left
          · simp only [Act.put, List.setIfInBounds_toArray, List.set_cons_zero, List.set_cons_succ, i64_w, i32_w]
            rfl
          refine pure_ (i := 4) (N := (some 119)) (v := ?_) (a' := ?_) #[true, false, true, false, true, false, false, false, false, false, false, false, false, false, false, false, false, false, false, false, false, false, false, false, false, false, false, false, false] rfl rfl (any_of HT_.out (by kernel_rfl)) (fun _ _ _ h => h) (Or.inl ⟨by rfl, ?_⟩) ?_ ?_
          rotate_left
          · intro w'
            go_simp
            first | with_reducible rfl | (simp; done) | rfl
          rotate_left
          · simp only [Act.put, List.setIfInBounds_toArray, List.set_cons_zero, List.set_cons_succ, i64_w, i32_w]
            rfl
          refine pure_ (i := 7) (N := (some 122)) (v := ?_) (a' := ?_) #[true, false, true, false, true, false, false, true, false, false, false, false, false, false, false, false, false, false, false, false, false, false, false, false, false, false, false, false, false] rfl rfl (any_of HT_.out (by kernel_rfl)) (fun _ _ _ h => h) (Or.inl ⟨by rfl, ?_⟩) ?_ ?_
          rotate_left
          · intro w'
            go_simp
            first | with_reducible rfl | (simp; done) | rfl
          rotate_left
          · simp only [Act.put, List.setIfInBounds_toArray, List.set_cons_zero, List.set_cons_succ, i64_w, i32_w]
            rfl
          refine pure_ (i := 11) (N := (some 126)) (v := ?_) (a' := ?_) #[true, false, true, false, true, false, false, true, false, false, false, true, false, false, false, false, false, false, false, false, false, false, false, false, false, false, false, false, false] rfl rfl (any_of HT_.out (by kernel_rfl)) (fun _ _ _ h => h) (Or.inl ⟨by rfl, ?_⟩) ?_ ?_
          rotate_left
          · intro w'
            go_simp
            first | with_reducible rfl | (simp; done) | rfl
          rotate_left
          · simp only [Act.put, List.setIfInBounds_toArray, List.set_cons_zero, List.set_cons_succ, i64_w, i32_w]
            rfl
          refine pure_ (i := 12) (N := (some 127)) (v := ?_) (a' := ?_) #[true, false, true, false, true, false, false, true, false, false, false, true, true, false, false, false, false, false, false, false, false, false, false, false, false, false, false, false, false] rfl rfl (any_of HT_.out (by kernel_rfl)) (fun _ _ _ h => h) (Or.inl ⟨by rfl, ?_⟩) ?_ ?_
          rotate_left
          · intro w'
            go_simp
            first | with_reducible rfl | (simp; done) | rfl
          rotate_left
          · simp only [Act.put, List.setIfInBounds_toArray, List.set_cons_zero, List.set_cons_succ, i64_w, i32_w]
            rfl
          refine pure_ (i := 13) (N := (some 128)) (v := ?_) (a' := ?_) #[true, false, true, false, true, false, false, true, false, false, false, true, true, true, false, false, false, false, false, false, false, false, false, false, false, false, false, false, false] rfl rfl (any_of HT_.out (by kernel_rfl)) (fun _ _ _ h => h) (Or.inl ⟨by rfl, ?_⟩) ?_ ?_
          rotate_left
          · intro w'
            go_simp
            first | with_reducible rfl | (simp; done) | rfl
          rotate_left
          · simp only [Act.put, List.setIfInBounds_toArray, List.set_cons_zero, List.set_cons_succ, i64_w, i32_w]
            rfl
          refine pure_ (i := 14) (N := (some 129)) (v := ?_) (a' := ?_) #[true, false, true, false, true, false, false, true, false, false, false, true, true, true, true, false, false, false, false, false, false, false, false, false, false, false, false, false, false] rfl rfl (any_of HT_.out (by kernel_rfl)) (fun _ _ _ h => h) (Or.inl ⟨by rfl, ?_⟩) ?_ ?_
          rotate_left
          · intro w'
            go_simp
            first | with_reducible rfl | (simp; done) | rfl
          rotate_left
          · simp only [Act.put, List.setIfInBounds_toArray, List.set_cons_zero, List.set_cons_succ, i64_w, i32_w]
            rfl
          refine pure_ (i := 15) (N := (some 130)) (v := ?_) (a' := ?_) #[true, false, true, false, true, false, false, true, false, false, false, true, true, true, true, true, false, false, false, false, false, false, false, false, false, false, false, false, false] rfl rfl (any_of HT_.out (by kernel_rfl)) (fun _ _ _ h => h) (Or.inl ⟨by rfl, ?_⟩) ?_ ?_
          rotate_left
          · intro w'
            go_simp
            first | with_reducible rfl | (simp; done) | rfl
          rotate_left
          · simp only [Act.put, List.setIfInBounds_toArray, List.set_cons_zero, List.set_cons_succ, i64_w, i32_w]
            rfl
          refine pure_ (i := 16) (N := (some 131)) (v := ?_) (a' := ?_) #[true, false, true, false, true, false, false, true, false, false, false, true, true, true, true, true, true, false, false, false, false, false, false, false, false, false, false, false, false] rfl rfl (any_of HT_.out (by kernel_rfl)) (fun _ _ _ h => h) (Or.inl ⟨by rfl, ?_⟩) ?_ ?_
          rotate_left
          · intro w'
            go_simp
            first | with_reducible rfl | (simp; done) | rfl
          rotate_left
          · simp only [Act.put, List.setIfInBounds_toArray, List.set_cons_zero, List.set_cons_succ, i64_w, i32_w]
            rfl
          refine pure_ (i := 17) (N := (some 132)) (v := ?_) (a' := ?_) #[true, false, true, false, true, false, false, true, false, false, false, true, true, true, true, true, true, true, false, false, false, false, false, false, false, false, false, false, false] rfl rfl (any_of HT_.out (by kernel_rfl)) (fun _ _ _ h => h) (Or.inl ⟨by rfl, ?_⟩) ?_ ?_
          rotate_left
          · intro w'
            go_simp
            first | with_reducible rfl | (simp; done) | rfl
          rotate_left
          · simp only [Act.put, List.setIfInBounds_toArray, List.set_cons_zero, List.set_cons_succ, i64_w, i32_w]
            rfl
          refine pure_ (i := 18) (N := (some 133)) (v := ?_) (a' := ?_) #[true, false, true, false, true, false, false, true, false, false, false, true, true, true, true, true, true, true, true, false, false, false, false, false, false, false, false, false, false] rfl rfl (any_of HT_.out (by kernel_rfl)) (fun _ _ _ h => h) (Or.inl ⟨by rfl, ?_⟩) ?_ ?_
          rotate_left
          · intro w'
            go_simp
            first | with_reducible rfl | (simp; done) | rfl
          rotate_left
          · simp only [Act.put, List.setIfInBounds_toArray, List.set_cons_zero, List.set_cons_succ, i64_w, i32_w]
            rfl
          refine pure_ (i := 20) (N := (some 135)) (v := ?_) (a' := ?_) #[true, false, true, false, true, false, false, true, false, false, false, true, true, true, true, true, true, true, true, false, true, false, false, false, false, false, false, false, false] rfl rfl (any_of HT_.out (by kernel_rfl)) (fun _ _ _ h => h) (Or.inl ⟨by rfl, ?_⟩) ?_ ?_
          rotate_left
          · intro w'
            go_simp
            first | with_reducible rfl | (simp; done) | rfl
          rotate_left
          · simp only [Act.put, List.setIfInBounds_toArray, List.set_cons_zero, List.set_cons_succ, i64_w, i32_w]
            rfl
          refine pure_ (i := 21) (N := (some 136)) (v := ?_) (a' := ?_) #[true, false, true, false, true, false, false, true, false, false, false, true, true, true, true, true, true, true, true, false, true, true, false, false, false, false, false, false, false] rfl rfl (any_of HT_.out (by kernel_rfl)) (fun _ _ _ h => h) (Or.inl ⟨by rfl, ?_⟩) ?_ ?_
          rotate_left
          · intro w'
            go_simp
            first | with_reducible rfl | (simp; done) | rfl
          rotate_left
          · simp only [Act.put, List.setIfInBounds_toArray, List.set_cons_zero, List.set_cons_succ, i64_w, i32_w]
            rfl
          refine pure_ (i := 24) (N := (some 139)) (v := ?_) (a' := ?_) #[true, false, true, false, true, false, false, true, false, false, false, true, true, true, true, true, true, true, true, false, true, true, false, false, true, false, false, false, false] rfl rfl (any_of HT_.out (by kernel_rfl)) (fun _ _ _ h => h) (Or.inl ⟨by rfl, ?_⟩) ?_ ?_
          rotate_left
          · intro w'
            go_simp
            first | with_reducible rfl | (simp; done) | rfl
          rotate_left
          · simp only [Act.put, List.setIfInBounds_toArray, List.set_cons_zero, List.set_cons_succ, i64_w, i32_w]
            rfl
          refine pure_ (i := 25) (N := (some 140)) (v := ?_) (a' := ?_) #[true, false, true, false, true, false, false, true, false, false, false, true, true, true, true, true, true, true, true, false, true, true, false, false, true, true, false, false, false] rfl rfl (any_of HT_.out (by kernel_rfl)) (fun _ _ _ h => h) (Or.inl ⟨by rfl, ?_⟩) ?_ ?_
          rotate_left
          · intro w'
            go_simp
            first | with_reducible rfl | (simp; done) | rfl
          rotate_left
          · simp only [Act.put, List.setIfInBounds_toArray, List.set_cons_zero, List.set_cons_succ, i64_w, i32_w]
            rfl
          refine take_ (i := 1) (N := (some 116)) (v := ?_) (a' := ?_) #[true, true, true, false, true, false, false, true, false, false, false, true, true, true, true, true, true, true, true, false, true, true, false, false, true, true, false, false, false] rfl rfl (take_ofW HT_.out HW_.out (by kernel_rfl)) (fun _ _ _ h => h) (Or.inl ⟨by rfl, ?_⟩) hHeld ?_ ?_
          rotate_left
          · rintro w' ⟨s0, s1, s2⟩
            go_simp
            with_reducible rfl
          rotate_left
          · simp only [Act.put, List.setIfInBounds_toArray, List.set_cons_zero, List.set_cons_succ, i64_w, i32_w]
            rfl
          refine take_ (i := 22) (N := (some 137)) (v := ?_) (a' := ?_) #[true, true, true, false, true, false, false, true, false, false, false, true, true, true, true, true, true, true, true, false, true, true, true, false, true, true, false, false, false] rfl rfl (take_ofW HT_.out HW_.out (by kernel_rfl)) (fun _ _ _ h => h) (Or.inl ⟨by rfl, ?_⟩) hHeld ?_ ?_
          rotate_left
          · rintro w' ⟨s0, s1, s2⟩
            go_simp
            with_reducible rfl
          rotate_left
          · simp only [Act.put, List.setIfInBounds_toArray, List.set_cons_zero, List.set_cons_succ, i64_w, i32_w]
            rfl
          refine take_ (i := 26) (N := (some 141)) (v := ?_) (a' := ?_) #[true, true, true, false, true, false, false, true, false, false, false, true, true, true, true, true, true, true, true, false, true, true, true, false, true, true, true, false, false] rfl rfl (take_ofW HT_.out HW_.out (by kernel_rfl)) (fun _ _ _ h => h) (Or.inl ⟨by rfl, ?_⟩) hHeld ?_ ?_
          rotate_left
          · rintro w' ⟨s0, s1, s2⟩
            go_simp
            with_reducible rfl
          rotate_left
          · simp only [Act.put, List.setIfInBounds_toArray, List.set_cons_zero, List.set_cons_succ, i64_w, i32_w]
            rfl
          refine one_ (i := 3) (N := (some 118)) #[true, true, true, true, true, false, false, true, false, false, false, true, true, true, true, true, true, true, true, false, true, true, true, false, true, true, true, false, false] rfl rfl (one_of HT_.out (by kernel_rfl)) (by decide) (fun K hK => ?_)
          refine goes_ Tryd.func53 (by kernel_rfl) rfl #[.int .u32 v4, .int .i64 6] (by rfl) rfl rfl (by (try simp only [List.map_toArray, List.map_cons, List.map_nil]); first | done | rfl) ?_
          with_reducible refine (turned_m v4 6 6 rfl (by omega) (by omega) U4.out _).mono ?_
          rintro e0 w' ⟨rfl, rfl⟩
          refine ⟨_, rfl, ?_⟩
          refine hK.out _ _ hHeld (fun hHeld => ?_)
          clear hK K
          refine norm_ (a' := ?_) ?_ ?_
          rotate_left
          · show Act.put _ (some 118) _ = _
            simp only [Act.put, List.setIfInBounds_toArray, List.set_cons_zero, List.set_cons_succ, i64_w, i32_w]
            rfl
          refine one_ (i := 5) (N := (some 120)) #[true, true, true, true, true, true, false, true, false, false, false, true, true, true, true, true, true, true, true, false, true, true, true, false, true, true, true, false, false] rfl rfl (one_of HT_.out (by kernel_rfl)) (by decide) (fun K hK => ?_)
          refine goes_ Tryd.func53 (by kernel_rfl) rfl #[.int .u32 v4, .int .i64 11] (by rfl) rfl rfl (by (try simp only [List.map_toArray, List.map_cons, List.map_nil]); first | done | rfl) ?_
          with_reducible refine (turned_m v4 11 11 rfl (by omega) (by omega) U4.out _).mono ?_
          rintro e0 w' ⟨rfl, rfl⟩
          refine ⟨_, rfl, ?_⟩
          refine hK.out _ _ hHeld (fun hHeld => ?_)
          clear hK K
          refine norm_ (a' := ?_) ?_ ?_
          rotate_left
          · show Act.put _ (some 120) _ = _
            simp only [Act.put, List.setIfInBounds_toArray, List.set_cons_zero, List.set_cons_succ, i64_w, i32_w]
            rfl
          refine pure_ (i := 6) (N := (some 121)) (v := ?_) (a' := ?_) #[true, true, true, true, true, true, true, true, false, false, false, true, true, true, true, true, true, true, true, false, true, true, true, false, true, true, true, false, false] rfl rfl (any_of HT_.out (by kernel_rfl)) (fun _ _ _ h => h) (Or.inl ⟨by rfl, ?_⟩) ?_ ?_
          rotate_left
          · intro w'
            go_simp
            first | with_reducible rfl | (simp; done) | rfl
          rotate_left
          · simp only [Act.put, List.setIfInBounds_toArray, List.set_cons_zero, List.set_cons_succ, i64_w, i32_w]
            rfl
          refine one_ (i := 8) (N := (some 123)) #[true, true, true, true, true, true, true, true, true, false, false, true, true, true, true, true, true, true, true, false, true, true, true, false, true, true, true, false, false] rfl rfl (one_of HT_.out (by kernel_rfl)) (by decide) (fun K hK => ?_)
          refine goes_ Tryd.func53 (by kernel_rfl) rfl #[.int .u32 v4, .int .i64 25] (by rfl) rfl rfl (by (try simp only [List.map_toArray, List.map_cons, List.map_nil]); first | done | rfl) ?_
          with_reducible refine (turned_m v4 25 25 rfl (by omega) (by omega) U4.out _).mono ?_
          rintro e0 w' ⟨rfl, rfl⟩
          refine ⟨_, rfl, ?_⟩
          refine hK.out _ _ hHeld (fun hHeld => ?_)
          clear hK K
          refine norm_ (a' := ?_) ?_ ?_
          rotate_left
          · show Act.put _ (some 123) _ = _
            simp only [Act.put, List.setIfInBounds_toArray, List.set_cons_zero, List.set_cons_succ, i64_w, i32_w]
            rfl
          refine pure_ (i := 9) (N := (some 124)) (v := ?_) (a' := ?_) #[true, true, true, true, true, true, true, true, true, true, false, true, true, true, true, true, true, true, true, false, true, true, true, false, true, true, true, false, false] rfl rfl (any_of HT_.out (by kernel_rfl)) (fun _ _ _ h => h) (Or.inl ⟨by rfl, ?_⟩) ?_ ?_
          rotate_left
          · intro w'
            go_simp
            first | with_reducible rfl | (simp; done) | rfl
          rotate_left
          · simp only [Act.put, List.setIfInBounds_toArray, List.set_cons_zero, List.set_cons_succ, i64_w, i32_w]
            rfl
          refine pure_ (i := 10) (N := (some 125)) (v := ?_) (a' := ?_) #[true, true, true, true, true, true, true, true, true, true, true, true, true, true, true, true, true, true, true, false, true, true, true, false, true, true, true, false, false] rfl rfl (any_of HT_.out (by kernel_rfl)) (fun _ _ _ h => h) (Or.inl ⟨by rfl, ?_⟩) ?_ ?_
          rotate_left
          · intro w'
            go_simp
            first | with_reducible rfl | (simp; done) | rfl
          rotate_left
          · simp only [Act.put, List.setIfInBounds_toArray, List.set_cons_zero, List.set_cons_succ, i64_w, i32_w]
            rfl
          refine pure_ (i := 19) (N := (some 134)) (v := ?_) (a' := ?_) #[true, true, true, true, true, true, true, true, true, true, true, true, true, true, true, true, true, true, true, true, true, true, true, false, true, true, true, false, false] rfl rfl (any_of HT_.out (by kernel_rfl)) (fun _ _ _ h => h) (Or.inl ⟨by rfl, ?_⟩) ?_ ?_
          rotate_left
          · intro w'
            go_simp
            first | with_reducible rfl | (simp; done) | rfl
          rotate_left
          · simp only [Act.put, List.setIfInBounds_toArray, List.set_cons_zero, List.set_cons_succ, i64_w, i32_w]
            rfl
          refine pure_ (i := 23) (N := (some 138)) (v := ?_) (a' := ?_) #[true, true, true, true, true, true, true, true, true, true, true, true, true, true, true, true, true, true, true, true, true, true, true, true, true, true, true, false, false] rfl rfl (any_of HT_.out (by kernel_rfl)) (fun _ _ _ h => h) (Or.inl ⟨by rfl, ?_⟩) ?_ ?_
          rotate_left
          · intro w'
            go_simp
            first | with_reducible rfl | (simp; done) | rfl
          rotate_left
          · simp only [Act.put, List.setIfInBounds_toArray, List.set_cons_zero, List.set_cons_succ, i64_w, i32_w]
            rfl
          refine pure_ (i := 27) (N := (some 142)) (v := ?_) (a' := ?_) #[true, true, true, true, true, true, true, true, true, true, true, true, true, true, true, true, true, true, true, true, true, true, true, true, true, true, true, true, false] rfl rfl (any_of HT_.out (by kernel_rfl)) (fun _ _ _ h => h) (Or.inl ⟨by rfl, ?_⟩) ?_ ?_
          rotate_left
          · intro w'
            go_simp
            first | with_reducible rfl | (simp; done) | rfl
          rotate_left
          · simp only [Act.put, List.setIfInBounds_toArray, List.set_cons_zero, List.set_cons_succ, i64_w, i32_w]
            rfl
          refine pure_ (i := 28) (N := (some 16)) (v := ?_) (a' := ?_) #[true, true, true, true, true, true, true, true, true, true, true, true, true, true, true, true, true, true, true, true, true, true, true, true, true, true, true, true, true] rfl rfl (any_of HT_.out (by kernel_rfl)) (fun _ _ _ h => h) (Or.inl ⟨by rfl, ?_⟩) ?_ ?_
          rotate_left
          · intro w'
            go_simp
            first | with_reducible rfl | (simp; done) | rfl
          rotate_left
          · simp only [Act.put, List.setIfInBounds_toArray, List.set_cons_zero, List.set_cons_succ, i64_w, i32_w]
            rfl
          refine done_ (done_of HT_.out (by kernel_rfl)) ?_
          generalize hone : IntKind.u32.wrap (IntKind.u32.wrap (IntKind.u32.wrap (IntKind.u32.wrap (v7 + bits .xor .u32 (bits .xor .u32 (rot v4 6) (rot v4 11)) (rot v4 25)) + bits .xor .u32 (bits .and .u32 v4 v5) (bits .and .u32 (bits .xor .u32 (if IntKind.u32.signed = true then -1 else IntKind.u32.max) v4) v6)) + kt) + wt) = o1
          have HONE := Aside0.mk hone
          clear hone
          go_wp2_with (
            first
            | (go_at_call 53; (with_reducible refine (turned_m v0 2 2 rfl (by omega) (by omega) U0.out _).mono ?_); rintro e w' ⟨rfl, rfl⟩)
            | (go_at_call 53; (with_reducible refine (turned_m v0 13 13 rfl (by omega) (by omega) U0.out _).mono ?_); rintro e w' ⟨rfl, rfl⟩)
            | (go_at_call 53; (with_reducible refine (turned_m v0 22 22 rfl (by omega) (by omega) U0.out _).mono ?_); rintro e w' ⟨rfl, rfl⟩)
            | ((with_reducible refine gate_store (p := 8) rfl ?_); refine st_store rfl (.tmp 8) (.tmp 176) rfl gv [(o1 + (bits .xor .u32 (bits .xor .u32 (rot v0 2) (rot v0 13)) (rot v0 22) + bits .xor .u32 (bits .xor .u32 (bits .and .u32 v0 v1) (bits .and .u32 v0 v2)) (bits .and .u32 v1 v2))) % 4294967296, v0, v1, v2, (v3 + o1) % 4294967296, v4, v5, v6] v rfl rfl (blk_drew (blk_drew BV.out)) rfl HVL.out ?_; intro w4 bk hoth hbel; have n1 := Aside0.mk bk; have n2 := Aside0.mk ((hoth gw NWV.out).trans (blk_drew (blk_drew BW.out))); have n3 := Aside0.mk (hbel _ _ (below_drew1 (below_drew1 HB.out)) GV.out); clear BV BW HB bk hoth hbel; have BV := n1; have BW := n2; have HB := n3; clear n1 n2 n3))
          refine ⟨⟨t + 1, by omega, by simp, ⟨?_, BW.out, HB.out⟩⟩, by simp [intOf]; omega⟩
          have e : rounds s ws (t + 1) = [(o1 + (bits .xor .u32 (bits .xor .u32 (rot v0 2) (rot v0 13)) (rot v0 22) + bits .xor .u32 (bits .xor .u32 (bits .and .u32 v0 v1) (bits .and .u32 v0 v2)) (bits .and .u32 v1 v2))) % 4294967296, v0, v1, v2, (v3 + o1) % 4294967296, v4, v5, v6] := by
            show rnd (rounds s ws t) (at_ K64 t) (at_ ws t) = _
            rw [HV.out, EKT.out, EWT.out]
            have u4 := at_mem v HVU.out 4 (by rw [HVL.out]; omega)
            rw [E4.out] at u4
            unfold rnd oneR twoR
            rw [E0.out, E1.out, E2.out, E3.out, E4.out, E5.out, E6.out, E7.out]
            rw [← HONE.out, not_u32 v4 u4]
            unfold add32 xor32 and32
            simp only [IntKind.wrap_u32]
            congr 1
            omega
          rw [e]
          exact BV.out
        · have hk64 : t = 64 := by omega
          have hvl := rounds_length s ws HP.out.sl t
          obtain ⟨v, hv⟩ : ∃ v, rounds s ws t = v := ⟨_, rfl⟩
          have HCP : Aside0 (compress s b = outTo s v 8) := ⟨by
            unfold compress outTo
            rw [HWS.out, ← hk64, hv]
            apply List.map_congr_left
            intro i hi
            rw [if_pos (List.mem_range.1 hi)]⟩
          rw [hv] at BV hvl
          have HVL := Aside0.mk hvl
          have BS : Aside0 (wr.heap[gs]? = some (.cells (arr32 (outTo s v 0)) 56 (0, 0))) := ⟨by rw [outTo_zero s v HP.out.sl]; exact (HB.out.block gs (blk_lt HP.out.st)).trans HP.out.st⟩
          have HR : Aside0 (W.heap.size ≤ wr.heap.size ∧ (∀ k, k < W.heap.size → k ≠ gs → wr.heap[k]? = W.heap[k]?) ∧ (∀ (B : Nat) (w0 : World), Below B w0 W → B ≤ gs → Below B w0 wr)) := ⟨HB.out.size, fun k hk _ => HB.out.block k hk, fun B w0 hb hB => hb.trans (HB.out.mono (by have := blk_lt HP.out.st; omega))⟩
          have NSV : Aside0 (gs ≠ gv) := ⟨by have := blk_lt HP.out.st; have := GV.out; omega⟩
          clear hk64 hv hvl HB BW
          go_wp2
          go_loopw [18, 178] (fun _ i wr => ∃ t : Nat, t ≤ 8 ∧ i = .int .i64 (t : Int) ∧ Aside0 (wr.heap[gs]? = some (.cells (arr32 (outTo s v t)) 56 (0, 0)) ∧ wr.heap[gv]? = some (.cells (arr32 v) 56 (0, 0))) ∧ Aside0 (W.heap.size ≤ wr.heap.size ∧ (∀ k, k < W.heap.size → k ≠ gs → wr.heap[k]? = W.heap[k]?) ∧ (∀ (B : Nat) (w0 : World), Below B w0 W → B ≤ gs → Below B w0 wr))) (fun _ i _ => 8 - (intOf i).toNat)
          case atStart => exact ⟨0, by omega, rfl, ⟨BS.out, BV.out⟩, HR⟩
          case round =>
            obtain ⟨t, ht, rfl, HI, HR2⟩ := hrel
            clear BS BV HR
            have BS := Aside0.mk HI.out.1
            have BV := Aside0.mk HI.out.2
            by_cases hlt8 : t < 8
            · obtain ⟨a, ea⟩ : ∃ x, at_ s t = x := ⟨_, rfl⟩
              obtain ⟨x, ex⟩ : ∃ x, at_ v t = x := ⟨_, rfl⟩
              have ca : wr.drew.cell? ⟨gs, t, none⟩ = some (.int .u32 a) := by rw [← ea, ← outTo_at s v t hlt8]; exact cell_of_32 (blk_drew BS.out) t (by rw [outTo_length]; exact hlt8)
              have cx : wr.drew.cell? ⟨gv, t, none⟩ = some (.int .u32 x) := by rw [← ex]; exact cell_of_32 (blk_drew BV.out) t (by rw [HVL.out]; exact hlt8)
              have hfz : wr.drew.frozen? ⟨gs, t, none⟩ = false := blk_frozen (blk_drew BS.out) t
              have is_ := fun W => idx_arr Tryd.underlying56 (by kernel_rfl) (by kernel_rfl) gs t hlt8 W
              have iv_ := fun W => idx_arr Tryd.underlying56 (by kernel_rfl) (by kernel_rfl) gv t hlt8 W
              have EA := Aside0.mk ea
              have EX := Aside0.mk ex
              clear ea ex
              go_wp2
              refine start_ (n := 12) (S := fun w' => w'.cell? ⟨gs, t, none⟩ = some (.int .u32 a) ∧ w'.cell? ⟨gv, t, none⟩ = some (.int .u32 x)) (ds := [11]) #[false, false, false, false, false, false, false, false, false, false, false, false] (by kernel_rfl) rfl rfl ⟨ca, cx⟩ (fun hHeld => ?_)
              refine with_tabW blk21_tab blk21_bits (fun HT_ HW_ => ?_)
              refine pure_ (i := 0) (N := (some 181)) (v := ?_) (a' := ?_) #[true, false, false, false, false, false, false, false, false, false, false, false] rfl rfl (any_of HT_.out (by kernel_rfl)) (fun _ _ _ h => h) (Or.inl ⟨by rfl, ?_⟩) ?_ ?_
              rotate_left
              · intro w'
                go_simp
                first | with_reducible rfl | (simp; done) | rfl
              rotate_left
              · simp only [Act.put, List.setIfInBounds_toArray, List.set_cons_zero, List.set_cons_succ, i64_w, i32_w]
                rfl
              refine pure_ (i := 1) (N := (some 182)) (v := ?_) (a' := ?_) #[true, true, false, false, false, false, false, false, false, false, false, false] rfl rfl (any_of HT_.out (by kernel_rfl)) (fun _ _ _ h => h) (Or.inl ⟨by rfl, ?_⟩) ?_ ?_
              rotate_left
              · intro w'
                go_simp
                first | with_reducible rfl | (simp; done) | rfl
              rotate_left
              · simp only [Act.put, List.setIfInBounds_toArray, List.set_cons_zero, List.set_cons_succ, i64_w, i32_w]
                rfl
              refine pure_ (i := 2) (N := (some 183)) (v := ?_) (a' := ?_) #[true, true, true, false, false, false, false, false, false, false, false, false] rfl rfl (any_of HT_.out (by kernel_rfl)) (fun _ _ _ h => h) (Or.inl ⟨by rfl, ?_⟩) ?_ ?_
              rotate_left
              · intro w'
                go_simp
                first | with_reducible rfl | (simp; done) | rfl
              rotate_left
              · simp only [Act.put, List.setIfInBounds_toArray, List.set_cons_zero, List.set_cons_succ, i64_w, i32_w]
                rfl
              refine pure_ (i := 3) (N := (some 184)) (v := ?_) (a' := ?_) #[true, true, true, true, false, false, false, false, false, false, false, false] rfl rfl (any_of HT_.out (by kernel_rfl)) (fun _ _ _ h => h) (Or.inl ⟨by rfl, ?_⟩) ?_ ?_
              rotate_left
              · intro w'
                go_simp
                first | with_reducible rfl | (simp; done) | rfl
              rotate_left
              · simp only [Act.put, List.setIfInBounds_toArray, List.set_cons_zero, List.set_cons_succ, i64_w, i32_w]
                rfl
              refine pure_ (i := 5) (N := (some 186)) (v := ?_) (a' := ?_) #[true, true, true, true, false, true, false, false, false, false, false, false] rfl rfl (any_of HT_.out (by kernel_rfl)) (fun _ _ _ h => h) (Or.inl ⟨by rfl, ?_⟩) ?_ ?_
              rotate_left
              · intro w'
                go_simp
                first | with_reducible rfl | (simp; done) | rfl
              rotate_left
              · simp only [Act.put, List.setIfInBounds_toArray, List.set_cons_zero, List.set_cons_succ, i64_w, i32_w]
                rfl
              refine pure_ (i := 6) (N := (some 187)) (v := ?_) (a' := ?_) #[true, true, true, true, false, true, true, false, false, false, false, false] rfl rfl (any_of HT_.out (by kernel_rfl)) (fun _ _ _ h => h) (Or.inl ⟨by rfl, ?_⟩) ?_ ?_
              rotate_left
              · intro w'
                go_simp
                first | with_reducible rfl | (simp; done) | rfl
              rotate_left
              · simp only [Act.put, List.setIfInBounds_toArray, List.set_cons_zero, List.set_cons_succ, i64_w, i32_w]
                rfl
              refine pure_ (i := 9) (N := (some 190)) (v := ?_) (a' := ?_) #[true, true, true, true, false, true, true, false, false, true, false, false] rfl rfl (any_of HT_.out (by kernel_rfl)) (fun _ _ _ h => h) (Or.inl ⟨by rfl, ?_⟩) ?_ ?_
              rotate_left
              · intro w'
                go_simp
                first | with_reducible rfl | (simp; done) | rfl
              rotate_left
              · simp only [Act.put, List.setIfInBounds_toArray, List.set_cons_zero, List.set_cons_succ, i64_w, i32_w]
                rfl
              refine take_ (i := 4) (N := (some 185)) (v := ?_) (a' := ?_) #[true, true, true, true, true, true, true, false, false, true, false, false] rfl rfl (take_ofW HT_.out HW_.out (by kernel_rfl)) (fun _ _ _ h => h) (Or.inl ⟨by rfl, ?_⟩) hHeld ?_ ?_
              rotate_left
              · rintro w' ⟨s0, s1⟩
                go_simp
                with_reducible rfl
              rotate_left
              · simp only [Act.put, List.setIfInBounds_toArray, List.set_cons_zero, List.set_cons_succ, i64_w, i32_w]
                rfl
              refine take_ (i := 7) (N := (some 188)) (v := ?_) (a' := ?_) #[true, true, true, true, true, true, true, true, false, true, false, false] rfl rfl (take_ofW HT_.out HW_.out (by kernel_rfl)) (fun _ _ _ h => h) (Or.inl ⟨by rfl, ?_⟩) hHeld ?_ ?_
              rotate_left
              · rintro w' ⟨s0, s1⟩
                go_simp
                with_reducible rfl
              rotate_left
              · simp only [Act.put, List.setIfInBounds_toArray, List.set_cons_zero, List.set_cons_succ, i64_w, i32_w]
                rfl
              refine pure_ (i := 8) (N := (some 189)) (v := ?_) (a' := ?_) #[true, true, true, true, true, true, true, true, true, true, false, false] rfl rfl (any_of HT_.out (by kernel_rfl)) (fun _ _ _ h => h) (Or.inl ⟨by rfl, ?_⟩) ?_ ?_
              rotate_left
              · intro w'
                go_simp
                first | with_reducible rfl | (simp; done) | rfl
              rotate_left
              · simp only [Act.put, List.setIfInBounds_toArray, List.set_cons_zero, List.set_cons_succ, i64_w, i32_w]
                rfl
              refine pure_ (i := 10) (N := (some 191)) (v := ?_) (a' := ?_) #[true, true, true, true, true, true, true, true, true, true, true, false] rfl rfl (any_of HT_.out (by kernel_rfl)) (fun _ _ _ h => h) (Or.inl ⟨by rfl, ?_⟩) ?_ ?_
              rotate_left
              · intro w'
                go_simp
                first | with_reducible rfl | (simp; done) | rfl
              rotate_left
              · simp only [Act.put, List.setIfInBounds_toArray, List.set_cons_zero, List.set_cons_succ, i64_w, i32_w]
                rfl
              refine last_ (i := 11) (N := none) #[true, true, true, true, true, true, true, true, true, true, true, true] rfl rfl (one_of HT_.out (by kernel_rfl)) (by decide) (fun K hK => ?_)
              refine skip_ (w1 := ?_) (by rfl) rfl ?_ ?_
              rotate_left
              · go_simp
                rfl
              refine hK.out _ _ ?_
              clear hK K
              refine done_ (done_of HT_.out (by kernel_rfl)) ?_
              go_wp2
              have hw := outTo_set s v t hlt8
              refine ⟨⟨t + 1, by omega, by simp, ⟨?_, ?_⟩, ?_⟩, by simp [intOf]; omega⟩
              · rw [← hw, EA.out, EX.out]
                refine blk_put (blk_drew BS.out) t _ ?_
                rw [arr32_set]
                unfold add32
                first | rfl | simp only [IntKind.wrap_u32]
              · exact (Below.heap_setCell _ ⟨gs, t, none⟩ _ gv (Ne.symm NSV.out)).trans (blk_drew BV.out)
              · refine ⟨?_, fun k hk hkg => ?_, fun B w0 hb hB => ?_⟩
                · exact Nat.le_trans HR2.out.1 (Nat.le_of_eq (Array.size_modify ..).symm)
                · exact (Below.heap_setCell _ ⟨gs, t, none⟩ _ k hkg).trans (HR2.out.2.1 k hk hkg)
                · exact ((HR2.out.2.2 B w0 hb hB).drew).setCell (p := ⟨gs, t, none⟩) hB _
            · have h8 : t = 8 := by omega
              rw [h8] at BS
              go_wp2
              go_end0
              refine ⟨rfl, ?_, HR2.out.1, HR2.out.2.1, HR2.out.2.2⟩
              rw [HCP.out]
              exact BS.out
end Go.Proofs.YtoaimcobcgomjaaDoor.Q
namespace Go.Proofs.YtoaimcobcgomjaaDoor.Q
open Go.RowKit Go.Proofs.YtoaimcobcgomjaaDoorW.PrintWords
set_option linter.unusedVariables false
/-- From state s, some whole blocks of m are turned in: what is left is r, the state is s'. -/
inductive Eats : List Int → List Int → List Int → List Int → Prop
  | stay (s m : List Int) : Eats s m s m
  | step {s m s' r : List Int} (h : 64 ≤ m.length) (t : Eats (compress s (m.take 64)) (m.drop 64) s' r) : Eats s m s' r
theorem Eats.trans {s m s1 r1 s2 r2 : List Int} (h : Eats s m s1 r1) (h2 : Eats s1 r1 s2 r2) : Eats s m s2 r2 := by
  induction h with
  | stay => exact h2
  | step h t ih => exact .step h (ih h2)
theorem Eats.append {s m s1 r1 : List Int} (h : Eats s m s1 r1) (p : List Int) : Eats s (m ++ p) s1 (r1 ++ p) := by
  induction h with
  | stay => exact .stay _ _
  | @step s m s' r h t ih =>
    refine .step (by rw [List.length_append]; omega) ?_
    rw [List.take_append_of_le_length h, List.drop_append_of_le_length h]
    exact ih
theorem Eats.one {s m : List Int} (h : 64 ≤ m.length) : Eats s m (compress s (m.take 64)) (m.drop 64) := .step h (.stay _ _)
theorem Eats.len {s m s1 r1 : List Int} (h : Eats s m s1 r1) : r1.length ≤ m.length ∧ (m.length - r1.length) % 64 = 0 := by
  induction h with
  | stay => simp
  | @step s m s' r h t ih =>
    rw [List.length_drop] at ih
    omega
theorem Eats.absorb {s m s1 r1 : List Int} (h : Eats s m s1 r1) (hr : r1.length < 64) : ∀ n, m.length / 64 ≤ n → Q.absorb n s m = (s1, r1) := by
  induction h with
  | stay s m =>
    intro n hn
    cases n with
    | zero => rfl
    | succ n => simp only [Q.absorb]; rw [if_neg (by omega)]
  | @step s m s' r h t ih =>
    intro n hn
    cases n with
    | zero => omega
    | succ n =>
      simp only [Q.absorb]
      rw [if_pos h]
      exact ih hr n (by rw [List.length_drop]; omega)
theorem compress_length (s b : List Int) : (compress s b).length = 8 := by simp [compress]
theorem compress_u32 (s b : List Int) : ∀ x ∈ compress s b, U32 x := by
  intro x hx
  unfold compress at hx
  obtain ⟨i, _, rfl⟩ := List.mem_map.1 hx
  exact u32_wrap _
theorem Eats.state {s m s1 r1 : List Int} (h : Eats s m s1 r1) (hl : s.length = 8) (hs : ∀ x ∈ s, U32 x) : s1.length = 8 ∧ ∀ x ∈ s1, U32 x := by
  induction h with
  | stay => exact ⟨hl, hs⟩
  | step h t ih => exact ih (compress_length _ _) (compress_u32 _ _)
theorem Eats.mem {s m s1 r1 : List Int} (h : Eats s m s1 r1) {P : Int → Prop} (hp : ∀ x ∈ m, P x) : ∀ x ∈ r1, P x := by
  induction h with
  | stay => exact hp
  | step h t ih => exact ih (fun x hx => hp x (List.mem_of_mem_drop hx))
theorem init8_ok : init8.length = 8 ∧ ∀ x ∈ init8, U32 x := by
  refine ⟨rfl, ?_⟩
  unfold U32 init8
  decide
/-- What is behind a message. -/
theorem pad_len (m : List Int) : (padTo m).length = m.length + 1 + (119 - m.length % 64) % 64 := by simp [padTo]; omega
theorem len8_len (n : Int) : (len8 n).length = 8 := by simp [len8]
theorem sha_of_eats {m s1 : List Int} (h : Eats init8 (padTo m ++ len8 (8 * m.length)) s1 []) : shaOf m = bytes32 s1 := by
  unfold shaOf
  rw [h.absorb (by simp) _ (by rw [List.length_append, pad_len, len8_len]; omega)]
theorem bytes32_len (s : List Int) : (bytes32 s).length = 32 := by simp [bytes32]
theorem bytes32_bound (s : List Int) : ∀ x ∈ bytes32 s, 0 ≤ x ∧ x < 256 := by
  intro x hx
  unfold bytes32 at hx
  obtain ⟨i, _, rfl⟩ := List.mem_map.1 hx
  omega
theorem sha_len (m : List Int) : (shaOf m).length = 32 := bytes32_len _
theorem sha_bound (m : List Int) : ∀ x ∈ shaOf m, 0 ≤ x ∧ x < 256 := bytes32_bound _
end Go.Proofs.YtoaimcobcgomjaaDoor.Q
namespace Go.Proofs.YtoaimcobcgomjaaDoor.Q
open Go.RowKit Go.Proofs.YtoaimcobcgomjaaDoorW.PrintWords Go.Proofs.YtoaimcobcgomjaaDoorW.PrintLast Go.Proofs.YtoaimcobcgomjaaDoorW.PrintMore
set_option linter.unusedVariables false
set_option linter.unusedSimpArgs false
section
variable {P : Program} {ops : Array Oper} {rest : List Oper} {o : Oper} {a : Act} {Q : Exit → Act → World → Prop} {α : Type}
theorem append_nothing (t ty e : TypeId) {i : TypeInfo} (ht : P.underlying t = some (.slice e)) (hi : P.info? e = some i) (A B : Option Addr) (n c c' : Nat) (hnc : n ≤ c) (W : World) : (Builtin.append_ #[t, t] ty #[.slice B n c, .slice A 0 c']).run P W = .ok (.slice B n c) W := by
  cases A <;> cases B <;> simp [Builtin.append_, run_underlying ht, sizeOf, typeInfo, hi, Builtin.lenOf, Builtin.firstCells, hnc, storeCells, loadCells, loadCellsFrom]
/-- append(v, ys...), v a row of one's own that may begin inside its block: the run. -/
theorem Q_rows_run (d : Kd α) {Rr : α → List Value → Prop} {w0 W : World} (base : Nat) (t ty e : TypeId) (z : Value) (bytes : Nat)
    (ht : P.underlying t = some (.slice e)) (hinfo : (P.info? e).map (fun i => (i.zero, i.size, i.bytes)) = some (some z, d.sz, bytes)) (hz : z.cells.size = d.sz) (hs0 : 0 < d.sz) (hb0 : 0 < bytes)
    (v : Value) (xs ys : List α) (A : Option Addr) (m c : Nat) (ok okp : Nat → Prop)
    (HO : d.Q e W base ok v xs) (HR : ReadsRow Rr d.sz W A m ys) (hKM : ∀ x cs, Rr x cs → d.M W base okp x cs) (hokp : ∀ k, okp k → ok k ∧ some k ≠ v.ownBlock) (hfresh : ∀ k, W.heap.size ≤ k → ok k)
    (HB : Below base w0 W) (hbase : base ≤ W.heap.size) (hl : (xs.length + m) * bytes ≤ 140737488355328) :
    ∃ v1 w1, (Builtin.append_ #[t, t] ty #[v, .slice A m c]).run P W = .ok v1 w1 ∧ d.Q e w1 base ok v1 (xs ++ ys) ∧ Below base w0 w1 ∧ W.grownBy w1 v.ownBlock ∧ (v1.ownBlock = v.ownBlock ∨ ∃ b, v1.ownBlock = some b ∧ W.heap.size ≤ b) := by
  obtain ⟨i0, hi, hzz⟩ := Option.map_eq_some_iff.1 hinfo
  simp only [Prod.mk.injEq] at hzz
  obtain ⟨hz0, hz1, hz2⟩ := hzz
  have hm : ys.length = m := HR.1
  have hlen : xs.length + m ≤ 140737488355328 := Nat.le_trans (Nat.le_mul_of_pos_right _ hb0) hl
  have HO' := HO
  obtain ⟨hok, inner, hown, hr⟩ := HO
  have hrun : ∃ v1 w1, (Builtin.append_ #[t, t] ty #[v, .slice A m c]).run P W = .ok v1 w1 ∧ d.Q e w1 base ok v1 (xs ++ ys) ∧ W.grownBy w1 v.ownBlock ∧ (v1.ownBlock = v.ownBlock ∨ ∃ b, v1.ownBlock = some b ∧ W.heap.size ≤ b) := by
    rcases Nat.eq_zero_or_pos m with h0 | h0
    · subst h0
      obtain rfl : ys = [] := List.eq_nil_of_length_eq_zero hm
      obtain ⟨B, cb, rfl, hnc⟩ := Kd.Q_slice HO'
      exact ⟨_, W, append_nothing t ty e ht hi A B _ cb c hnc W, by rw [List.append_nil]; exact HO', World.grownBy.refl W _, .inl rfl⟩
    · obtain ⟨ad, rfl, _⟩ := HR.2.2 h0
      obtain ⟨news, hnr, hnc⟩ := ReadsRow.inner_ HR
      have hnM : Reps (d.M W base okp) d.sz ys news := hnr.imp_ (fun p c hp => hKM p c hp)
      have hone : ∀ u ∈ news, u.oneCell' = true := by
        intro u hu
        obtain ⟨q, hq, rfl⟩ := List.mem_iff_getElem.1 hu
        have hql : q / d.sz < ys.length := by
          rw [Nat.div_lt_iff_lt_mul hs0]
          rw [← hnM.1]
          exact hq
        have hc := hnM.2 (q / d.sz) _ (List.getElem?_eq_getElem hql)
        refine d.K_one (d.K_of_M hc) _ ?_
        rw [List.mem_iff_getElem?]
        refine ⟨q % d.sz, ?_⟩
        rw [List.getElem?_take, if_pos (Nat.mod_lt _ hs0), List.getElem?_drop, Nat.mul_comm, Nat.div_add_mod, List.getElem?_eq_getElem hq]
      obtain ⟨v1, w1, hrun, h2, hg, hat'⟩ := q_append (P := P) W base t ty e i0 z d.sz bytes ht hi hz0 hz1 hz2 hz hs0 v xs.length inner hown ad m c news (by rw [hnM.1, hm]) hnc hone h0 (by simp only [maxLen]; omega) hl hbase
      have hne : ∀ k, some k ≠ v.ownBlock → k < W.heap.size → some k ≠ v1.ownBlock := by
        intro k hk hlt
        rcases hat' with hat | ⟨b, hb, hle⟩
        · rw [hat]; exact hk
        · rw [hb]
          intro he
          injection he with he
          omega
      have step : ∀ {q : α} {c : List Value} {o : Nat → Prop}, d.M W base o q c → (∀ k, o k → ok k ∧ some k ≠ v.ownBlock) → d.M w1 base (fun k => ok k ∧ some k ≠ v1.ownBlock) q c := by
        intro q c o hq ho
        have h1 := d.M_move (w1 := w1) (fun k hk => hg.block k hk.2.2.1 (ho k hk.1).2) (d.M_bound hq)
        exact d.M_mono (fun k hk => ⟨(ho k hk.1).1, hne k (ho k hk.1).2 hk.2.2.1⟩) h1
      refine ⟨v1, w1, hrun, ⟨fun k hk => ?_, inner ++ news, by rw [List.length_append, hm]; exact h2, Kd.reps_append (hr.imp_ (fun _ _ hq => step hq (fun _ hk => hk))) (hnM.imp_ (fun _ _ hq => step hq hokp))⟩, hg, hat'⟩
      rcases hat' with hat | ⟨b, hb, hle⟩
      · exact hok k (hat ▸ hk)
      · rw [hb] at hk
        injection hk with hk
        exact hfresh k (by omega)
  obtain ⟨v1, w1, hr1, h1, hg, hat⟩ := hrun
  exact ⟨v1, w1, hr1, h1, HB.grown hg hbase (fun k hk => (q_typed hown k hk).1), hg, hat⟩
/-- append(v, ys...), v a row of one's own that may begin inside its block. -/
theorem Q_append_rows (d : Kd α) {Rr : α → List Value → Prop} {w0 W : World} (base : Nat) (hgd : o.guard = none) (s x : Operand) (t e : TypeId) (z : Value) (bytes : Nat)
    (ho : o.op = .call { callee := .builtin .append, args := #[s, x], argTypes := #[t, t] })
    (ht : P.underlying t = some (.slice e)) (hinfo : (P.info? e).map (fun i => (i.zero, i.size, i.bytes)) = some (some z, d.sz, bytes)) (hz : z.cells.size = d.sz) (hs0 : 0 < d.sz) (hb0 : 0 < bytes)
    (v : Value) (xs ys : List α) (A : Option Addr) (m c : Nat) (ok okp : Nat → Prop) (hs : a.eval s = v) (hx : a.eval x = .slice A m c)
    (HO : d.Q e W base ok v xs) (HR : ReadsRow Rr d.sz W A m ys) (hKM : ∀ x cs, Rr x cs → d.M W base okp x cs) (hokp : ∀ k, okp k → ok k ∧ some k ≠ v.ownBlock) (hfresh : ∀ k, W.heap.size ≤ k → ok k)
    (HB : Below base w0 W) (hbase : base ≤ W.heap.size) (hl : (xs.length + m) * bytes ≤ 140737488355328)
    (h : ∀ v1 w1, d.Q e w1 base ok v1 (xs ++ ys) → Below base w0 w1 → W.grownBy w1 v.ownBlock → (v1.ownBlock = v.ownBlock ∨ ∃ b, v1.ownBlock = some b ∧ W.heap.size ≤ b) → wpList P ops Q rest (a.put o.dst v1) w1) :
    wpList P ops Q (o :: rest) a W := by
  obtain ⟨v1, w1, hr, h1, h2, h3, h4⟩ := Q_rows_run (P := P) d base t o.type e z bytes ht hinfo hz hs0 hb0 v xs ys A m c ok okp HO HR hKM hokp hfresh HB hbase hl
  refine wpList_plain hgd fun K hK => ?_
  unfold Oper.wp execOp
  simp only [ho, resolve, invoke, builtin, Sem.run_bind, Sem.run_pure, Result.andThen_ok, List.map_toArray, List.map_cons, List.map_nil, hs, hx, hr]
  exact hK _ _ (h v1 w1 h1 h2 h3 h4)
end
theorem results_c {P : Program} {fn : Func} {p : Tmp} {ty : TypeId} (h : fn.results = #[.cell p ty]) (tmps : Array Value) (w : World) (g : Nat) (t : TypeId) (cs : Array Value) (fr : Nat × Nat) (d : TypeDesc)
    (hp : tmps.getD p undef = .pointer (some ⟨g, 0, none⟩)) (hg : w.heap[g]? = some (.cells cs t fr))
    (hu : P.underlying ty = some d) (hd : (match d with | .struct _ | .array _ _ => true | _ => false) = true) (hi : (P.info? ty).map (·.size) = some cs.size) :
    (results fn tmps).run P w = .ok (.agg cs) w := by
  have hp' : tmps[p]?.getD undef = .pointer (some ⟨g, 0, none⟩) := by simpa using hp
  simp [results, h, hp', asAddr, run_loadVar_row w g t ty cs fr d hg hu hd hi]
end Go.Proofs.YtoaimcobcgomjaaDoor.Q
namespace Go.Proofs.YtoaimcobcgomjaaDoor.Q
open Go.RowKit Go.Proofs.YtoaimcobcgomjaaDoorW.PrintWords Go.Proofs.YtoaimcobcgomjaaDoorW.PrintLast Go.Proofs.YtoaimcobcgomjaaDoorW.PrintMore
set_option linter.unusedVariables false
set_option linter.unusedSimpArgs false
/-- The number of a digit; -1: it is none. -/
def h16 (c : Int) : Int := match hexL.findIdx? (fun b => (b.toNat : Int) == c) with | some i => i | none => -1
def zeros32 : List Int := List.replicate 32 0
end Go.Proofs.YtoaimcobcgomjaaDoor.Q
namespace Go.Proofs.YtoaimcobcgomjaaDoor.Q
open Go.RowKit Go.Proofs.YtoaimcobcgomjaaDoorW.PrintWords Go.Proofs.YtoaimcobcgomjaaDoorW.PrintLast Go.Proofs.YtoaimcobcgomjaaDoorW.PrintMore
set_option linter.unusedVariables false
set_option linter.unusedSimpArgs false
/-- The table k lies where it was laid. -/
def KT (W : World) : Prop := ∀ j, j < 64 → W.cell? ⟨0, j, none⟩ = some (.int .u32 (at_ K64 j))
theorem KT.lt {W : World} (h : KT W) : 0 < W.heap.size := World.block_lt_of_cell? W _ (h 0 (by omega))
theorem KT.below {W w : World} (h : KT W) {base : Nat} (hb0 : 0 < base) (hb : Below base W w) : KT w := fun j hj => (hb.cell hb0).trans (h j hj)
theorem flat_take (ps : List (List Int)) (j : Nat) (h : j < ps.length) : (ps.take (j + 1)).flatten = (ps.take j).flatten ++ ps[j] := by
  rw [List.take_succ_eq_append_getElem h, List.flatten_append]
  simp
theorem flat_take_len (ps : List (List Int)) (j : Nat) : (ps.take j).flatten.length ≤ ps.flatten.length := by
  conv => rhs; rw [← List.take_append_drop j ps]
  rw [List.flatten_append, List.length_append]
  omega
/-- A part's place. -/
theorem idx_part (ad : Addr) (n cap i : Nat) (hi : i < n) (W : World) : (Instr.indexAt 29 (.slice (some ad) n cap) (.int .i64 (i : Int))).run Tryd.prog W = .ok (.pointer (some (ad.add i))) W := by
  have hel : Tryd.prog.elem 29 = 22 := by kernel_rfl
  obtain ⟨j, hj, h1, h2, h3⟩ := info_parts info22
  rw [run_indexAt_slice W 29 _ _ _ _ _ (by rw [hel]; exact Tryd.underlying29)]
  simp [hi, hel, sizeOf, typeInfo, hj, h2, Result.andThen]
/-- What holds at the head of the loop over the parts. -/
structure OfInv (gd gs : Nat) (W : World) (m s rs : List Int) (v : Value) (w : World) : Prop where
  bd : w.heap[gd]? = some (.cells (arr (List.replicate 32 0)) 25 (0, 0))
  bs : w.heap[gs]? = some (.cells (arr32 s) 56 (0, 0))
  q : (Kd.int .u8).Q 5 w W.heap.size (fun _ => True) v rs
  hb : Below W.heap.size W w
  eats : Eats init8 m s rs
  mem : ∀ x ∈ rs, 0 ≤ x ∧ x < 256
  hd : W.heap.size ≤ gd
  hs : W.heap.size ≤ gs
  ne : gd ≠ gs
theorem OfInv.cut {gd gs : Nat} {W w : World} {m s rs : List Int} {v : Value} (h : OfInv gd gs W m s rs v w) (hk : KT W) (h64 : 64 ≤ rs.length) :
    ∃ g o cb v', v = .slice (some ⟨g, o, none⟩) rs.length cb ∧ rs.length ≤ cb ∧ BlkPre gs g o s (rs.take 64) w ∧
      (∀ W' : World, (Instr.slice 22 (.slice (some ⟨g, o, none⟩) rs.length cb) (some (.int .i64 64)) none none).run Tryd.prog W' = .ok v' W') ∧
      (∀ W' : World, (Instr.slice 22 (.slice (some ⟨g, o, none⟩) rs.length cb) none (some (.int .i64 64)) none).run Tryd.prog W' = .ok (.slice (some ⟨g, o, none⟩) 64 cb) W') ∧
      ∀ w4, w4.heap[gs]? = some (.cells (arr32 (compress s (rs.take 64))) 56 (0, 0)) → w.heap.size ≤ w4.heap.size → (∀ k, k < w.heap.size → k ≠ gs → w4.heap[k]? = w.heap[k]?) → (∀ (B : Nat) (w0 : World), Below B w0 w → B ≤ gs → Below B w0 w4) →
        OfInv gd gs W m (compress s (rs.take 64)) (rs.drop 64) v' w4 := by
  obtain ⟨g, o, cb, rfl, hbg, hgl, cells, hc⟩ := Kd.Q_form h.q (by omega)
  obtain ⟨_, hlc, hrd⟩ := Kd.Q_reads' h.q
  obtain ⟨ss, su⟩ := h.eats.state init8_ok.1 init8_ok.2
  have hgs : g ≠ gs := by
    rintro rfl
    have := h.bs
    rw [hc] at this
    injection this with this
    injection this with _ this
    exact absurd this (by decide)
  have hpos : 0 < W.heap.size := hk.lt
  refine ⟨g, o, cb, .slice (if cb = 64 then some ⟨g, o, none⟩ else (some (⟨g, o, none⟩ : Addr)).map (·.add (64 * 1))) (rs.length - 64) (cb - 64), rfl, hlc, ⟨h.bs, fun j hj => ?_, hgs, hk.below hpos h.hb, by have := h.hs; omega, ss, su, by rw [List.length_take]; omega, fun x hx => h.mem x (List.mem_of_mem_take hx)⟩, ?_, ?_, ?_⟩
  · obtain ⟨ad, he, hy⟩ := Kd.at_int hrd (j : Int) (by omega) (by omega)
    cases he
    rw [Int.toNat_natCast] at hy
    have e1 : (⟨g, o, none⟩ : Addr).add j = ⟨g, o + j, none⟩ := by simp [Addr.add]
    rw [← e1, hy]
    congr 2
    have hjl : j < rs.length := by omega
    simp [at_, rd, hj, hjl]
  · obtain ⟨i, hi, h1, h2, h3⟩ := info_parts info5
    exact cut_from 22 5 .i64 Tryd.underlying22 hi 1 h2 (some ⟨g, o, none⟩) rs.length cb 64 (by omega) (by omega)
  · obtain ⟨i, hi, h1, h2, h3⟩ := info_parts info5
    exact cut_to 22 5 .i64 Tryd.underlying22 hi (some ⟨g, o, none⟩) rs.length cb 64 (by omega) (by omega) hlc
  · intro w4 hbs hsz hoth hbel
    have q1 := Kd.Q_mono (Kd.Q_step (Kd.Q_types h.q h.bs (by decide)) (fun k hk hlt => hoth k hlt hk.2)) (ok' := fun _ => True) (fun _ _ => trivial)
    exact ⟨(hoth gd (blk_lt h.bd) h.ne).trans h.bd, hbs, Kd.Q_drop q1 h64, hbel _ _ h.hb h.hs, h.eats.trans (.one h64), fun x hx => h.mem x (List.mem_of_mem_drop hx), h.hd, h.hs, h.ne⟩
def lenV (v : Value) : Nat := match v with | .slice _ n _ => n | _ => 0
theorem OfInv.drew {gd gs : Nat} {W w : World} {m s rs : List Int} {v : Value} (h : OfInv gd gs W m s rs v w) : OfInv gd gs W m s rs v w.drew :=
  ⟨blk_drew h.bd, blk_drew h.bs, Kd.Q_drew h.q, below_drew h.hb, h.eats, h.mem, h.hd, h.hs, h.ne⟩
theorem OfInv.grow {gd gs : Nat} {W w w1 : World} {m s rs p : List Int} {v v1 : Value} (h : OfInv gd gs W m s rs v w) (q : (Kd.int .u8).Q 5 w1 W.heap.size (fun _ => True) v1 (rs ++ p)) (hb : Below W.heap.size W w1) (hg : w.grownBy w1 v.ownBlock) (hp : ∀ x ∈ p, 0 ≤ x ∧ x < 256) : OfInv gd gs W (m ++ p) s (rs ++ p) v1 w1 :=
  ⟨blk_grown h.bd hg (Kd.Q_ne h.q h.bd (by decide)), blk_grown h.bs hg (Kd.Q_ne h.q h.bs (by decide)), q, hb, h.eats.append p, fun x hx => (List.mem_append.1 hx).elim (h.mem x) (hp x), h.hd, h.hs, h.ne⟩
theorem OfInv.lenV {gd gs : Nat} {W w : World} {m s rs : List Int} {v : Value} (h : OfInv gd gs W m s rs v w) : lenV v = rs.length := by
  obtain ⟨A, c, rfl, _⟩ := Kd.Q_slice h.q
  rfl
theorem len8_take (x : Int) (q : Nat) (hq : q < 8) : (len8 x).take (q + 1) = (len8 x).take q ++ [x / 2 ^ (56 - 8 * q) % 256] := by
  rw [List.take_succ_eq_append_getElem (by rw [len8_len]; exact hq)]
  congr 1
  simp [len8]
/-- The digest's bytes, the first q of them. -/
def digTo (s : List Int) (q : Nat) : List Int := (bytes32 s).take q ++ List.replicate (32 - q) 0
theorem digTo_len (s : List Int) (q : Nat) (hq : q ≤ 32) : (digTo s q).length = 32 := by simp [digTo, bytes32_len]; omega
theorem digTo_set (s : List Int) (q : Nat) (hq : q < 32) : (digTo s q).set q (at_ s (q / 4) / 2 ^ (24 - 8 * (q % 4)) % 256) = digTo s (q + 1) := by
  unfold digTo
  have h32 : 32 - q = (32 - (q + 1)) + 1 := by omega
  have hl : ((bytes32 s).take q).length = q := by rw [List.length_take, bytes32_len]; omega
  rw [h32, List.replicate_succ, List.set_append_right _ _ (by omega), hl, Nat.sub_self, List.set_cons_zero, List.take_succ_eq_append_getElem (by rw [bytes32_len]; exact hq), List.append_assoc]
  congr 1
  simp [bytes32]
theorem digTo_end (s : List Int) : digTo s 32 = bytes32 s := by simp [digTo, List.take_of_length_le, bytes32_len]
theorem idx_dig (g i : Nat) (hi : i < 32) (W : World) : (Instr.indexAt 25 (.pointer (some ⟨g, 0, none⟩)) (.int .i64 (i : Int))).run Tryd.prog W = .ok (.pointer (some ⟨g, i, none⟩)) W := by
  have hel : Tryd.prog.elem 25 = 5 := by kernel_rfl
  have hn : Tryd.prog.arrayLen 25 = 32 := by kernel_rfl
  obtain ⟨j, hj, h1, h2, h3⟩ := info_parts info5
  rw [run_indexAt_array W 25 _ _ _ (by rw [hn, hel]; exact Tryd.underlying25)]
  have hi2 : (i : Int) < 32 := by omega
  simp [hi, hi2, hel, hn, sizeOf, typeInfo, hj, h2, Result.andThen, add_zero_plain]
set_option maxHeartbeats 16000000 in
set_option maxRecDepth 100000 in
theorem of_walk (A : Option Addr) (n c : Nat) (ps : List (List Int)) (W : World) (hR : (Kd.slice 5 (Kd.int .u8)).C W A n ps) (hm : ∀ p ∈ ps, ∀ x ∈ p, 0 ≤ x ∧ x < 256) (hl : ps.flatten.length < 1099511627776) (hk : KT W) :
    Calls Tryd.prog 13 #[.slice A n c] W fun e W' => e = .returned (.agg (arr (shaOf ps.flatten))) ∧ Below W.heap.size W W' := by
  have HR := Aside0.mk hR
  have HM := Aside0.mk hm
  have HL := Aside0.mk hl
  have HK := Aside0.mk hk
  have HB := Aside0.mk (Below.refl W.heap.size W)
  have hn : ps.length = n := hR.1
  have HN := Aside0.mk hn
  have HN2 : Aside0 (n ≤ 9223372036854775807) := ⟨hR.2.1⟩
  clear hR hm hl hk hn
  go_enter Tryd.func13, Tryd.ntmps13
  go_wp2_with (
    first
    | ((with_reducible refine gate_dst (N := 2) rfl ?_); refine box_event ?hg (N := 2) ?hd (cs := arr (List.replicate 32 0)) (t := 25) ?hr ?_; (case hd => rfl); (case hg => rfl); (case hr => first | (go_simp; done) | (go_simp; rfl));
       intro gd hg w1 hbox hb; have BD := Aside0.mk hbox; have GD := Aside0.mk (show W.heap.size ≤ gd by rw [hg]; exact Nat.le_refl _); have HB1 := Aside0.mk (below_step HB.out hb); clear HB; have HB := HB1; clear HB1 hb hbox hg)
    | ((with_reducible refine gate_dst (N := 3) rfl ?_); refine box_event ?hg (N := 3) ?hd (cs := arr32 (List.replicate 8 0)) (t := 56) ?hr ?_; (case hd => rfl); (case hg => rfl); (case hr => first | (go_simp; done) | (go_simp; rfl));
       intro gs hg w2 hbox hb; have BS := Aside0.mk hbox; have GS := Aside0.mk (show W.heap.size ≤ gs by rw [hg]; exact below_size HB.out); have NE := Aside0.mk (show gd ≠ gs by rw [hg]; exact Nat.ne_of_lt (blk_lt BD.out)); have n1 := Aside0.mk (blk_below BD.out hb); have HB1 := Aside0.mk (below_step HB.out hb); clear HB BD; have HB := HB1; have BD := n1; clear HB1 n1 hb hbox hg)
    | ((with_reducible refine gate_store (p := 3) rfl ?_); refine st_store rfl (.tmp 3) (.tmp 10) rfl gs init8 (List.replicate 8 0) rfl rfl BS.out rfl rfl ?_; intro w3 bk hoth hbel; have n1 := Aside0.mk bk; have n2 := Aside0.mk ((hoth gd NE.out).trans BD.out); have n3 := Aside0.mk (hbel _ _ HB.out GS.out); clear BS BD HB bk hoth hbel; have BS := n1; have BD := n2; have HB := n3; clear n1 n2 n3))
  have HI : Aside0 (OfInv gd gs W [] init8 [] (.slice none 0 0) w3) := ⟨⟨BD.out, BS.out, Kd.Q_nil _ _ _ _ _, HB.out, .stay _ _, by simp, GD.out, GS.out, NE.out⟩⟩
  clear BD BS HB
  go_loopw [4, 5, 7, 13] (fun r m _ i wr => ∃ (j : Nat) (s rs : List Int), j ≤ n ∧ i = .int .i64 (j : Int) ∧ m = .int .u64 ((ps.take j).flatten.length : Int) ∧ Aside0 (OfInv gd gs W (ps.take j).flatten s rs r wr ∧ rs.length < 64)) (fun _ _ _ i _ => n - (intOf i).toNat)
  case atStart => exact ⟨0, init8, [], by omega, rfl, rfl, ⟨by simpa using HI.out, by simp⟩⟩
  case round =>
    obtain ⟨j, s, rs, hj, rfl, rfl, HI2⟩ := hrel
    by_cases hlt : j < n
    · have hjl : j < ps.length := by rw [HN.out]; exact hlt
      obtain ⟨ad, c0, hA, hcl, hK, hcells⟩ := Kd.C_get (Kd.C_below HR.out HI2.out.1.hb) [] (j : Int) (by omega) (by omega)
      subst hA
      obtain ⟨p, hp⟩ : ∃ p, ps[j] = p := ⟨_, rfl⟩
      have hpd : ps.getD (j : Int).toNat [] = p := by rw [← hp]; simp [hjl]
      rw [hpd] at hK
      obtain ⟨Ap, cp, rfl, hple, hCp⟩ := hK
      have hcell : wr.cell? (ad.add j) = some (.slice Ap p.length cp) := by
        have := hcells 0 _ rfl
        simpa [Kd.slice] using this
      have HFL : Aside0 ((ps.take (j + 1)).flatten = (ps.take j).flatten ++ p) := ⟨by rw [flat_take ps j hjl, hp]⟩
      have hlen : (ps.take j).flatten.length + p.length ≤ ps.flatten.length := by
        have := flat_take_len ps (j + 1)
        rw [HFL.out, List.length_append] at this
        exact this
      have HPB : Aside0 (∀ x ∈ p, 0 ≤ x ∧ x < 256) := ⟨HM.out p (by rw [← hp]; exact List.getElem_mem hjl)⟩
      obtain ⟨mj, hmj⟩ : ∃ k : Nat, (ps.take j).flatten.length = k := ⟨_, rfl⟩
      have HMJ := Aside0.mk hmj
      rw [hmj] at hlen ⊢
      have hl40 := HL.out
      have h1 : mj + p.length < 1099511627776 := by omega
      clear hl40 hlen
      have hix := fun W' => idx_part ad n c j hlt W'
      have hjw : IntKind.i64.wrap ((j : Int) + 1) = (j : Int) + 1 := by
        have := HN2.out
        rw [IntKind.wrap_i64]
        omega
      have hw1 : IntKind.u64.wrap (p.length : Int) = (p.length : Int) := by rw [IntKind.wrap_u64]; omega
      have hw2 : IntKind.u64.wrap ((mj : Int) + (p.length : Int)) = (mj : Int) + (p.length : Int) := by rw [IntKind.wrap_u64]; omega
      have HCP := Aside0.mk hCp
      have HLT : Aside0 (rs.length < 64) := ⟨HI2.out.2⟩
      have HPL : Aside0 (p.length < 1099511627776) := ⟨by omega⟩
      have HI := Aside0.mk HI2.out.1
      clear hmj hp hpd hcells hcl hCp HI2
      go_wp2_with (
        first
        | ((with_reducible refine gate_builtin (b := .append) (xs := #[.tmp 22, .tmp 23]) rfl ?_); at_builtin;
           refine Q_append_rows (Kd.int .u8) (w0 := W) W.heap.size rfl (.tmp 22) (.tmp 23) 22 5 (.int .u8 0) 1 rfl Tryd.underlying22 info5 rfl (by decide) (by decide) _ rs p Ap p.length cp (fun _ => True) (fun _ => False) rfl rfl HI.out.q HCP.out (fun _ _ h => h) (fun _ hk => hk.elim) (fun _ _ => trivial) HI.out.hb (below_size HI.out.hb) ?hl ?_;
           (case hl => have := HLT.out; have := HPL.out; omega);
           intro v1 w1 hq hb hg hat; have HI1 := Aside0.mk (HI.out.grow hq hb hg HPB.out); clear hq hb hg hat))
      go_loopw [4] (fun r wr => ∃ (s rs : List Int), Aside0 (OfInv gd gs W ((ps.take j).flatten ++ p) s rs r wr)) (fun r _ => lenV r)
      case atStart => exact ⟨_, _, HI1⟩
      case round =>
        obtain ⟨s, rs, HI2⟩ := hrel
        clear HI HI1
        by_cases h64 : 64 ≤ rs.length
        · obtain ⟨g, o, cb, v', rfl, hle, hpre, hcf, hct, hnext⟩ := HI2.out.cut HK.out h64
          have HPRE := Aside0.mk hpre
          have HNEXT := Aside0.mk hnext
          clear hpre hnext
          go_wp2_with (
            first
            | (go_at_call 34; (with_reducible refine (block_walk gs g o cb s (rs.take 64) _ HPRE.out).mono ?_); rintro e w4 ⟨rfl, hbs, hsz, hoth, hbel⟩;
               have HI4 := Aside0.mk (HNEXT.out w4 hbs hsz hoth hbel); clear hbs hsz hoth hbel HNEXT HPRE))
          exact ⟨⟨_, _, HI4⟩, by have e := HI4.out.lenV; rw [List.length_drop] at e; show lenV v' < rs.length; omega⟩
        · obtain ⟨B, cb, rfl, hle2⟩ := Kd.Q_slice HI2.out.q
          go_wp2
          refine ⟨⟨j + 1, s, rs, by omega, by simp, by rw [HFL.out, List.length_append, HMJ.out]; simp, ⟨by rw [HFL.out]; exact HI2.out, by omega⟩⟩, by simp [intOf]; omega⟩
    · have hjn : ps.take j = ps := List.take_of_length_le (by rw [HN.out]; omega)
      rw [hjn] at HI2 ⊢
      obtain ⟨N, hN⟩ : ∃ k : Nat, ps.flatten.length = k := ⟨_, rfl⟩
      have HNL := Aside0.mk hN
      rw [hN]
      have hl40 := HL.out
      rw [hN] at hl40
      have HLT : Aside0 (rs.length < 64) := ⟨HI2.out.2⟩
      have HI1 := Aside0.mk HI2.out.1
      clear hN HI2 HI hjn
      have HI := HI1
      clear HI1
      go_wp2_with (
        first
        | ((with_reducible refine gate_builtin (b := .append) (xs := #[.tmp 34, .tmp 35]) rfl ?_); at_builtin;
           refine Kd.Q_append (Kd.int .u8) (w0 := W) W.heap.size rfl (.tmp 34) (.tmp 35) 22 5 (.int .u8 0) 1 rfl Tryd.underlying22 info5 rfl (by decide) (by decide) _ rs 128 [.int .u8 128] (fun _ => True) (fun _ => False) rfl rfl rfl (fun _ hk => hk.elim) (fun _ _ => trivial) HI.out.q HI.out.hb (below_size HI.out.hb) ?hl ?_;
           (case hl => have := HLT.out; omega);
           intro v1 w1 hq hb hg hat; have HI1 := Aside0.mk (HI.out.grow hq hb hg (by simp)); clear hq hb hg hat HI))
      obtain ⟨R0, hR0⟩ : ∃ k : Nat, rs.length = k := ⟨_, rfl⟩
      have HR0 := Aside0.mk hR0
      have hr0 : R0 < 64 := by rw [← hR0]; exact HLT.out
      have hr1 : (N - R0) % 64 = 0 ∧ R0 ≤ N := by
        have := HI1.out.eats.len
        rw [List.length_append, List.length_append, HNL.out, hR0] at this
        simp only [List.length_cons, List.length_nil] at this
        omega
      clear hR0 HLT
      go_loopw [4] (fun r wr => ∃ (k : Nat) (rs : List Int), k ≤ (119 - N % 64) % 64 ∧ Aside0 (rs.length = R0 + 1 + k) ∧ Aside0 (OfInv gd gs W (ps.flatten ++ [128] ++ List.replicate k 0) s rs r wr)) (fun r _ => 200 - lenV r)
      case atStart => exact ⟨0, rs ++ [128], by omega, ⟨by rw [List.length_append, HR0.out]; rfl⟩, ⟨by simpa using HI1.out⟩⟩
      case round =>
        obtain ⟨k, rs, hk, HRL, HI⟩ := hrel
        clear HI1 HR0
        obtain ⟨B, cb, rfl, hle⟩ := Kd.Q_slice HI.out.q
        obtain ⟨L, hL⟩ : ∃ k : Nat, rs.length = k := ⟨_, rfl⟩
        have hL2 : L = R0 + 1 + k := by rw [← hL]; exact HRL.out
        have HRL2 := Aside0.mk hL
        have hLb : L < 200 := by omega
        rw [hL] at hle ⊢
        by_cases hz : k < (119 - N % 64) % 64
        · have hm : (L : Int) % 64 ≠ 56 := by omega
          have HL2 := Aside0.mk hL2
          clear hL hL2
          go_wp2_with (
            first
            | ((with_reducible refine gate_builtin (b := .append) (xs := #[.tmp 41, .tmp 42]) rfl ?_); at_builtin;
               refine Kd.Q_append (Kd.int .u8) (w0 := W) W.heap.size rfl (.tmp 41) (.tmp 42) 22 5 (.int .u8 0) 1 rfl Tryd.underlying22 info5 rfl (by decide) (by decide) _ rs 0 [.int .u8 0] (fun _ => True) (fun _ => False) (by rw [HRL2.out]; rfl) rfl rfl (fun _ hk => hk.elim) (fun _ _ => trivial) HI.out.q HI.out.hb (below_size HI.out.hb) ?hl ?_;
               (case hl => have := HRL2.out; omega);
               intro v1 w1 hq hb hg hat; have HI1 := Aside0.mk (HI.out.grow hq hb hg (by simp)); clear hq hb hg hat HI))
          refine ⟨⟨k + 1, rs ++ [0], by omega, ⟨?_⟩, ⟨?_⟩⟩, ?_⟩
          rotate_left
          · rw [List.replicate_succ', ← List.append_assoc]
            exact HI1.out
          · have e := HI1.out.lenV
            have h2 := HRL2.out
            rw [List.length_append, h2] at e
            show 200 - lenV v1 < 200 - L
            rw [e]
            simp only [List.length_cons, List.length_nil]
            omega
          · rw [List.length_append, HRL2.out, HL2.out]
            rfl
        · have hm : (L : Int) % 64 = 56 := by omega
          have hk2 : k = (119 - N % 64) % 64 := by omega
          have HI1 : Aside0 (OfInv gd gs W (padTo ps.flatten) s rs (.slice B L cb) wr) := ⟨by
            have := HI.out
            rw [hk2, ← HNL.out, HRL2.out] at this
            exact this⟩
          have hm2 : L % 64 = 56 := by omega
          have HM2 := Aside0.mk hm2
          clear hL hL2 hk2 HI hm2
          have hw8 : IntKind.u64.wrap (8 * (N : Int)) = 8 * (N : Int) := by rw [IntKind.wrap_u64]; omega
          go_wp2
          clear hm
          go_loopw [4, 8] (fun r i wr => ∃ (q : Nat) (rs : List Int), q ≤ 8 ∧ i = .int .i64 (56 - 8 * (q : Int)) ∧ Aside0 (rs.length = L + q) ∧ Aside0 (OfInv gd gs W (padTo ps.flatten ++ (len8 (8 * (N : Int))).take q) s rs r wr)) (fun _ i _ => (64 + intOf i).toNat)
          case atStart => exact ⟨0, rs, by omega, rfl, HRL2, ⟨by simpa using HI1.out⟩⟩
          case round =>
            obtain ⟨q, rs, hq, rfl, HRL, HI⟩ := hrel
            clear HI1 HRL2
            by_cases hq8 : q < 8
            · have hge : 0 ≤ 56 - 8 * (q : Int) := by omega
              have hs8 : IntKind.i64.wrap (56 - 8 * (q : Int) - 8) = 56 - 8 * (q : Int) - 8 := by rw [IntKind.wrap_i64]; omega
              obtain ⟨B, cb, rfl, hle⟩ := Kd.Q_slice HI.out.q
              go_wp2_with (
                first
                | ((with_reducible refine gate_builtin (b := .append) (xs := #[.tmp 48, .tmp 54]) rfl ?_); at_builtin;
                   refine Kd.Q_append (Kd.int .u8) (w0 := W) W.heap.size rfl (.tmp 48) (.tmp 54) 22 5 (.int .u8 0) 1 rfl Tryd.underlying22 info5 rfl (by decide) (by decide) _ rs (8 * (N : Int) / 2 ^ (56 - 8 * q) % 256) [.int .u8 (8 * (N : Int) / 2 ^ (56 - 8 * q) % 256)] (fun _ => True) (fun _ => False) rfl rfl rfl (fun _ hk => hk.elim) (fun _ _ => trivial) HI.out.q HI.out.hb (below_size HI.out.hb) ?hl ?_;
                   (case hl => have := HRL.out; omega);
                   intro v1 w1 hq hb hg hat; have HI1 := Aside0.mk (HI.out.grow hq hb hg (fun x hx => by rw [List.mem_singleton.1 hx]; omega)); clear hq hb hg hat HI))
              refine ⟨⟨q + 1, rs ++ [8 * (N : Int) / 2 ^ (56 - 8 * q) % 256], by omega, ?_, ⟨by rw [List.length_append, HRL.out]; rfl⟩, ⟨?_⟩⟩, by simp [intOf]; omega⟩
              · simp; omega
              · rw [len8_take _ q hq8, ← List.append_assoc]
                exact HI1.out
            · have hge : 56 - 8 * (q : Int) < 0 := by omega
              have hq2 : q = 8 := by omega
              have HI1 : Aside0 (OfInv gd gs W (padTo ps.flatten ++ len8 (8 * (N : Int))) s rs u4 wr) := ⟨by
                have := HI.out
                rwa [hq2, List.take_of_length_le (by rw [len8_len]; omega)] at this⟩
              have HR64 : Aside0 (rs.length % 64 = 0 ∧ rs.length < 300) := ⟨by rw [HRL.out, hq2]; have := HM2.out; omega⟩
              obtain ⟨MM, hMM⟩ : ∃ MM, padTo ps.flatten ++ len8 (8 * (N : Int)) = MM := ⟨_, rfl⟩
              have HMM := Aside0.mk hMM
              rw [hMM] at HI1
              clear hq2 HI HRL hMM
              go_wp2
              go_loopw [4] (fun r wr => ∃ (s rs : List Int), Aside0 (rs.length % 64 = 0 ∧ rs.length < 300) ∧ Aside0 (OfInv gd gs W MM s rs r wr)) (fun r _ => lenV r)
              case atStart => exact ⟨_, _, HR64, HI1⟩
              case round =>
                obtain ⟨s, rs, HR64, HI2⟩ := hrel
                clear HI1
                by_cases h0 : 0 < rs.length
                · obtain ⟨g, o, cb, v', rfl, hle, hpre, hcf, hct, hnext⟩ := HI2.out.cut HK.out (by have := HR64.out; omega)
                  have HPRE := Aside0.mk hpre
                  have HNEXT := Aside0.mk hnext
                  have h0i : 0 < (rs.length : Int) := by omega
                  clear hpre hnext
                  go_wp2_with (
                    first
                    | (go_at_call 34; (with_reducible refine (block_walk gs g o cb s (rs.take 64) _ HPRE.out).mono ?_); rintro e w4 ⟨rfl, hbs, hsz, hoth, hbel⟩;
                       have HI4 := Aside0.mk (HNEXT.out w4 hbs hsz hoth hbel); clear hbs hsz hoth hbel HNEXT HPRE))
                  exact ⟨⟨_, _, ⟨by rw [List.length_drop]; have := HR64.out; omega⟩, HI4⟩, by have e := HI4.out.lenV; rw [List.length_drop] at e; show lenV v' < rs.length; omega⟩
                · obtain rfl : rs = [] := List.eq_nil_of_length_eq_zero (by omega)
                  obtain ⟨B, cb, rfl, hle⟩ := Kd.Q_slice HI2.out.q
                  have HSO : Aside0 (shaOf ps.flatten = bytes32 s) := ⟨sha_of_eats (by rw [HNL.out, HMM.out]; exact HI2.out.eats)⟩
                  have HSS : Aside0 (s.length = 8 ∧ ∀ x ∈ s, U32 x) := ⟨HI2.out.eats.state init8_ok.1 init8_ok.2⟩
                  have HI3 : Aside0 (wr.heap[gd]? = some (.cells (arr (digTo s 0)) 25 (0, 0)) ∧ wr.heap[gs]? = some (.cells (arr32 s) 56 (0, 0)) ∧ Below W.heap.size W wr) := ⟨HI2.out.bd, HI2.out.bs, HI2.out.hb⟩
                  clear HI2 HR64
                  go_wp2
                  go_loopw [9, 64] (fun _ i wr => ∃ q : Nat, q ≤ 32 ∧ i = .int .i64 (q : Int) ∧ Aside0 (wr.heap[gd]? = some (.cells (arr (digTo s q)) 25 (0, 0)) ∧ wr.heap[gs]? = some (.cells (arr32 s) 56 (0, 0)) ∧ Below W.heap.size W wr)) (fun _ i _ => 32 - (intOf i).toNat)
                  case atStart => exact ⟨0, by omega, rfl, HI3⟩
                  case round =>
                    obtain ⟨q, hq, rfl, HI⟩ := hrel
                    clear HI3
                    by_cases hq32 : q < 32
                    · obtain ⟨x, ex⟩ : ∃ x, at_ s (q / 4) = x := ⟨_, rfl⟩
                      have cx : wr.cell? ⟨gs, q / 4, none⟩ = some (.int .u32 x) := by rw [← ex]; exact cell_of_32 HI.out.2.1 (q / 4) (by rw [HSS.out.1]; omega)
                      have hfz : wr.frozen? ⟨gd, q, none⟩ = false := blk_frozen HI.out.1 q
                      have cd : wr.cell? ⟨gd, q, none⟩ = some (.int .u8 (rd (digTo s q) (q : Int))) := (blk_cell HI.out.1 q).trans (arr_get _ q (by rw [digTo_len s q hq]; exact hq32))
                      have his : ∀ W, (Instr.indexAt 56 (.pointer (some ⟨gs, 0, none⟩)) (.int .i64 ((q : Int) / 4))).run Tryd.prog W = .ok (.pointer (some ⟨gs, q / 4, none⟩)) W := fun W => idx_arr Tryd.underlying56 (by kernel_rfl) (by kernel_rfl) gs (q / 4) (by omega) W
                      have hid := fun W => idx_dig gd q hq32 W
                      have EX := Aside0.mk ex
                      clear ex
                      go_wp2
                      refine ⟨⟨q + 1, by omega, by simp, ⟨?_, ?_, ?_⟩⟩, by simp [intOf]; omega⟩
                      · rw [← digTo_set s q hq32, EX.out]
                        refine blk_put HI.out.1 q _ ?_
                        simp [arr, List.map_set]
                      · exact (Below.heap_setCell _ ⟨gd, q, none⟩ _ gs (Ne.symm NE.out)).trans HI.out.2.1
                      · exact HI.out.2.2.setCell (p := ⟨gd, q, none⟩) GD.out _
                    · have hq2 : q = 32 := by omega
                      have BD : Aside0 (wr.heap[gd]? = some (.cells (arr (shaOf ps.flatten)) 25 (0, 0))) := ⟨by rw [HSO.out, ← digTo_end s, ← hq2]; exact HI.out.1⟩
                      have HB := Aside0.mk HI.out.2.2
                      clear HI hq2
                      go_wp2_with (
                        first
                        | ((with_reducible refine gate_dst (N := 80) rfl ?_); refine wpList_load_row rfl 25 (.tmp 2) rfl gd rfl 25 (arr (shaOf ps.flatten)) (0, 0) _ BD.out Tryd.underlying25 rfl (by rw [arr_size, sha_len]; exact info_dig) ?_)
                        | ((with_reducible refine gate_store (p := 2) rfl ?_); refine dig_store rfl (.tmp 2) (.tmp 80) rfl gd (shaOf ps.flatten) (shaOf ps.flatten) rfl rfl BD.out (sha_len _) (sha_len _) ?_; intro w5 bk hoth hbel; have BD5 := Aside0.mk bk; have HB5 := Aside0.mk (hbel _ _ HB.out GD.out); clear bk hoth hbel))
                      refine bodyPost_ret (results_c rfl _ _ gd 25 (arr (shaOf ps.flatten)) (0, 0) _ rfl BD5.out Tryd.underlying25 rfl (by rw [arr_size, sha_len]; exact info_dig)) rfl ?_
                      exact ⟨rfl, HB5.out⟩
end Go.Proofs.YtoaimcobcgomjaaDoor.Q
namespace Go.Proofs.YtoaimcobcgomjaaDoor.Q
open Go.RowKit Go.Proofs.YtoaimcobcgomjaaDoorW.PrintWords Go.Proofs.YtoaimcobcgomjaaDoorW.PrintLast Go.Proofs.YtoaimcobcgomjaaDoorW.PrintMore
set_option linter.unusedVariables false
set_option linter.unusedSimpArgs false
theorem dig_sha (m : List Int) : Dig (shaOf m) := ⟨sha_len m, sha_bound m⟩
theorem add_zero_i (g i : Nat) : (⟨g, 0, none⟩ : Addr).add i = ⟨g, i, none⟩ := add_zero_plain g i
theorem cell_of_obj {w : World} {g t : Nat} {cs : Array Value} {fr : Nat × Nat} (h : w.heap[g]? = some (.cells cs t fr)) (j : Nat) : w.cell? ⟨g, j, none⟩ = cs[j]? := by
  simp [World.cell?, h]
/-- Bytes in a block of their own are read. -/
theorem bytes_C {w : World} {g t : Nat} {bs : List Int} {fr : Nat × Nat} (h : w.heap[g]? = some (.cells (arr bs) t fr)) (hl : bs.length ≤ 9223372036854775807) : (Kd.int .u8).C w (some ⟨g, 0, none⟩) bs.length bs := by
  refine ⟨rfl, hl, fun _ => ⟨⟨g, 0, none⟩, rfl, fun j p hj => ⟨[.int .u8 p], rfl, rfl, fun i u hu => ?_⟩⟩⟩
  cases i with
  | succ i => simp at hu
  | zero =>
    obtain ⟨hjl, rfl⟩ := List.getElem?_eq_some_iff.1 hj
    simp only [List.getElem?_cons_zero, Option.some.injEq] at hu
    subst hu
    show w.cell? ((⟨g, 0, none⟩ : Addr).add (j * 1 + 0)) = _
    rw [add_zero_i, Nat.mul_one, Nat.add_zero, cell_of_obj h j, arr_get bs j hjl]
    simp [rd, hjl]
/-- Parts whose slices lie in a block of their own are read. -/
theorem parts_C {w : World} {g t : Nat} {cs : Array Value} {ps : List (List Int)} (h : w.heap[g]? = some (.cells cs t (0, 0))) (hl : ps.length ≤ 9223372036854775807)
    (hp : ∀ (j : Nat) (p : List Int), ps[j]? = some p → ∃ A c, cs[j]? = some (Value.slice A p.length c) ∧ p.length ≤ c ∧ (Kd.int .u8).C w A p.length p) : (Kd.slice 5 (Kd.int .u8)).C w (some ⟨g, 0, none⟩) ps.length ps := by
  refine ⟨rfl, hl, fun _ => ⟨⟨g, 0, none⟩, rfl, fun j p hj => ?_⟩⟩
  obtain ⟨A, c, hc, hle, hC⟩ := hp j p hj
  refine ⟨[.slice A p.length c], rfl, ⟨A, c, rfl, hle, hC⟩, fun i u hu => ?_⟩
  cases i with
  | succ i => simp at hu
  | zero =>
    simp only [List.getElem?_cons_zero, Option.some.injEq] at hu
    subst hu
    show w.cell? ((⟨g, 0, none⟩ : Addr).add (j * 1 + 0)) = _
    rw [add_zero_i, Nat.mul_one, Nat.add_zero, blk_cell h j, hc]
theorem none_C (w : World) : (Kd.slice 5 (Kd.int .u8)).C w none 0 [] := ⟨rfl, by omega, fun h => by omega⟩
theorem none_C1 (w : World) : (Kd.int .u8).C w none 0 [] := ⟨rfl, by omega, fun h => by omega⟩
/-- sha.Of of one part. -/
theorem of_one (g c : Nat) (A : Option Addr) (p : List Int) (n t cap : Nat) (W : World) (hn : p.length = n) (h : W.heap[g]? = some (.cells #[.slice A n c] t (0, 0))) (hle : n ≤ c) (hC : (Kd.int .u8).C W A n p) (hb : ∀ x ∈ p, 0 ≤ x ∧ x < 256) (hl : p.length < 1099511627776) (hk : KT W) :
    Calls Tryd.prog 13 #[.slice (some ⟨g, 0, none⟩) 1 cap] W fun e W' => e = .returned (.agg (arr (shaOf p))) ∧ Below W.heap.size W W' := by
  subst hn
  refine (of_walk (some ⟨g, 0, none⟩) 1 cap [p] W (parts_C h (by simp) fun j q hj => ?_) (by simpa using hb) (by simpa using hl) hk).mono fun e W' h => ⟨by rw [h.1]; simp, h.2⟩
  cases j with
  | zero =>
    obtain rfl : p = q := by simpa using hj
    exact ⟨A, c, rfl, hle, hC⟩
  | succ j => simp at hj
theorem blk_new1 (w : World) (o o' : Obj) : ((w.alloc o).alloc o').heap[w.heap.size + 1]? = some o' := by
  have h := blk_new (w.alloc o) o'
  rwa [World.size_alloc] at h
theorem below_new (w : World) (o : Obj) : Below w.heap.size w (w.alloc o) := below_alloc (Below.refl _ _) o
end Go.Proofs.YtoaimcobcgomjaaDoor.Q
namespace Go.Proofs.YtoaimcobcgomjaaDoor.Q
open Go.RowKit Go.Proofs.YtoaimcobcgomjaaDoorW.PrintWords Go.Proofs.YtoaimcobcgomjaaDoorW.PrintLast Go.Proofs.YtoaimcobcgomjaaDoorW.PrintMore
set_option linter.unusedVariables false
set_option linter.unusedSimpArgs false
theorem dig_load {o : Oper} {a : Act} {W : World} {x : Operand} {g : Nat} {ds : List Int} (ho : o.op = .load 25 x) (hx : a.eval x = .pointer (some ⟨g, 0, none⟩)) (hg : W.heap[g]? = some (.cells (arr ds) 25 (0, 0))) (hl : ds.length = 32) :
    (execOp a.eval o).run Tryd.prog W = .ok (.value (.agg (arr ds))) W := by
  unfold execOp
  simp only [ho, hx, Instr.loadAt, Instr.sureAddr, Sem.run_bind, Sem.run_pure, Result.andThen_ok, run_loadVar_row W g 25 25 (arr ds) (0, 0) _ hg Tryd.underlying25 rfl (by rw [arr_size, hl]; exact info_dig)]
theorem arr_cells (ds : List Int) (h : Dig ds) : arr ds = ((ds.map fun x => x.toNat.toUInt8).map Extern.Stop.cell).toArray := by
  unfold arr
  congr 1
  rw [List.map_map]
  apply List.map_congr_left
  intro x hx
  obtain ⟨h0, h1⟩ := h.2 x hx
  obtain ⟨n, rfl⟩ := Int.eq_ofNat_of_zero_le h0
  have hn : n < 256 := by omega
  simp [Function.comp, Extern.Stop.cell, Nat.mod_eq_of_lt hn]
set_option maxRecDepth 100000 in
theorem run_eql_dig (x y : List Int) (hx : Dig x) (hy : Dig y) (W : World) : (binOp .eql 25 (.agg (arr x)) (.agg (arr y))).run Tryd.prog W = .ok (.bool (decide (x = y))) W := by
  obtain ⟨i, hi, h1, h2, h3⟩ := info_parts info5
  rw [arr_cells x hx, arr_cells y hy, run_eql_bytes W 25 5 32 Tryd.underlying25 Tryd.underlying5 (fun w => by simp [sizeOf, typeInfo, hi, h2]) _ _ (by rw [List.length_map]; exact hx.1) (by rw [List.length_map]; exact hy.1)]
  congr 2
  rw [Bool.eq_iff_iff]
  simp only [beq_iff_eq, decide_eq_true_eq]
  constructor
  · intro h
    apply List.ext_getElem (by rw [hx.1, hy.1])
    intro j h1 h2
    have hj := congrArg (fun l => l[j]?) h
    simp only [List.getElem?_map, List.getElem?_eq_getElem h1, List.getElem?_eq_getElem h2, Option.map_some, Option.some.injEq] at hj
    have hxr := hx.2 _ (List.getElem_mem h1)
    have hyr := hy.2 _ (List.getElem_mem h2)
    have := congrArg UInt8.toNat hj
    simp at this
    omega
  · rintro rfl; rfl
theorem eqg_dig : Tryd.prog.eqGuardType Tryd.prog.depth 25 = false := by kernel_rfl
theorem dig_eql {o : Oper} {a : Act} {W : World} {x y : Operand} {ds : List Int} (ho : o.op = .binOp .eql 25 x y 25) (hx : a.eval x = .agg (arr ds)) (hy : a.eval y = .agg (arr ds)) (hd : Dig ds) :
    (execOp a.eval o).run Tryd.prog W = .ok (.value (.bool true)) W := by
  have := run_eql_dig ds ds hd hd W
  unfold execOp
  simp only [ho, hx, hy]
  have hm : Tryd.prog.eqGuardType Tryd.prog.depth 25 = false := by kernel_rfl
  have hg := run_eqGuard_agg W .eql 25 x y (arr ds) (arr ds) hm
  simp [this, hg, Sem.run_bind, Result.andThen]
end Go.Proofs.YtoaimcobcgomjaaDoor.Q
namespace Go.Proofs.YtoaimcobcgomjaaDoor.Q
open Go.RowKit Go.Proofs.YtoaimcobcgomjaaDoorW.PrintWords Go.Proofs.YtoaimcobcgomjaaDoorW.PrintLast Go.Proofs.YtoaimcobcgomjaaDoorW.PrintMore
set_option linter.unusedVariables false
set_option linter.unusedSimpArgs false
theorem convert_const1 (w : World) (o : Obj) (C : Array Value) (n c : Nat) : (convert 22 22 (.slice (some ⟨w.heap.size + 1, 0, none⟩) n c)).run Tryd.prog ((w.alloc o).alloc (.cells C 5)) = .ok (.slice (some ⟨w.heap.size + 1, 0, none⟩) n c) ((w.alloc o).alloc (.cells C 5 (C.size, C.size + 1))) := by
  have h := Lib.run_convert_bytes_const (P := Tryd.prog) (w.alloc o) 22 5 C n c Tryd.underlying22 Tryd.underlying5
  rwa [World.size_alloc] at h
theorem blk_new2 (w : World) (o o' o'' : Obj) : (((w.alloc o).alloc o').alloc o'').heap[w.heap.size + 2]? = some o'' := by
  have h := blk_new1 (w.alloc o) o' o''
  rwa [World.size_alloc] at h
end Go.Proofs.YtoaimcobcgomjaaDoor.Q
namespace Go.Proofs.YtoaimcobcgomjaaDoor.Q
open Go.RowKit Go.Proofs.YtoaimcobcgomjaaDoorW.PrintWords Go.Proofs.YtoaimcobcgomjaaDoorW.PrintLast Go.Proofs.YtoaimcobcgomjaaDoorW.PrintMore
set_option linter.unusedVariables false
set_option linter.unusedSimpArgs false
/-- An argument of bytes: its slice reads as a list of bytes. -/
structure Bts (W : World) (A : Option Addr) (n c : Nat) (l : List Int) : Prop where
  rd_ : (Kd.int .u8).C W A n l
  le : n ≤ c
  by_ : ∀ x ∈ l, 0 ≤ x ∧ x < 256
theorem Bts.len {W : World} {A : Option Addr} {n c : Nat} {l : List Int} (h : Bts W A n c l) : l.length = n := h.rd_.1
theorem Bts.below {W w : World} {A : Option Addr} {n c : Nat} {l : List Int} (h : Bts W A n c l) (hb : Below W.heap.size W w) : Bts w A n c l := ⟨Kd.C_below h.rd_ hb, h.le, h.by_⟩
theorem Bts.none (W : World) : Bts W none 0 0 [] := ⟨none_C1 W, Nat.le_refl _, by simp⟩
theorem Q_form' {w : World} {base : Nat} {ok : Nat → Prop} {v : Value} {l : List Int} (h : (Kd.int .u8).Q 5 w base ok v l) : ∃ A n c, v = .slice A n c ∧ n = l.length := by
  obtain ⟨A, c, rfl, _⟩ := Kd.Q_slice h
  exact ⟨A, _, c, rfl, rfl⟩
theorem Q_bts {w : World} {base : Nat} {ok : Nat → Prop} {A : Option Addr} {n c : Nat} {l : List Int} (h : (Kd.int .u8).Q 5 w base ok (.slice A n c) l) (hb : ∀ x ∈ l, 0 ≤ x ∧ x < 256) : Bts w A n c l := by
  obtain ⟨h1, h2, h3⟩ := Kd.Q_reads' h
  exact ⟨h1 ▸ h3, h2, hb⟩
theorem of_1 (g c : Nat) (A : Option Addr) (p : List Int) (n t cap : Nat) (W : World) (h : W.heap[g]? = some (.cells #[.slice A n c] t (0, 0))) (b : Bts W A n c p) (hl : p.length < 1099511627776) (hk : KT W) :
    Calls Tryd.prog 13 #[.slice (some ⟨g, 0, none⟩) 1 cap] W fun e W' => e = .returned (.agg (arr (shaOf p))) ∧ Below W.heap.size W W' :=
  of_one g c A p n t cap W b.len h b.le b.rd_ b.by_ hl hk
theorem Bts.alloc {W : World} {A : Option Addr} {n c : Nat} {l : List Int} (h : Bts W A n c l) (o : Obj) : Bts (W.alloc o) A n c l := h.below (below_new W o)
section
variable {ops : Array Oper} {rest : List Oper} {o : Oper} {a : Act} {Q' : Exit → Act → World → Prop} {Kc : Act → World → Prop}
end
end Go.Proofs.YtoaimcobcgomjaaDoor.Q
namespace Go.Proofs.YtoaimcobcgomjaaDoor.Q
open Go.RowKit Go.Proofs.YtoaimcobcgomjaaDoorW.PrintWords Go.Proofs.YtoaimcobcgomjaaDoorW.PrintLast Go.Proofs.YtoaimcobcgomjaaDoorW.PrintMore
set_option linter.unusedVariables false
set_option linter.unusedSimpArgs false
/-- What holds at the head of Sum's loop over the blocks: x lies in the state's block, s is the state that M has come to. -/
structure SumInv (g2 g3 g5 gp op mp cp : Nat) (W : World) (M x s r : List Int) (w : World) : Prop where
  b2 : w.heap[g2]? = some (.cells (arr (List.replicate 32 0)) 25 (0, 0))
  b3 : w.heap[g3]? = some (.cells (arr32 x) 55 (0, 0))
  b5 : w.heap[g5]? = some (.cells (arr32 K64) 59 (0, 0))
  q : (Kd.int .u8).Q 5 w W.heap.size (fun _ => True) (.slice (some ⟨gp, op, none⟩) mp cp) M
  hb : Below W.heap.size W w
  eats : Eats init8 M s r
  h2 : W.heap.size ≤ g2
  h3 : W.heap.size ≤ g3
  n23 : g2 ≠ g3
  n53 : g5 ≠ g3
section
variable {g2 g3 g5 gp op mp cp : Nat} {W w w1 : World} {M x s r : List Int}
theorem SumInv.below (h : SumInv g2 g3 g5 gp op mp cp W M x s r w) (hb : Below w.heap.size w w1) : SumInv g2 g3 g5 gp op mp cp W M x s r w1 :=
  ⟨blk_below h.b2 hb, blk_below h.b3 hb, blk_below h.b5 hb, Kd.Q_below h.q hb, below_step h.hb hb, h.eats, h.h2, h.h3, h.n23, h.n53⟩
theorem SumInv.drew (h : SumInv g2 g3 g5 gp op mp cp W M x s r w) : SumInv g2 g3 g5 gp op mp cp W M x s r w.drew :=
  ⟨blk_drew h.b2, blk_drew h.b3, blk_drew h.b5, Kd.Q_drew h.q, below_drew h.hb, h.eats, h.h2, h.h3, h.n23, h.n53⟩
/-- A word of the state written. -/
theorem SumInv.put {t : Nat} {y : Int} (h : SumInv g2 g3 g5 gp op mp cp W M x s r w) : SumInv g2 g3 g5 gp op mp cp W M (x.set t y) s r (w.setCell ⟨g3, t, none⟩ (.int .u32 y)) :=
  ⟨(Below.heap_setCell _ ⟨g3, t, none⟩ _ g2 h.n23).trans h.b2, blk_put h.b3 t _ (arr32_set _ _ _), (Below.heap_setCell _ ⟨g3, t, none⟩ _ g5 h.n53).trans h.b5, Kd.Q_set h.q h.b3 (by decide) t _, h.hb.setCell (p := ⟨g3, t, none⟩) h.h3 _, h.eats, h.h2, h.h3, h.n23, h.n53⟩
end
end Go.Proofs.YtoaimcobcgomjaaDoor.Q
