/-
  Headers, events and items: '==' in plain Lean.
-/
import Derived.Test.YtkkkjidbakmjdaaDoorTapCells
namespace Go.Proofs.YtkkkjidbakmjdaaDoor.Q
open Go.RowKit Go.Proofs.YtkkkjidbakmjdaaDoorW.PrintWords Go.Proofs.YtkkkjidbakmjdaaDoorW.PrintLast Go.Proofs.YtkkkjidbakmjdaaDoorW.PrintMore
set_option linter.unusedVariables false
set_option linter.unusedSimpArgs false
set_option maxRecDepth 100000

theorem hcl_many {x : Hdr} (hx : x.wf) : (hcl x)[97]? = some (.int .i64 x.m) := by
  have h1 := (u8s_len x.p).trans hx.1.1
  have h2 := (u8s_len x.s).trans hx.2.1.1
  have h3 := (u8s_len x.r).trans hx.2.2.1
  rw [hcl, show (97 : Nat) = 96 + 1 from rfl, List.getElem?_cons_succ, List.getElem?_append_right (by omega), h1, List.getElem?_append_right (by omega), h2, List.getElem?_append_right (by omega), h3]
  rfl
theorem part_p {x : Hdr} (hx : x.wf) (W : World) : (part 26 (ha x) 1).run Tryd.prog W = .ok (.agg (u8s x.p).toArray) W := part_agg (a := [Value.int .i64 x.h]) (b := u8s x.p) (c := u8s x.s ++ (u8s x.r ++ [Value.int .i64 x.m])) (k := 1) (n := 32) Tryd.underlying26 rfl (by kernel_rfl) rfl ((u8s_len x.p).trans hx.1.1) W
theorem part_s {x : Hdr} (hx : x.wf) (W : World) : (part 26 (ha x) 33).run Tryd.prog W = .ok (.agg (u8s x.s).toArray) W := by
  have e : ha x = ((Value.int .i64 x.h :: u8s x.p) ++ (u8s x.s ++ (u8s x.r ++ [Value.int .i64 x.m]))).toArray := by simp [ha, hcl]
  rw [e]
  exact part_agg (k := 33) (n := 32) Tryd.underlying26 rfl (by kernel_rfl) (by rw [List.length_cons, u8s_len, hx.1.1]) ((u8s_len x.s).trans hx.2.1.1) W
theorem part_r {x : Hdr} (hx : x.wf) (W : World) : (part 26 (ha x) 65).run Tryd.prog W = .ok (.agg (u8s x.r).toArray) W := by
  have e : ha x = ((Value.int .i64 x.h :: (u8s x.p ++ u8s x.s)) ++ (u8s x.r ++ [Value.int .i64 x.m])).toArray := by simp [ha, hcl]
  rw [e]
  exact part_agg (k := 65) (n := 32) Tryd.underlying26 rfl (by kernel_rfl) (by rw [List.length_cons, List.length_append, u8s_len, u8s_len, hx.1.1, hx.2.1.1]) ((u8s_len x.r).trans hx.2.2.1) W
theorem eqi_int (d : Nat) (a b : Int) (W : World) : (Op.equalIn (d + 1) 3 (.int .i64 a) (.int .i64 b)).run Tryd.prog W = .ok (decide (a = b)) W := by
  rw [run_equalIn_int W d 3 .i64 .i64 a b Tryd.underlying3]
  rfl
theorem eqi_bool (d : Nat) (a b : Bool) (W : World) : (Op.equalIn (d + 1) 4 (.bool a) (.bool b)).run Tryd.prog W = .ok (decide (a = b)) W := by
  rw [run_equalIn_bool' W d 4 a b Tryd.underlying4]
  refine congrArg (fun b => Result.ok b W) ?_
  cases a <;> cases b <;> rfl
theorem eqi_hdr (d : Nat) (x y : Hdr) (hx : x.wf) (hy : y.wf) (W : World) : (Op.equalIn (d + 4) 28 (.agg (ha x)) (.agg (ha y))).run Tryd.prog W = .ok (decide (x = y)) W := by
  have p0 : ∀ z : Hdr, (part 3 (ha z) 0).run Tryd.prog W = .ok (.int .i64 z.h) W := fun z => part_one (l := hcl z) Tryd.underlying3 rfl rfl W
  have p97 : ∀ z : Hdr, z.wf → (part 3 (ha z) 97).run Tryd.prog W = .ok (.int .i64 z.m) W := fun z hz => part_one (l := hcl z) Tryd.underlying3 rfl (hcl_many hz) W
  have h := eqA_of (P := Tryd.prog) (d := d + 3) (xs := ha x) (ys := ha y) (w := W) Tryd.underlying28 (by kernel_rfl)
    (eqf_cons rfl (p0 x) (p0 y) (eqi_int _ _ _ W) (eqf_cons rfl (part_p hx W) (part_p hy W) (eqi_dig _ _ _ hx.1 hy.1 W) (eqf_cons rfl (part_s hx W) (part_s hy W) (eqi_dig _ _ _ hx.2.1 hy.2.1 W) (eqf_cons rfl (part_r hx W) (part_r hy W) (eqi_dig _ _ _ hx.2.2 hy.2.2 W) (eqf_last rfl (p97 x hx) (p97 y hy) (eqi_int _ _ _ W))))))
  rw [h]
  refine congrArg (fun b => Result.ok b W) ?_
  cases x
  cases y
  rw [Bool.eq_iff_iff]
  simp only [Bool.and_eq_true, decide_eq_true_eq, Evt.mk.injEq, Hdr.mk.injEq, Itm.mk.injEq]
theorem part_hd {x : Evt} (hx : x.hd.wf) (W : World) : (part 28 (ea x) 2).run Tryd.prog W = .ok (.agg (ha x.hd)) W := by
  have e : ea x = ([Value.int .i64 x.n, Value.bool x.roll] ++ (hcl x.hd ++ [])).toArray := by simp [ea, ecl]
  rw [e]
  exact part_agg (k := 2) (n := 98) Tryd.underlying28 rfl size_hdr rfl (hcl_len hx) W
theorem eqi_evt (d : Nat) (x y : Evt) (hx : x.hd.wf) (hy : y.hd.wf) (W : World) : (Op.equalIn (d + 5) 30 (.agg (ea x)) (.agg (ea y))).run Tryd.prog W = .ok (decide (x = y)) W := by
  have p0 : ∀ z : Evt, (part 3 (ea z) 0).run Tryd.prog W = .ok (.int .i64 z.n) W := fun z => part_one (l := ecl z) Tryd.underlying3 rfl rfl W
  have p1 : ∀ z : Evt, (part 4 (ea z) 1).run Tryd.prog W = .ok (.bool z.roll) W := fun z => part_one (l := ecl z) Tryd.underlying4 rfl rfl W
  have h := eqA_of (P := Tryd.prog) (d := d + 4) (xs := ea x) (ys := ea y) (w := W) Tryd.underlying30 (by kernel_rfl)
    (eqf_cons rfl (p0 x) (p0 y) (eqi_int _ _ _ W) (eqf_cons rfl (p1 x) (p1 y) (eqi_bool _ _ _ W) (eqf_last rfl (part_hd hx W) (part_hd hy W) (eqi_hdr _ _ _ hx hy W))))
  rw [h]
  refine congrArg (fun b => Result.ok b W) ?_
  cases x
  cases y
  rw [Bool.eq_iff_iff]
  simp only [Bool.and_eq_true, decide_eq_true_eq, Evt.mk.injEq, Hdr.mk.injEq, Itm.mk.injEq]
theorem part_ev {x : Itm} (hx : x.ev.hd.wf) (W : World) : (part 30 (ia x) 1).run Tryd.prog W = .ok (.agg (ea x.ev)) W := by
  have e : ia x = ([Value.bool x.gap] ++ (ecl x.ev ++ [])).toArray := by simp [ia, icl]
  rw [e]
  exact part_agg (k := 1) (n := 100) Tryd.underlying30 rfl size_evt rfl (ecl_len hx) W
theorem eqi_itm (d : Nat) (x y : Itm) (hx : x.ev.hd.wf) (hy : y.ev.hd.wf) (W : World) : (Op.equalIn (d + 6) 32 (.agg (ia x)) (.agg (ia y))).run Tryd.prog W = .ok (decide (x = y)) W := by
  have p0 : ∀ z : Itm, (part 4 (ia z) 0).run Tryd.prog W = .ok (.bool z.gap) W := fun z => part_one (l := icl z) Tryd.underlying4 rfl rfl W
  have h := eqA_of (P := Tryd.prog) (d := d + 5) (xs := ia x) (ys := ia y) (w := W) Tryd.underlying32 (by kernel_rfl)
    (eqf_cons rfl (p0 x) (p0 y) (eqi_bool _ _ _ W) (eqf_last rfl (part_ev hx W) (part_ev hy W) (eqi_evt _ _ _ hx hy W)))
  rw [h]
  refine congrArg (fun b => Result.ok b W) ?_
  cases x
  cases y
  rw [Bool.eq_iff_iff]
  simp only [Bool.and_eq_true, decide_eq_true_eq, Evt.mk.injEq, Hdr.mk.injEq, Itm.mk.injEq]
theorem run_eql_itm (x y : Itm) (hx : x.ev.hd.wf) (hy : y.ev.hd.wf) (W : World) : (binOp .eql 32 (.agg (ia x)) (.agg (ia y))).run Tryd.prog W = .ok (.bool (decide (x = y))) W := by
  rw [run_eql_struct, eqi_itm 9994 x y hx hy W]; rfl
theorem run_neq_itm (x y : Itm) (hx : x.ev.hd.wf) (hy : y.ev.hd.wf) (W : World) : (binOp .neq 32 (.agg (ia x)) (.agg (ia y))).run Tryd.prog W = .ok (.bool (!decide (x = y))) W := by
  rw [run_neq_struct, eqi_itm 9994 x y hx hy W]; rfl
theorem run_eql_evt (x y : Evt) (hx : x.hd.wf) (hy : y.hd.wf) (W : World) : (binOp .eql 30 (.agg (ea x)) (.agg (ea y))).run Tryd.prog W = .ok (.bool (decide (x = y))) W := by
  rw [run_eql_struct, eqi_evt 9995 x y hx hy W]; rfl
theorem run_neq_evt (x y : Evt) (hx : x.hd.wf) (hy : y.hd.wf) (W : World) : (binOp .neq 30 (.agg (ea x)) (.agg (ea y))).run Tryd.prog W = .ok (.bool (!decide (x = y))) W := by
  rw [run_neq_struct, eqi_evt 9995 x y hx hy W]; rfl
theorem eqg_itm : Tryd.prog.eqGuardType Tryd.prog.depth 32 = false := by kernel_rfl
theorem eqg_evt : Tryd.prog.eqGuardType Tryd.prog.depth 30 = false := by kernel_rfl
theorem wl_pure {ops : Array Oper} {rest : List Oper} {o : Oper} {a : Act} {w : World} {Q : Exit → Act → World → Prop} (hgd : o.guard = none) {v : Value} (hr : (execOp a.eval o).run Tryd.prog w = .ok (.value v) w)
    (h : wpList Tryd.prog ops Q rest (a.put o.dst v) w) : wpList Tryd.prog ops Q (o :: rest) a w := by
  refine wpList_plain hgd fun K hK => ?_
  unfold Oper.wp
  rw [hr]
  exact hK _ _ h
theorem op_neq_itm {o : Oper} {a : Act} {W : World} {p q : Operand} {x y : Itm} {b : Bool} (ho : o.op = .binOp .neq 32 p q 32) (hp : a.eval p = .agg (ia x)) (hq : a.eval q = .agg (ia y)) (hx : x.ev.hd.wf) (hy : y.ev.hd.wf) (hb : decide (x = y) = b) :
    (execOp a.eval o).run Tryd.prog W = .ok (.value (.bool (!b))) W := by
  have := run_neq_itm x y hx hy W
  rw [hb] at this
  unfold execOp
  simp only [ho, hp, hq]
  have hg := run_eqGuard_agg W .neq 32 p q (ia x) (ia y) eqg_itm
  simp only [Sem.run_bind, hg, this, Result.andThen_ok, Sem.run_pure]
theorem op_eql_itm {o : Oper} {a : Act} {W : World} {p q : Operand} {x y : Itm} {b : Bool} (ho : o.op = .binOp .eql 32 p q 32) (hp : a.eval p = .agg (ia x)) (hq : a.eval q = .agg (ia y)) (hx : x.ev.hd.wf) (hy : y.ev.hd.wf) (hb : decide (x = y) = b) :
    (execOp a.eval o).run Tryd.prog W = .ok (.value (.bool b)) W := by
  have := run_eql_itm x y hx hy W
  rw [hb] at this
  unfold execOp
  simp only [ho, hp, hq]
  have hg := run_eqGuard_agg W .eql 32 p q (ia x) (ia y) eqg_itm
  simp only [Sem.run_bind, hg, this, Result.andThen_ok, Sem.run_pure]
end Go.Proofs.YtkkkjidbakmjdaaDoor.Q
