/-
  ShaParts answers true: parts are cut anywhere: three of them have the digest of one. This text: the law's walk (written by wip/tools/gen_parts.py).
-/
import Derived.Test.YtoaimcobcgomjaaDoorShaNamesWalk
namespace Go.Proofs.YtoaimcobcgomjaaDoor.Q
open Go.RowKit Go.Proofs.YtoaimcobcgomjaaDoorW.PrintWords Go.Proofs.YtoaimcobcgomjaaDoorW.PrintLast Go.Proofs.YtoaimcobcgomjaaDoorW.PrintMore
set_option linter.unusedVariables false
set_option linter.unusedSimpArgs false

/-- An argument of bytes: its slice reads as a list of bytes. -/
structure Bts (W : World) (A : Option Addr) (n c : Nat) (l : List Int) : Prop where
  rd_ : (Kd.int .u8).C W A n l
  le : n ≤ c
  by_ : ∀ x ∈ l, 0 ≤ x ∧ x < 256
theorem Bts.len {W : World} {A : Option Addr} {n c : Nat} {l : List Int} (h : Bts W A n c l) : l.length = n := h.rd_.1
theorem Bts.below {W w : World} {A : Option Addr} {n c : Nat} {l : List Int} (h : Bts W A n c l) (hb : Below W.heap.size W w) : Bts w A n c l := ⟨Kd.C_below h.rd_ hb, h.le, h.by_⟩
theorem Bts.none (W : World) : Bts W none 0 0 [] := ⟨none_C1 W, Nat.le_refl _, by simp⟩
/-- A new, empty row. -/
theorem Q_empty {w : World} {base g : Nat} {cur : Array Value} (h : w.heap[g]? = some (.cells cur 5 (0, 0))) (hb : base ≤ g) : (Kd.int .u8).Q 5 w base (fun _ => True) (.slice (some ⟨g, 0, none⟩) 0 0) [] :=
  ⟨fun _ _ => trivial, [], ⟨rfl, .inl ⟨rfl, some ⟨g, 0, none⟩, rfl, fun a ha => by cases ha; exact ⟨hb, cur, h⟩⟩⟩, ⟨rfl, fun j p hj => by simp at hj⟩⟩
theorem Q_form' {w : World} {base : Nat} {ok : Nat → Prop} {v : Value} {l : List Int} (h : (Kd.int .u8).Q 5 w base ok v l) : ∃ A n c, v = .slice A n c ∧ n = l.length := by
  obtain ⟨A, c, rfl, _⟩ := Kd.Q_slice h
  exact ⟨A, _, c, rfl, rfl⟩
theorem Q_bts {w : World} {base : Nat} {ok : Nat → Prop} {A : Option Addr} {n c : Nat} {l : List Int} (h : (Kd.int .u8).Q 5 w base ok (.slice A n c) l) (hb : ∀ x ∈ l, 0 ≤ x ∧ x < 256) : Bts w A n c l := by
  obtain ⟨h1, h2, h3⟩ := Kd.Q_reads' h
  exact ⟨h1 ▸ h3, h2, hb⟩
/-- sha.Of of three parts. -/
theorem of_three (g c1 c2 c3 : Nat) (A1 A2 A3 : Option Addr) (p1 p2 p3 mm : List Int) (hm : p1 ++ p2 ++ p3 = mm) (n1 n2 n3 t cap : Nat) (W : World) (h : W.heap[g]? = some (.cells #[.slice A1 n1 c1, .slice A2 n2 c2, .slice A3 n3 c3] t (0, 0)))
    (b1 : Bts W A1 n1 c1 p1) (b2 : Bts W A2 n2 c2 p2) (b3 : Bts W A3 n3 c3 p3) (hl : p1.length + p2.length + p3.length < 1099511627776) (hk : KT W) :
    Calls Tryd.prog 13 #[.slice (some ⟨g, 0, none⟩) 3 cap] W fun e W' => e = .returned (.agg (arr (shaOf mm))) ∧ Below W.heap.size W W' := by
  subst hm
  have e1 := b1.len
  have e2 := b2.len
  have e3 := b3.len
  subst e1 e2 e3
  refine (of_walk (some ⟨g, 0, none⟩) 3 cap [p1, p2, p3] W (parts_C h (by simp) fun j q hj => ?_) (by simpa using ⟨b1.by_, b2.by_, b3.by_⟩) (by simp; omega) hk).mono fun e W' h => ⟨by rw [h.1]; simp, h.2⟩
  match j, hj with
  | 0, hj => exact ⟨A1, c1, by simp at hj; subst hj; rfl, by simp at hj; subst hj; exact b1.le, by simp at hj; subst hj; exact b1.rd_⟩
  | 1, hj => exact ⟨A2, c2, by simp at hj; subst hj; rfl, by simp at hj; subst hj; exact b2.le, by simp at hj; subst hj; exact b2.rd_⟩
  | 2, hj => exact ⟨A3, c3, by simp at hj; subst hj; rfl, by simp at hj; subst hj; exact b3.le, by simp at hj; subst hj; exact b3.rd_⟩
  | j + 3, hj => simp at hj
theorem of_2 (g c1 c2 : Nat) (A1 A2 : Option Addr) (p1 p2 mm : List Int) (hm : p1 ++ p2 = mm) (n1 n2 t cap : Nat) (W : World) (h : W.heap[g]? = some (.cells #[.slice A1 n1 c1, .slice A2 n2 c2] t (0, 0)))
    (b1 : Bts W A1 n1 c1 p1) (b2 : Bts W A2 n2 c2 p2) (hl : p1.length + p2.length < 1099511627776) (hk : KT W) :
    Calls Tryd.prog 13 #[.slice (some ⟨g, 0, none⟩) 2 cap] W fun e W' => e = .returned (.agg (arr (shaOf mm))) ∧ Below W.heap.size W W' := by
  subst hm
  exact of_two g c1 c2 A1 A2 p1 p2 n1 n2 t cap W b1.len b2.len h b1.le b2.le b1.rd_ b2.rd_ b1.by_ b2.by_ hl hk
theorem of_1 (g c : Nat) (A : Option Addr) (p : List Int) (n t cap : Nat) (W : World) (h : W.heap[g]? = some (.cells #[.slice A n c] t (0, 0))) (b : Bts W A n c p) (hl : p.length < 1099511627776) (hk : KT W) :
    Calls Tryd.prog 13 #[.slice (some ⟨g, 0, none⟩) 1 cap] W fun e W' => e = .returned (.agg (arr (shaOf p))) ∧ Below W.heap.size W W' :=
  of_one g c A p n t cap W b.len h b.le b.rd_ b.by_ hl hk
theorem Bts.alloc {W : World} {A : Option Addr} {n c : Nat} {l : List Int} (h : Bts W A n c l) (o : Obj) : Bts (W.alloc o) A n c l := h.below (below_new W o)
section
variable {ops : Array Oper} {rest : List Oper} {o : Oper} {a : Act} {Q' : Exit → Act → World → Prop} {Kc : Act → World → Prop}
/-- append(v, l...) of bytes. -/
theorem Q_app {w0 W : World} (base : Nat) (hgd : o.guard = none) (s x : Operand) (ho : o.op = .call { callee := .builtin .append, args := #[s, x], argTypes := #[22, 22] }) (v : Value) (xs l : List Int) (A : Option Addr) (n c : Nat) (hs : a.eval s = v) (hx : a.eval x = .slice A n c)
    (HO : (Kd.int .u8).Q 5 W base (fun _ => True) v xs) (b : Bts W A n c l) (HB : Below base w0 W) (hbase : base ≤ W.heap.size) (hl : xs.length + n ≤ 140737488355328) (h : (∀ v1 w1, (Kd.int .u8).Q 5 w1 base (fun _ => True) v1 (xs ++ l) → Below base w0 w1 → W.grownBy w1 v.ownBlock → wpList Tryd.prog ops Q' rest (a.put o.dst v1) w1)) : wpList Tryd.prog ops Q' (o :: rest) a W :=
  Q_append_rows (Kd.int .u8) (w0 := w0) base hgd s x 22 5 (.int .u8 0) 1 ho Tryd.underlying22 info5 rfl (by decide) (by decide) v xs l A n c (fun _ => True) (fun _ => False) hs hx HO b.rd_ (fun _ _ h => h) (fun _ hk => hk.elim) (fun _ _ => trivial) HB hbase (by omega) (fun v1 w1 h1 h2 h3 _ => h v1 w1 h1 h2 h3)
theorem Q_app_step {w0 W : World} (base : Nat) (hw : Region.wanted o (yielded ops a.tmps) = true) (s x : Operand) (ho : o.op = .call { callee := .builtin .append, args := #[s, x], argTypes := #[22, 22] }) (v : Value) (xs l : List Int) (A : Option Addr) (n c : Nat) (hs : a.eval s = v) (hx : a.eval x = .slice A n c)
    (HO : (Kd.int .u8).Q 5 W base (fun _ => True) v xs) (b : Bts W A n c l) (HB : Below base w0 W) (hbase : base ≤ W.heap.size) (hl : xs.length + n ≤ 140737488355328) (h : (∀ v1 w1, (Kd.int .u8).Q 5 w1 base (fun _ => True) v1 (xs ++ l) → Below base w0 w1 → W.grownBy w1 v.ownBlock → Kc (a.put o.dst v1) w1)) : if Region.wanted o (yielded ops a.tmps) = true then Oper.wp Tryd.prog o a W Kc Q' else Kc (a.put o.dst undef) W :=
  Q_append_rows_step (Kd.int .u8) (w0 := w0) base hw s x 22 5 (.int .u8 0) 1 ho Tryd.underlying22 info5 rfl (by decide) (by decide) v xs l A n c (fun _ => True) (fun _ => False) hs hx HO b.rd_ (fun _ _ h => h) (fun _ hk => hk.elim) (fun _ _ => trivial) HB hbase (by omega) (fun v1 w1 h1 h2 h3 _ => h v1 w1 h1 h2 h3)
end

set_option maxHeartbeats 4000000 in
set_option maxRecDepth 100000 in
theorem parts_long (A1 A2 A3 : Option Addr) (n1 n2 n3 c1 c2 c3 : Nat) (d : 300 < (n1 : Int) ∨ 300 < (n2 : Int) ∨ 300 < (n3 : Int)) (w : World) (hk : KT w) :
    Calls Tryd.prog 6 #[.slice A1 n1 c1, .slice A2 n2 c2, .slice A3 n3 c3] w fun e w' => e = .returned (.bool true) ∧ Below w.heap.size w w' := by
  have HK := Aside0.mk hk
  have HB := Aside0.mk (Below.refl w.heap.size w)
  clear hk
  by_cases h1 : 300 < (n1 : Int)
  rotate_left
  by_cases h2 : 300 < (n2 : Int)
  rotate_left
  have h3 : 300 < (n3 : Int) := by omega
  all_goals
    clear d
    go_enter Tryd.func6, Tryd.ntmps6
    go_wp2_with (
      first
      | (go_at_call 26; (with_reducible refine (alive_walk _ HK.out).mono ?_); rintro e w2 ⟨rfl, hb⟩; have HB1 := Aside0.mk (below_step HB.out hb); clear HB; have HB := HB1; clear HB1 hb))
    go_ret
    exact ⟨rfl, HB.out⟩
def parts_T : Bool × List (List Nat × List Nat) := (true, [([], []), ([0], [0]), ([1], [1]), ([1], [1]), ([1], [1]), ([2, 3, 4, 1], [1, 2, 3, 4]), ([5, 1, 1], [1, 5]), ([1], [1]), ([6, 7, 1], [1, 6, 7]), ([1, 8], [1, 8]), ([9, 6], [9]), ([10], [10]), ([10], [10]), ([10], [10]), ([12, 13, 10, 10], [10, 12, 13]), ([10], [10]), ([14, 15, 14, 10], [10, 14, 15]), ([11, 16, 10], [10, 11, 16]), ([17, 16, 10], [10, 17]), ([10], [10]), ([18, 19, 10], [10, 18, 19]), ([10, 20], [10, 20]), ([21, 18], [21]), ([22], [22]), ([23, 22], [22, 23]), ([24, 22, 22], [22, 24]), ([22], [22]), ([25, 26, 22], [22, 25, 26]), ([22, 27], [22, 27]), ([28, 25, 0, 1, 2, 3, 4, 5, 6, 7, 8, 9, 10, 11, 12, 13, 14, 15, 16, 17, 18, 19, 20, 21, 22, 23, 24, 25, 26, 27, 28], [28])])
def parts_B : List Nat := [0, 1, 3, 3, 3, 31, 63, 3, 255, 511, 1023, 2047, 2047, 2047, 14335, 2047, 63487, 131071, 262143, 2047, 1048575, 2097151, 4194303, 8388607, 16777215, 33554431, 8388607, 134217727, 268435455, 536870911]
theorem parts_tab : rtab .any (opsOf Tryd.f6 6) = parts_T := by kernel_rfl
theorem parts_bits : waitsOk parts_T.2 parts_B = true := by kernel_rfl
set_option maxHeartbeats 4000000 in
set_option maxRecDepth 100000 in
theorem parts_main (A1 A2 A3 : Option Addr) (n1 n2 n3 c1 c2 c3 : Nat) (l1 l2 l3 : List Int) (w : World) (b1 : Bts w A1 n1 c1 l1) (b2 : Bts w A2 n2 c2 l2) (b3 : Bts w A3 n3 c3 l3) (d1 : (n1 : Int) ≤ 300) (d2 : (n2 : Int) ≤ 300) (d3 : (n3 : Int) ≤ 300) (hk : KT w) :
    Calls Tryd.prog 6 #[.slice A1 n1 c1, .slice A2 n2 c2, .slice A3 n3 c3] w fun e w' => e = .returned (.bool true) ∧ Below w.heap.size w w' := by
  have HK := Aside0.mk hk
  have HB := Aside0.mk (Below.refl w.heap.size w)
  have L1 : Aside0 (l1.length ≤ 300 ∧ l1.length = n1) := ⟨by rw [b1.len]; omega, b1.len⟩
  have L2 : Aside0 (l2.length ≤ 300 ∧ l2.length = n2) := ⟨by rw [b2.len]; omega, b2.len⟩
  have L3 : Aside0 (l3.length ≤ 300 ∧ l3.length = n3) := ⟨by rw [b3.len]; omega, b3.len⟩
  have C1 := Aside0.mk b1
  have C2 := Aside0.mk b2
  have C3 := Aside0.mk b3
  obtain ⟨mm, hmm⟩ : ∃ mm, l1 ++ l2 ++ l3 = mm := ⟨_, rfl⟩
  have HMM := Aside0.mk hmm
  have HMB : Aside0 (∀ x ∈ mm, 0 ≤ x ∧ x < 256) := ⟨by rw [← hmm]; intro x hx; simp only [List.mem_append] at hx; exact hx.elim (fun h => h.elim (b1.by_ x) (b2.by_ x)) (b3.by_ x)⟩
  have HML : Aside0 (mm.length < 1000) := ⟨by rw [← hmm]; have := L1.out; have := L2.out; have := L3.out; simp only [List.length_append]; omega⟩
  clear hk b1 b2 b3 hmm
  go_enter Tryd.func6, Tryd.ntmps6
  go_wp2_with (
    first
    | (go_at_call 26; (with_reducible refine (alive_walk _ HK.out).mono ?_); rintro e w2 ⟨rfl, hb⟩; have HB1 := Aside0.mk (below_step HB.out hb); clear HB ; have HB := HB1; clear HB1 ; clear hb)
    | ((with_reducible refine gate_builtin (b := .append) (xs := #[.tmp 29, .tmp 30]) rfl ?_); at_builtin;
       refine Q_app (w0 := w) w.heap.size rfl (.tmp 29) (.tmp 30) rfl _ ([] : List Int) l1 A1 n1 c1 rfl rfl (Q_empty (blk_new _ _) (below_size HB.out)) (C1.out.below (below_alloc HB.out _)) (below_alloc HB.out _) (Nat.le_trans (below_size HB.out) (by simp)) ?hl ?_;
       (case hl => have := L1.out; have := L2.out; have := L3.out; simp only [List.length_append, List.length_nil]; omega);
       intro v1 w1 hq hb hg; obtain ⟨A0, m0, c0, rfl, hle⟩ := Q_form' hq; have HQ1 := Aside0.mk hq; have HB1 := Aside0.mk hb; clear HB hq hb hg hle; have HB := HB1; clear HB1)
    | ((with_reducible refine gate_builtin (b := .append) (xs := #[.tmp 31, .tmp 32]) rfl ?_); at_builtin;
       refine Q_app (w0 := w) w.heap.size rfl (.tmp 31) (.tmp 32) rfl _ ([] ++ l1) l2 A2 n2 c2 rfl rfl HQ1.out (C2.out.below HB.out) HB.out (below_size HB.out) ?hl ?_;
       (case hl => have := L1.out; have := L2.out; have := L3.out; simp only [List.length_append, List.length_nil]; omega);
       intro v1 w1 hq hb hg; obtain ⟨A0, m0, c0, rfl, hle⟩ := Q_form' hq; have HQ2 := Aside0.mk hq; have HB1 := Aside0.mk hb; clear HB hq hb hg hle; have HB := HB1; clear HB1)
    | ((with_reducible refine gate_builtin (b := .append) (xs := #[.tmp 33, .tmp 34]) rfl ?_); at_builtin;
       refine Q_app (w0 := w) w.heap.size rfl (.tmp 33) (.tmp 34) rfl _ ([] ++ l1 ++ l2) l3 A3 n3 c3 rfl rfl HQ2.out (C3.out.below HB.out) HB.out (below_size HB.out) ?hl ?_;
       (case hl => have := L1.out; have := L2.out; have := L3.out; simp only [List.length_append, List.length_nil]; omega);
       intro v1 w1 hq hb hg; obtain ⟨A0, m0, c0, rfl, hle⟩ := Q_form' hq; have HQ : Aside0 ((Kd.int .u8).Q 5 w1 w.heap.size (fun _ => True) (.slice A0 m0 c0) mm) := ⟨by rw [← HMM.out]; exact hq⟩; have HB1 := Aside0.mk hb; clear HB hq hb hg hle; have HB := HB1; clear HB1)
    | (go_at_call 13; (with_reducible refine (of_1 _ _ _ mm _ 22 1 _ (blk_new _ _) ((Q_bts HQ.out HMB.out).alloc _) (by have := HML.out; omega) (HK.out.below HK.out.lt (below_alloc HB.out _))).mono ?_); rintro e w2 ⟨rfl, hb⟩; have nQ := Aside0.mk (Kd.Q_below (Kd.Q_alloc HQ.out _) hb); have HB1 := Aside0.mk (below_step (below_alloc HB.out _) hb); clear HB HQ hb; have HB := HB1; have HQ := nQ; clear HB1 nQ)
    | ((with_reducible refine gate_dst (N := 9) rfl ?_); refine box_event ?hg (N := 9) ?hd (cs := arr zeros32) (t := 25) ?hr ?_; (case hd => rfl); (case hg => rfl); (case hr => first | (go_simp; done) | (go_simp; rfl));
       intro g9 hg w1 hbox hb; have BK9 := Aside0.mk hbox; have G9 := Aside0.mk (show w.heap.size ≤ g9 by rw [hg]; exact below_size HB.out); have HB1 := Aside0.mk (below_step HB.out hb); clear HB ; have HB := HB1; clear HB1 ; clear hbox hg; have nQ := Aside0.mk (Kd.Q_below HQ.out hb); clear HQ hb; have HQ := nQ; clear nQ)
    | ((with_reducible refine gate_store (p := 9) rfl ?_); refine dig_store rfl (.tmp 9) (.tmp 38) rfl g9 (shaOf mm) zeros32 rfl rfl BK9.out (sha_len mm) rfl ?_; intro w3 bk hoth hbel; have nn := Aside0.mk bk; have nQ := Aside0.mk (Kd.Q_mono (Kd.Q_step (Kd.Q_types HQ.out BK9.out (by decide)) (fun k hk _ => hoth k hk.2)) (ok' := fun _ => True) (fun _ _ => trivial)); clear HQ; have HQ := nQ; clear nQ; have HB1 := Aside0.mk (hbel _ _ HB.out G9.out); clear HB ; have HB := HB1; clear HB1 ; clear BK9; have BK9 := nn; clear nn bk hoth hbel))

  have HA := Aside0.mk (Q_bts HQ.out HMB.out)
  clear HQ
  refine start_ (n := 30) (S := fun w' => w'.heap[g9]? = some (.cells (arr (shaOf mm)) 25 (0, 0))) (ds := []) #[false, false, false, false, false, false, false, false, false, false, false, false, false, false, false, false, false, false, false, false, false, false, false, false, false, false, false, false, false, false] (by kernel_rfl) rfl rfl (blk_drew BK9.out) (fun hHeld => ?_)
  refine with_tabW parts_tab parts_bits (fun HT_ HW_ => ?_)
  have n1 := Aside0.mk (HA.out.below (below_drew (Below.refl _ _)))
  have n2 : Aside0 (Below w.heap.size w w3.drew) := ⟨below_drew1 HB.out⟩
  have n3 : Aside0 (w3.drew.heap[g9]? = some (.cells (arr (shaOf mm)) 25 (0, 0))) := ⟨blk_drew BK9.out⟩
  clear HB BK9 HA
  have HA := n1
  have HB := n2
  have BK9 := n3
  clear n1 n2 n3
  generalize w3.drew = wa at HB BK9 HA hHeld ⊢
  refine pure_ (i := 0) (N := (some 39)) (v := ?_) (a' := ?_) #[true, false, false, false, false, false, false, false, false, false, false, false, false, false, false, false, false, false, false, false, false, false, false, false, false, false, false, false, false, false] rfl rfl (any_of HT_.out (by kernel_rfl)) (fun _ _ _ h => h) (Or.inl ⟨by rfl, ?_⟩) ?_ ?_
  rotate_left
  · intro w'
    go_simp
    first | with_reducible rfl | (simp; done) | rfl
  rotate_left
  · simp only [Act.put, List.setIfInBounds_toArray, List.set_cons_zero, List.set_cons_succ, i64_w, i32_w]
    rfl
  refine pure_ (i := 1) (N := (some 40)) (v := ?_) (a' := ?_) #[true, true, false, false, false, false, false, false, false, false, false, false, false, false, false, false, false, false, false, false, false, false, false, false, false, false, false, false, false, false] rfl rfl (any_of HT_.out (by kernel_rfl)) (fun _ _ _ h => h) (Or.inl ⟨by rfl, ?_⟩) ?_ ?_
  rotate_left
  · intro w'
    go_simp
    first | with_reducible rfl | (simp; done) | rfl
  rotate_left
  · simp only [Act.put, List.setIfInBounds_toArray, List.set_cons_zero, List.set_cons_succ, i64_w, i32_w]
    rfl
  refine pure_ (i := 2) (N := (some 41)) (v := ?_) (a' := ?_) #[true, true, true, false, false, false, false, false, false, false, false, false, false, false, false, false, false, false, false, false, false, false, false, false, false, false, false, false, false, false] rfl rfl (any_of HT_.out (by kernel_rfl)) (fun _ _ _ h => h) (Or.inl ⟨by rfl, ?_⟩) ?_ ?_
  rotate_left
  · intro w'
    go_simp
    first | with_reducible rfl | (simp; done) | rfl
  rotate_left
  · simp only [Act.put, List.setIfInBounds_toArray, List.set_cons_zero, List.set_cons_succ, i64_w, i32_w]
    rfl
  refine pure_ (i := 3) (N := (some 42)) (v := ?_) (a' := ?_) #[true, true, true, true, false, false, false, false, false, false, false, false, false, false, false, false, false, false, false, false, false, false, false, false, false, false, false, false, false, false] rfl rfl (any_of HT_.out (by kernel_rfl)) (fun _ _ _ h => h) (Or.inl ⟨by rfl, ?_⟩) ?_ ?_
  rotate_left
  · intro w'
    go_simp
    first | with_reducible rfl | (simp; done) | rfl
  rotate_left
  · simp only [Act.put, List.setIfInBounds_toArray, List.set_cons_zero, List.set_cons_succ, i64_w, i32_w]
    rfl
  refine pure_ (i := 4) (N := (some 43)) (v := ?_) (a' := ?_) #[true, true, true, true, true, false, false, false, false, false, false, false, false, false, false, false, false, false, false, false, false, false, false, false, false, false, false, false, false, false] rfl rfl (any_of HT_.out (by kernel_rfl)) (fun _ _ _ h => h) (Or.inl ⟨by rfl, ?_⟩) ?_ ?_
  rotate_left
  · intro w'
    go_simp
    first | with_reducible rfl | (simp; done) | rfl
  rotate_left
  · simp only [Act.put, List.setIfInBounds_toArray, List.set_cons_zero, List.set_cons_succ, i64_w, i32_w]
    rfl
  refine take_ (i := 7) (N := (some 46)) (v := ?_) (a' := ?_) #[true, true, true, true, true, false, false, true, false, false, false, false, false, false, false, false, false, false, false, false, false, false, false, false, false, false, false, false, false, false] rfl rfl (take_ofW HT_.out HW_.out (by kernel_rfl)) (fun _ _ _ h => h) (Or.inl ⟨by rfl, ?_⟩) hHeld ?_ ?_
  rotate_left
  · rintro w' s0
    refine dig_load (x := .tmp 9) ?_ ?_ s0 (sha_len mm) <;> rfl
  rotate_left
  · simp only [Act.put, List.setIfInBounds_toArray, List.set_cons_zero, List.set_cons_succ, i64_w, i32_w]
    rfl
  refine one_ (i := 5) (N := (some 44)) #[true, true, true, true, true, true, false, true, false, false, false, false, false, false, false, false, false, false, false, false, false, false, false, false, false, false, false, false, false, false] rfl rfl (one_of HT_.out (by kernel_rfl)) (by decide) (fun K hK => ?_)
  refine value_ (v := .slice (some ⟨wa.heap.size, 0, none⟩) 3 3) (w1 := wa.alloc (.cells #[.slice A1 n1 c1, .slice A2 n2 c2, .slice A3 n3 c3] 22)) (by rfl) rfl ?_ ?_
  · go_simp
    first | done | rfl
  refine hK.out _ _ (blk_alloc BK9.out _) (fun hHeld => ?_)
  clear hK K
  refine norm_ (a' := ?_) ?_ ?_
  rotate_left
  · show Act.put _ (some 44) _ = _
    simp only [Act.put, List.setIfInBounds_toArray, List.set_cons_zero, List.set_cons_succ, i64_w, i32_w]
    rfl
  refine one_ (i := 6) (N := (some 45)) #[true, true, true, true, true, true, true, true, false, false, false, false, false, false, false, false, false, false, false, false, false, false, false, false, false, false, false, false, false, false] rfl rfl (one_of HT_.out (by kernel_rfl)) (by decide) (fun K hK => ?_)
  refine goes_ Tryd.func13 (by kernel_rfl) rfl #[.slice (some ⟨wa.heap.size, 0, none⟩) 3 3] (by rfl) rfl rfl (by (try simp only [List.map_toArray, List.map_cons, List.map_nil]); first | done | rfl) ?_
  with_reducible refine (of_three _ c1 c2 c3 A1 A2 A3 l1 l2 l3 mm HMM.out n1 n2 n3 22 3 _ (blk_new wa _) ((C1.out.below HB.out).alloc _) ((C2.out.below HB.out).alloc _) ((C3.out.below HB.out).alloc _) (by have := L1.out; have := L2.out; have := L3.out; omega) (HK.out.below HK.out.lt (below_alloc HB.out _))).mono ?_
  rintro e0 wb ⟨rfl, hb⟩
  refine ⟨_, rfl, ?_⟩
  have HC := Aside0.mk (below_step (below_new wa _) hb)
  clear hb
  refine hK.out _ _ (blk_below BK9.out HC.out) (fun hHeld => ?_)
  clear hK K
  refine norm_ (a' := ?_) ?_ ?_
  rotate_left
  · show Act.put _ (some 45) _ = _
    simp only [Act.put, List.setIfInBounds_toArray, List.set_cons_zero, List.set_cons_succ, i64_w, i32_w]
    rfl
  have n1 := Aside0.mk (HA.out.below HC.out)
  have n2 := Aside0.mk (below_step HB.out HC.out)
  have n3 := Aside0.mk (blk_below BK9.out HC.out)
  clear HA HB BK9 HC
  have HA := n1
  have HB := n2
  have BK9 := n3
  clear n1 n2 n3
  refine pure_ (i := 8) (N := (some 47)) (v := ?_) (a' := ?_) #[true, true, true, true, true, true, true, true, true, false, false, false, false, false, false, false, false, false, false, false, false, false, false, false, false, false, false, false, false, false] rfl rfl (any_of HT_.out (by kernel_rfl)) (fun _ _ _ h => h) (Or.inl ⟨by rfl, ?_⟩) ?_ ?_
  rotate_left
  · intro w'
    refine dig_eql (x := .tmp 45) (y := .tmp 46) ?_ ?_ ?_ (dig_sha mm) <;> rfl
  rotate_left
  · simp only [Act.put, List.setIfInBounds_toArray, List.set_cons_zero, List.set_cons_succ, i64_w, i32_w]
    rfl
  refine pure_ (i := 9) (N := (some 48)) (v := ?_) (a' := ?_) #[true, true, true, true, true, true, true, true, true, true, false, false, false, false, false, false, false, false, false, false, false, false, false, false, false, false, false, false, false, false] rfl rfl (any_of HT_.out (by kernel_rfl)) (fun _ _ _ h => h) (Or.inl ⟨by rfl, ?_⟩) ?_ ?_
  rotate_left
  · intro w'
    go_simp
    first | with_reducible rfl | (simp; done) | rfl
  rotate_left
  · simp only [Act.put, List.setIfInBounds_toArray, List.set_cons_zero, List.set_cons_succ, i64_w, i32_w]
    rfl
  refine pure_ (i := 10) (N := (some 49)) (v := ?_) (a' := ?_) #[true, true, true, true, true, true, true, true, true, true, true, false, false, false, false, false, false, false, false, false, false, false, false, false, false, false, false, false, false, false] rfl rfl (any_of HT_.out (by kernel_rfl)) (fun _ _ _ h => h) (Or.inl ⟨by rfl, ?_⟩) ?_ ?_
  rotate_left
  · intro w'
    go_simp
    first | with_reducible rfl | (simp; done) | rfl
  rotate_left
  · simp only [Act.put, List.setIfInBounds_toArray, List.set_cons_zero, List.set_cons_succ, i64_w, i32_w]
    rfl
  refine pure_ (i := 11) (N := (some 50)) (v := ?_) (a' := ?_) #[true, true, true, true, true, true, true, true, true, true, true, true, false, false, false, false, false, false, false, false, false, false, false, false, false, false, false, false, false, false] rfl rfl (any_of HT_.out (by kernel_rfl)) (fun _ _ _ h => h) (Or.inl ⟨by rfl, ?_⟩) ?_ ?_
  rotate_left
  · intro w'
    go_simp
    first | with_reducible rfl | (simp; done) | rfl
  rotate_left
  · simp only [Act.put, List.setIfInBounds_toArray, List.set_cons_zero, List.set_cons_succ, i64_w, i32_w]
    rfl
  refine pure_ (i := 13) (N := (some 52)) (v := ?_) (a' := ?_) #[true, true, true, true, true, true, true, true, true, true, true, true, false, true, false, false, false, false, false, false, false, false, false, false, false, false, false, false, false, false] rfl rfl (any_of HT_.out (by kernel_rfl)) (fun _ _ _ h => h) (Or.inl ⟨by rfl, ?_⟩) ?_ ?_
  rotate_left
  · intro w'
    go_simp
    first | with_reducible rfl | (simp; done) | rfl
  rotate_left
  · simp only [Act.put, List.setIfInBounds_toArray, List.set_cons_zero, List.set_cons_succ, i64_w, i32_w]
    rfl
  refine pure_ (i := 15) (N := (some 54)) (v := ?_) (a' := ?_) #[true, true, true, true, true, true, true, true, true, true, true, true, false, true, false, true, false, false, false, false, false, false, false, false, false, false, false, false, false, false] rfl rfl (any_of HT_.out (by kernel_rfl)) (fun _ _ _ h => h) (Or.inl ⟨by rfl, ?_⟩) ?_ ?_
  rotate_left
  · intro w'
    go_simp
    first | with_reducible rfl | (simp; done) | rfl
  rotate_left
  · simp only [Act.put, List.setIfInBounds_toArray, List.set_cons_zero, List.set_cons_succ, i64_w, i32_w]
    rfl
  refine take_ (i := 19) (N := (some 58)) (v := ?_) (a' := ?_) #[true, true, true, true, true, true, true, true, true, true, true, true, false, true, false, true, false, false, false, true, false, false, false, false, false, false, false, false, false, false] rfl rfl (take_ofW HT_.out HW_.out (by kernel_rfl)) (fun _ _ _ h => h) (Or.inl ⟨by rfl, ?_⟩) hHeld ?_ ?_
  rotate_left
  · rintro w' s0
    refine dig_load (x := .tmp 9) ?_ ?_ s0 (sha_len mm) <;> rfl
  rotate_left
  · simp only [Act.put, List.setIfInBounds_toArray, List.set_cons_zero, List.set_cons_succ, i64_w, i32_w]
    rfl
  refine one_ (i := 12) (N := (some 51)) #[true, true, true, true, true, true, true, true, true, true, true, true, true, true, false, true, false, false, false, true, false, false, false, false, false, false, false, false, false, false] rfl rfl (one_of HT_.out (by kernel_rfl)) (by decide) (fun K hK => ?_)
  refine value_ (v := .slice (some ⟨wb.heap.size, 0, none⟩) 0 0) (w1 := wb.alloc (.cells #[] 5)) (by rfl) rfl ?_ ?_
  · go_simp
    first | done | rfl
  refine hK.out _ _ (blk_alloc BK9.out _) (fun hHeld => ?_)
  clear hK K
  refine norm_ (a' := ?_) ?_ ?_
  rotate_left
  · show Act.put _ (some 51) _ = _
    simp only [Act.put, List.setIfInBounds_toArray, List.set_cons_zero, List.set_cons_succ, i64_w, i32_w]
    rfl
  refine one_ (i := 14) (N := (some 53)) #[true, true, true, true, true, true, true, true, true, true, true, true, true, true, true, true, false, false, false, true, false, false, false, false, false, false, false, false, false, false] rfl rfl (one_of HT_.out (by kernel_rfl)) (by decide) (fun K hK => ?_)
  refine Q_app_step (w0 := wb) wb.heap.size (by rfl) (.tmp 51) (.tmp 52) rfl _ ([] : List Int) l2 A2 n2 c2 rfl rfl (Q_empty (blk_new wb _) (Nat.le_refl _)) ((C2.out.below HB.out).alloc _) (below_new wb _) (by simp) (by have := L2.out; simp only [List.length_nil]; omega) ?_
  intro v1 wc hq hb hg
  obtain ⟨A4, m4, c4, rfl, hm4⟩ := Q_form' hq
  have HQ4 := Aside0.mk hq
  have HC := Aside0.mk hb
  clear hq hb hg hm4
  refine hK.out _ _ (blk_below BK9.out HC.out) (fun hHeld => ?_)
  clear hK K
  refine norm_ (a' := ?_) ?_ ?_
  rotate_left
  · show Act.put _ (some 53) _ = _
    simp only [Act.put, List.setIfInBounds_toArray, List.set_cons_zero, List.set_cons_succ, i64_w, i32_w]
    rfl
  refine one_ (i := 16) (N := (some 55)) #[true, true, true, true, true, true, true, true, true, true, true, true, true, true, true, true, true, false, false, true, false, false, false, false, false, false, false, false, false, false] rfl rfl (one_of HT_.out (by kernel_rfl)) (by decide) (fun K hK => ?_)
  refine Q_app_step (w0 := wb) wb.heap.size (by rfl) (.tmp 53) (.tmp 54) rfl _ ([] ++ l2) l3 A3 n3 c3 rfl rfl HQ4.out ((C3.out.below HB.out).below HC.out) HC.out (below_size HC.out) (by have := L2.out; have := L3.out; simp only [List.length_nil, List.length_append]; omega) ?_
  intro v2 wd hq hb hg
  obtain ⟨A5, m5, c5, rfl, hm5⟩ := Q_form' hq
  have HQ5 := Aside0.mk (Q_bts hq (fun x hx => by simp only [List.nil_append, List.mem_append] at hx; exact hx.elim (C2.out.by_ x) (C3.out.by_ x)))
  clear HC
  have HC := Aside0.mk hb
  clear hq hb hg hm5
  refine hK.out _ _ (blk_below BK9.out HC.out) (fun hHeld => ?_)
  clear hK K
  refine norm_ (a' := ?_) ?_ ?_
  rotate_left
  · show Act.put _ (some 55) _ = _
    simp only [Act.put, List.setIfInBounds_toArray, List.set_cons_zero, List.set_cons_succ, i64_w, i32_w]
    rfl
  refine one_ (i := 17) (N := (some 56)) #[true, true, true, true, true, true, true, true, true, true, true, true, true, true, true, true, true, true, false, true, false, false, false, false, false, false, false, false, false, false] rfl rfl (one_of HT_.out (by kernel_rfl)) (by decide) (fun K hK => ?_)
  refine value_ (v := .slice (some ⟨wd.heap.size, 0, none⟩) 2 2) (w1 := wd.alloc (.cells #[.slice A1 n1 c1, .slice A5 m5 c5] 22)) (by rfl) rfl ?_ ?_
  · go_simp
    first | done | rfl
  refine hK.out _ _ (blk_alloc (blk_below BK9.out HC.out) _) (fun hHeld => ?_)
  clear hK K
  refine norm_ (a' := ?_) ?_ ?_
  rotate_left
  · show Act.put _ (some 56) _ = _
    simp only [Act.put, List.setIfInBounds_toArray, List.set_cons_zero, List.set_cons_succ, i64_w, i32_w]
    rfl
  refine one_ (i := 18) (N := (some 57)) #[true, true, true, true, true, true, true, true, true, true, true, true, true, true, true, true, true, true, true, true, false, false, false, false, false, false, false, false, false, false] rfl rfl (one_of HT_.out (by kernel_rfl)) (by decide) (fun K hK => ?_)
  refine goes_ Tryd.func13 (by kernel_rfl) rfl #[.slice (some ⟨wd.heap.size, 0, none⟩) 2 2] (by rfl) rfl rfl (by (try simp only [List.map_toArray, List.map_cons, List.map_nil]); first | done | rfl) ?_
  with_reducible refine (of_2 _ c1 c5 A1 A5 l1 ([] ++ l2 ++ l3) mm (by rw [← HMM.out]; simp) n1 m5 22 2 _ (blk_new wd _) (((C1.out.below HB.out).below HC.out).alloc _) (HQ5.out.alloc _) (by have := L1.out; have := L2.out; have := L3.out; simp only [List.length_append, List.length_nil]; omega) (HK.out.below HK.out.lt (below_alloc (below_step HB.out HC.out) _))).mono ?_
  rintro e0 we ⟨rfl, hb⟩
  refine ⟨_, rfl, ?_⟩
  have hc := Aside0.mk (below_step (below_alloc HC.out _) hb)
  clear hb HC
  have HC := hc
  clear hc
  refine hK.out _ _ (blk_below BK9.out HC.out) (fun hHeld => ?_)
  clear hK K
  refine norm_ (a' := ?_) ?_ ?_
  rotate_left
  · show Act.put _ (some 57) _ = _
    simp only [Act.put, List.setIfInBounds_toArray, List.set_cons_zero, List.set_cons_succ, i64_w, i32_w]
    rfl
  have n1 := Aside0.mk (HA.out.below HC.out)
  have n2 := Aside0.mk (below_step HB.out HC.out)
  have n3 := Aside0.mk (blk_below BK9.out HC.out)
  clear HA HB BK9 HC
  have HA := n1
  have HB := n2
  have BK9 := n3
  clear n1 n2 n3
  refine pure_ (i := 20) (N := (some 59)) (v := ?_) (a' := ?_) #[true, true, true, true, true, true, true, true, true, true, true, true, true, true, true, true, true, true, true, true, true, false, false, false, false, false, false, false, false, false] rfl rfl (any_of HT_.out (by kernel_rfl)) (fun _ _ _ h => h) (Or.inl ⟨by rfl, ?_⟩) ?_ ?_
  rotate_left
  · intro w'
    refine dig_eql (x := .tmp 57) (y := .tmp 58) ?_ ?_ ?_ (dig_sha mm) <;> rfl
  rotate_left
  · simp only [Act.put, List.setIfInBounds_toArray, List.set_cons_zero, List.set_cons_succ, i64_w, i32_w]
    rfl
  refine pure_ (i := 21) (N := (some 60)) (v := ?_) (a' := ?_) #[true, true, true, true, true, true, true, true, true, true, true, true, true, true, true, true, true, true, true, true, true, true, false, false, false, false, false, false, false, false] rfl rfl (any_of HT_.out (by kernel_rfl)) (fun _ _ _ h => h) (Or.inl ⟨by rfl, ?_⟩) ?_ ?_
  rotate_left
  · intro w'
    go_simp
    first | with_reducible rfl | (simp; done) | rfl
  rotate_left
  · simp only [Act.put, List.setIfInBounds_toArray, List.set_cons_zero, List.set_cons_succ, i64_w, i32_w]
    rfl
  refine pure_ (i := 22) (N := (some 61)) (v := ?_) (a' := ?_) #[true, true, true, true, true, true, true, true, true, true, true, true, true, true, true, true, true, true, true, true, true, true, true, false, false, false, false, false, false, false] rfl rfl (any_of HT_.out (by kernel_rfl)) (fun _ _ _ h => h) (Or.inl ⟨by rfl, ?_⟩) ?_ ?_
  rotate_left
  · intro w'
    go_simp
    first | with_reducible rfl | (simp; done) | rfl
  rotate_left
  · simp only [Act.put, List.setIfInBounds_toArray, List.set_cons_zero, List.set_cons_succ, i64_w, i32_w]
    rfl
  refine pure_ (i := 23) (N := (some 62)) (v := ?_) (a' := ?_) #[true, true, true, true, true, true, true, true, true, true, true, true, true, true, true, true, true, true, true, true, true, true, true, true, false, false, false, false, false, false] rfl rfl (any_of HT_.out (by kernel_rfl)) (fun _ _ _ h => h) (Or.inl ⟨by rfl, ?_⟩) ?_ ?_
  rotate_left
  · intro w'
    go_simp
    first | with_reducible rfl | (simp; done) | rfl
  rotate_left
  · simp only [Act.put, List.setIfInBounds_toArray, List.set_cons_zero, List.set_cons_succ, i64_w, i32_w]
    rfl
  refine take_ (i := 26) (N := (some 65)) (v := ?_) (a' := ?_) #[true, true, true, true, true, true, true, true, true, true, true, true, true, true, true, true, true, true, true, true, true, true, true, true, false, false, true, false, false, false] rfl rfl (take_ofW HT_.out HW_.out (by kernel_rfl)) (fun _ _ _ h => h) (Or.inl ⟨by rfl, ?_⟩) hHeld ?_ ?_
  rotate_left
  · rintro w' s0
    refine dig_load (x := .tmp 9) ?_ ?_ s0 (sha_len mm) <;> rfl
  rotate_left
  · simp only [Act.put, List.setIfInBounds_toArray, List.set_cons_zero, List.set_cons_succ, i64_w, i32_w]
    rfl
  refine one_ (i := 24) (N := (some 63)) #[true, true, true, true, true, true, true, true, true, true, true, true, true, true, true, true, true, true, true, true, true, true, true, true, true, false, true, false, false, false] rfl rfl (one_of HT_.out (by kernel_rfl)) (by decide) (fun K hK => ?_)
  refine value_ (v := .slice (some ⟨we.heap.size, 0, none⟩) 3 3) (w1 := we.alloc (.cells #[.slice none 0 0, .slice A0 m0 c0, .slice none 0 0] 22)) (by rfl) rfl ?_ ?_
  · go_simp
    first | done | rfl
  refine hK.out _ _ (blk_alloc BK9.out _) (fun hHeld => ?_)
  clear hK K
  refine norm_ (a' := ?_) ?_ ?_
  rotate_left
  · show Act.put _ (some 63) _ = _
    simp only [Act.put, List.setIfInBounds_toArray, List.set_cons_zero, List.set_cons_succ, i64_w, i32_w]
    rfl
  refine one_ (i := 25) (N := (some 64)) #[true, true, true, true, true, true, true, true, true, true, true, true, true, true, true, true, true, true, true, true, true, true, true, true, true, true, true, false, false, false] rfl rfl (one_of HT_.out (by kernel_rfl)) (by decide) (fun K hK => ?_)
  refine goes_ Tryd.func13 (by kernel_rfl) rfl #[.slice (some ⟨we.heap.size, 0, none⟩) 3 3] (by rfl) rfl rfl (by (try simp only [List.map_toArray, List.map_cons, List.map_nil]); first | done | rfl) ?_
  with_reducible refine (of_three _ 0 c0 0 none A0 none [] mm [] mm (by simp) 0 m0 0 22 3 _ (blk_new we _) (Bts.none _) (HA.out.alloc _) (Bts.none _) (by have := HML.out; simp only [List.length_nil]; omega) (HK.out.below HK.out.lt (below_alloc HB.out _))).mono ?_
  rintro e0 wf ⟨rfl, hb⟩
  refine ⟨_, rfl, ?_⟩
  have HC := Aside0.mk (below_step (below_new we _) hb)
  clear hb
  refine hK.out _ _ (blk_below BK9.out HC.out) (fun hHeld => ?_)
  clear hK K
  refine norm_ (a' := ?_) ?_ ?_
  rotate_left
  · show Act.put _ (some 64) _ = _
    simp only [Act.put, List.setIfInBounds_toArray, List.set_cons_zero, List.set_cons_succ, i64_w, i32_w]
    rfl
  have n1 := Aside0.mk (HA.out.below HC.out)
  have n2 := Aside0.mk (below_step HB.out HC.out)
  have n3 := Aside0.mk (blk_below BK9.out HC.out)
  clear HA HB BK9 HC
  have HA := n1
  have HB := n2
  have BK9 := n3
  clear n1 n2 n3
  refine pure_ (i := 27) (N := (some 66)) (v := ?_) (a' := ?_) #[true, true, true, true, true, true, true, true, true, true, true, true, true, true, true, true, true, true, true, true, true, true, true, true, true, true, true, true, false, false] rfl rfl (any_of HT_.out (by kernel_rfl)) (fun _ _ _ h => h) (Or.inl ⟨by rfl, ?_⟩) ?_ ?_
  rotate_left
  · intro w'
    refine dig_eql (x := .tmp 64) (y := .tmp 65) ?_ ?_ ?_ (dig_sha mm) <;> rfl
  rotate_left
  · simp only [Act.put, List.setIfInBounds_toArray, List.set_cons_zero, List.set_cons_succ, i64_w, i32_w]
    rfl
  refine pure_ (i := 28) (N := (some 67)) (v := ?_) (a' := ?_) #[true, true, true, true, true, true, true, true, true, true, true, true, true, true, true, true, true, true, true, true, true, true, true, true, true, true, true, true, true, false] rfl rfl (any_of HT_.out (by kernel_rfl)) (fun _ _ _ h => h) (Or.inl ⟨by rfl, ?_⟩) ?_ ?_
  rotate_left
  · intro w'
    go_simp
    first | with_reducible rfl | (simp; done) | rfl
  rotate_left
  · simp only [Act.put, List.setIfInBounds_toArray, List.set_cons_zero, List.set_cons_succ, i64_w, i32_w]
    rfl
  refine pure_ (i := 29) (N := (some 6)) (v := ?_) (a' := ?_) #[true, true, true, true, true, true, true, true, true, true, true, true, true, true, true, true, true, true, true, true, true, true, true, true, true, true, true, true, true, true] rfl rfl (any_of HT_.out (by kernel_rfl)) (fun _ _ _ h => h) (Or.inl ⟨by rfl, ?_⟩) ?_ ?_
  rotate_left
  · intro w'
    go_simp
    first | with_reducible rfl | (simp; done) | rfl
  rotate_left
  · simp only [Act.put, List.setIfInBounds_toArray, List.set_cons_zero, List.set_cons_succ, i64_w, i32_w]
    rfl
  refine done_ (done_of HT_.out (by kernel_rfl)) ?_
  go_wp2
  go_ret
  exact ⟨rfl, HB.out⟩
theorem shaParts_walk (A1 A2 A3 : Option Addr) (n1 n2 n3 c1 c2 c3 : Nat) (l1 l2 l3 : List Int) (w : World) (b1 : Bts w A1 n1 c1 l1) (b2 : Bts w A2 n2 c2 l2) (b3 : Bts w A3 n3 c3 l3) (hk : KT w) :
    Calls Tryd.prog 6 #[.slice A1 n1 c1, .slice A2 n2 c2, .slice A3 n3 c3] w fun e w' => e = .returned (.bool true) ∧ Below w.heap.size w w' := by
  by_cases d : 300 < (n1 : Int) ∨ 300 < (n2 : Int) ∨ 300 < (n3 : Int)
  · exact parts_long A1 A2 A3 n1 n2 n3 c1 c2 c3 d w hk
  · exact parts_main A1 A2 A3 n1 n2 n3 c1 c2 c3 l1 l2 l3 w b1 b2 b3 (by omega) (by omega) (by omega) hk
end Go.Proofs.YtoaimcobcgomjaaDoor.Q
