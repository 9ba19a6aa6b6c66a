/-
  beadrollref02.Sum: the contract, by hand (written by wip/tools/gen_sum.py).
-/
import Derived.Test.YtoaimcobcgomjaaDoorShaSum3
namespace Go.Proofs.YtoaimcobcgomjaaDoor.Q
open Go.RowKit Go.Proofs.YtoaimcobcgomjaaDoorW.PrintWords Go.Proofs.YtoaimcobcgomjaaDoorW.PrintLast Go.Proofs.YtoaimcobcgomjaaDoorW.PrintMore
set_option linter.unusedVariables false
set_option linter.unusedSimpArgs false

theorem r8_load {o : Oper} {a : Act} {W : World} {x : Operand} {g : Nat} {ds : List Int} (ho : o.op = .load 55 x) (hx : a.eval x = .pointer (some ⟨g, 0, none⟩)) (hg : W.heap[g]? = some (.cells (arr32 ds) 55 (0, 0))) (hl : ds.length = 8) :
    (execOp a.eval o).run Tryd.prog W = .ok (.value (.agg (arr32 ds))) W := by
  unfold execOp
  simp only [ho, hx, Instr.loadAt, Instr.sureAddr, Sem.run_bind, Sem.run_pure, Result.andThen_ok, run_loadVar_row W g 55 55 (arr32 ds) (0, 0) _ hg Tryd.underlying55 rfl (by rw [arr32_size, hl]; exact info_r8)]
/-- 64 bytes out of a row. -/
theorem cut_mid (g o n c l : Nat) (h : l + 64 ≤ n) (hc : n ≤ c) (hm : c ≤ 9223372036854775807) (W : World) : (Instr.slice 22 (.slice (some ⟨g, o, none⟩) n c) (some (.int .i64 (l : Int))) (some (.int .i64 ((l : Int) + 64))) none).run Tryd.prog W = .ok (.slice (some ⟨g, o + l, none⟩) 64 (c - l)) W := by
  have hel : Tryd.prog.elem 22 = 5 := by kernel_rfl
  obtain ⟨j, hj, h1, h2, h3⟩ := info_parts info5
  rw [run_slice_lh W 22 _ n c (by rw [hel]; exact Tryd.underlying22) .i64 .i64 (l : Int) ((l : Int) + 64) (by omega) (by omega) (by omega)]
  have e1 : ((l : Int) + 64).toNat = l + 64 := by omega
  have e2 : ¬ c = l := by omega
  simp [hel, sizeOf, typeInfo, hj, h2, Result.andThen, sliced, e1, e2, Addr.add]
/-- What holds at the head of Sum's loop over the blocks: x lies in the state's block, s is the state that M has come to. -/
structure SumInv (g2 g3 g5 gp op mp cp : Nat) (W : World) (M x s r : List Int) (w : World) : Prop where
  b2 : w.heap[g2]? = some (.cells (arr (List.replicate 32 0)) 25 (0, 0))
  b3 : w.heap[g3]? = some (.cells (arr32 x) 55 (0, 0))
  b5 : w.heap[g5]? = some (.cells (arr32 K64) 59 (0, 0))
  q : (Kd.int .u8).Q 5 w W.heap.size (fun _ => True) (.slice (some ⟨gp, op, none⟩) mp cp) M
  hb : Below W.heap.size W w
  eats : Eats init8 M s r
  h2 : W.heap.size ≤ g2
  h3 : W.heap.size ≤ g3
  n23 : g2 ≠ g3
  n53 : g5 ≠ g3
section
variable {g2 g3 g5 gp op mp cp : Nat} {W w w1 : World} {M x s r : List Int}
theorem SumInv.below (h : SumInv g2 g3 g5 gp op mp cp W M x s r w) (hb : Below w.heap.size w w1) : SumInv g2 g3 g5 gp op mp cp W M x s r w1 :=
  ⟨blk_below h.b2 hb, blk_below h.b3 hb, blk_below h.b5 hb, Kd.Q_below h.q hb, below_step h.hb hb, h.eats, h.h2, h.h3, h.n23, h.n53⟩
theorem SumInv.drew (h : SumInv g2 g3 g5 gp op mp cp W M x s r w) : SumInv g2 g3 g5 gp op mp cp W M x s r w.drew :=
  ⟨blk_drew h.b2, blk_drew h.b3, blk_drew h.b5, Kd.Q_drew h.q, below_drew h.hb, h.eats, h.h2, h.h3, h.n23, h.n53⟩
/-- A block of its own written: the rest stays. -/
theorem SumInv.other {g t : Nat} {cs : Array Value} (h : SumInv g2 g3 g5 gp op mp cp W M x s r w) (hg : w.heap[g]? = some (.cells cs t (0, 0))) (ht : 5 ≠ t) (n2 : g2 ≠ g) (n3 : g3 ≠ g) (n5 : g5 ≠ g) (hk : ∀ k, k ≠ g → w1.heap[k]? = w.heap[k]?) (hb : Below W.heap.size W w1) : SumInv g2 g3 g5 gp op mp cp W M x s r w1 :=
  ⟨(hk _ n2).trans h.b2, (hk _ n3).trans h.b3, (hk _ n5).trans h.b5, Kd.Q_mono (Kd.Q_step (Kd.Q_types h.q hg (fun q hq => by simp [Kd.int, Kd.scalar] at hq; subst hq; exact ht)) (fun k hk' _ => hk k hk'.2)) (fun _ _ => trivial), hb, h.eats, h.h2, h.h3, h.n23, h.n53⟩
/-- A word of the state written. -/
theorem SumInv.put {t : Nat} {y : Int} (h : SumInv g2 g3 g5 gp op mp cp W M x s r w) : SumInv g2 g3 g5 gp op mp cp W M (x.set t y) s r (w.setCell ⟨g3, t, none⟩ (.int .u32 y)) :=
  ⟨(Below.heap_setCell _ ⟨g3, t, none⟩ _ g2 h.n23).trans h.b2, blk_put h.b3 t _ (arr32_set _ _ _), (Below.heap_setCell _ ⟨g3, t, none⟩ _ g5 h.n53).trans h.b5, Kd.Q_set h.q h.b3 (by decide) t _, h.hb.setCell (p := ⟨g3, t, none⟩) h.h3 _, h.eats, h.h2, h.h3, h.n23, h.n53⟩
end
theorem SumInv.sch {g2 g3 g5 gp op mp cp : Nat} {W w : World} {M x s : List Int} {k : Nat} (h : SumInv g2 g3 g5 gp op mp cp W M x s (M.drop (64 * k)) w) (hk : 64 * k + 64 ≤ M.length) (hm : ∀ x ∈ M, 0 ≤ x ∧ x < 256) : SchPre gp (op + 64 * k) ((M.drop (64 * k)).take 64) w := by
  obtain ⟨hmp, hlc, hrd⟩ := Kd.Q_reads' h.q
  refine ⟨fun j hj => ?_, by rw [List.length_take, List.length_drop]; omega, fun x hx => hm x (List.mem_of_mem_drop (List.mem_of_mem_take hx))⟩
  obtain ⟨ad, he, hy⟩ := Kd.at_int hrd ((64 * k + j : Nat) : Int) (by omega) (by omega)
  cases he
  rw [Int.toNat_natCast] at hy
  have e1 : (⟨gp, op, none⟩ : Addr).add (64 * k + j) = ⟨gp, op + 64 * k + j, none⟩ := by simp [Addr.add, Nat.add_assoc]
  have hjl : 64 * k + j < M.length := by omega
  have e2 : rd M ((64 * k + j : Nat) : Int) = at_ ((M.drop (64 * k)).take 64) j := by
    unfold at_ rd
    rw [Int.toNat_natCast, Int.toNat_natCast]
    simp [hj, hjl]
  rw [← e1, hy, e2]

def sum12_T : Bool × List (List Nat × List Nat) := (true, [([], []), ([], []), ([1], [1]), ([2], [2]), ([], []), ([4], [4]), ([5], [5]), ([0, 3, 6], [0, 3, 6]), ([7, 7, 0, 1, 2, 3, 4, 5, 6, 7], [7])])
def sum12_B : List Nat := [0, 0, 2, 6, 0, 16, 48, 127, 255]
theorem sum12_tab : rtab .any (opsOf Tryd.f14 12) = sum12_T := by kernel_rfl
theorem sum12_bits : waitsOk sum12_T.2 sum12_B = true := by kernel_rfl

def sum16_T : Bool × List (List Nat × List Nat) := (true, [([], []), ([0], [0]), ([1], [1]), ([], []), ([3], [3]), ([4], [4]), ([2, 5], [2, 5]), ([0, 0, 1, 2, 3, 4, 5, 6], [0]), ([7, 6, 0, 1, 2, 3, 4, 5, 6], [6, 7])])
def sum16_B : List Nat := [0, 1, 3, 0, 8, 24, 63, 127, 255]
theorem sum16_tab : rtab .any (opsOf Tryd.f14 16) = sum16_T := by kernel_rfl
theorem sum16_bits : waitsOk sum16_T.2 sum16_B = true := by kernel_rfl

set_option maxHeartbeats 16000000 in
set_option maxRecDepth 100000 in
theorem sum_walk (A : Option Addr) (n c : Nat) (l : List Int) (W : World) (hb : Bts W A n c l) (hl : l.length < 1099511627776) :
    Calls Tryd.prog 14 #[.slice A n c] W fun e W' => e = .returned (.agg (arr (shaOf l))) ∧ Below W.heap.size W W' := by
  have HA := Aside0.mk hb
  have HL := Aside0.mk hl
  have HB := Aside0.mk (Below.refl W.heap.size W)
  clear hb hl
  obtain ⟨M, hM⟩ : ∃ M, padTo l ++ len8 (8 * l.length) = M := ⟨_, rfl⟩
  have HM := Aside0.mk hM
  have HML : Aside0 (M.length % 64 = 0 ∧ 0 < M.length ∧ M.length < 1199511627776) := ⟨by rw [← hM, List.length_append, pad_len, len8_len]; have := HL.out; omega⟩
  have HMB : Aside0 (∀ x ∈ M, 0 ≤ x ∧ x < 256) := ⟨by rw [← hM]; exact fun x hx => (List.mem_append.1 hx).elim (padTo_mem HA.out.by_ x) (len8_mem _ x)⟩
  clear hM
  go_enter Tryd.func14, Tryd.ntmps14
  go_wp2_with (
    first
    | ((with_reducible refine gate_dst (N := 2) rfl ?_); refine box_event ?hg (N := 2) ?hd (cs := arr (List.replicate 32 0)) (t := 25) ?hr ?_; (case hd => rfl); (case hg => rfl); (case hr => first | (go_simp; done) | (go_simp; rfl));
                         intro g2 hg w1 hbox hb; have B2 := Aside0.mk hbox; have G2 := Aside0.mk (show W.heap.size ≤ g2 by rw [hg]; exact below_size HB.out); have HB1 := Aside0.mk (below_step HB.out hb); clear HB; have HB := HB1; clear HB1; clear hbox hg hb)
    | ((with_reducible refine gate_dst (N := 3) rfl ?_); refine box_event ?hg (N := 3) ?hd (cs := arr32 (List.replicate 8 0)) (t := 55) ?hr ?_; (case hd => rfl); (case hg => rfl); (case hr => first | (go_simp; done) | (go_simp; rfl));
                         intro g3 hg w1 hbox hb; have B3 := Aside0.mk hbox; have G3 := Aside0.mk (show W.heap.size ≤ g3 by rw [hg]; exact below_size HB.out); have NE := Aside0.mk (show g2 ≠ g3 by rw [hg]; exact Nat.ne_of_lt (blk_lt B2.out)); have n1 := Aside0.mk (blk_below B2.out hb); have HB1 := Aside0.mk (below_step HB.out hb); clear HB B2; have HB := HB1; have B2 := n1; clear HB1 n1; clear hbox hg hb)
    | ((with_reducible refine gate_store (p := 3) rfl ?_); refine r8_store rfl (.tmp 3) (.tmp 14) rfl g3 init8 (List.replicate 8 0) rfl rfl B3.out rfl rfl ?_; intro w3 bk hoth hbel; have n1 := Aside0.mk bk; have n2 := Aside0.mk ((hoth g2 NE.out).trans B2.out); have n3 := Aside0.mk (hbel _ _ HB.out G3.out); clear B3 B2 HB bk hoth hbel; have B3 := n1; have B2 := n2; have HB := n3; clear n1 n2 n3)
    | (go_at_call 35; (with_reducible refine (padded_walk A n c l _ (HA.out.below HB.out) HL.out).mono ?_); rintro e w4 ⟨v, rfl, hq, hb⟩;
       rw [HM.out] at hq;
       obtain ⟨gp, op, cp, rfl, _, _, _⟩ := Kd.Q_form hq HML.out.2.1; have HQ := Aside0.mk (Kd.Q_lower hq (below_size HB.out));
       have n1 := Aside0.mk (blk_below B2.out hb); have n2 := Aside0.mk (blk_below B3.out hb); have n3 := Aside0.mk (below_step HB.out hb); clear B2 B3 HB hq hb; have B2 := n1; have B3 := n2; have HB := n3; clear n1 n2 n3)
    | (go_at_call 36; (with_reducible refine (words_walk _).mono ?_); rintro e w5 ⟨rfl, hb⟩;
       have n0 := Aside0.mk (Kd.Q_below HQ.out hb); have n1 := Aside0.mk (blk_below B2.out hb); have n2 := Aside0.mk (blk_below B3.out hb); have n3 := Aside0.mk (below_step HB.out hb); clear HQ B2 B3 HB hb; have HQ := n0; have B2 := n1; have B3 := n2; have HB := n3; clear n0 n1 n2 n3)
    | ((with_reducible refine gate_dst (N := 5) rfl ?_); refine box_event ?hg (N := 5) ?hd (cs := arr32 (List.replicate 64 0)) (t := 59) ?hr ?_; (case hd => rfl); (case hg => rfl); (case hr => first | (go_simp; done) | (go_simp; rfl));
                         intro g5 hg w1 hbox hb; have B5 := Aside0.mk hbox; have G5 := Aside0.mk (show W.heap.size ≤ g5 by rw [hg]; exact below_size HB.out); have N25 := Aside0.mk (show g2 ≠ g5 by rw [hg]; exact Nat.ne_of_lt (blk_lt B2.out)); have N35 := Aside0.mk (show g3 ≠ g5 by rw [hg]; exact Nat.ne_of_lt (blk_lt B3.out)); have n0 := Aside0.mk (Kd.Q_below HQ.out hb); have n1 := Aside0.mk (blk_below B2.out hb); have n2 := Aside0.mk (blk_below B3.out hb); have HB1 := Aside0.mk (below_step HB.out hb); clear HB B2 B3 HQ; have HB := HB1; have B2 := n1; have B3 := n2; have HQ := n0; clear HB1 n0 n1 n2; clear hbox hg hb)
    | ((with_reducible refine gate_store (p := 5) rfl ?_); refine w64_store rfl (.tmp 5) (.tmp 17) rfl g5 K64 (List.replicate 64 0) rfl rfl B5.out K64_len (by simp) ?_; intro w3 bk hoth hbel;
       have n0 : Aside0 ((Kd.int .u8).Q 5 w3 W.heap.size (fun _ => True) (.slice (some ⟨gp, op, none⟩) M.length cp) M) := ⟨Kd.Q_mono (Kd.Q_step (Kd.Q_types HQ.out B5.out (by decide)) (fun k hk _ => hoth k hk.2)) (fun _ _ => trivial)⟩;
       have n1 := Aside0.mk bk; have n2 := Aside0.mk ((hoth g2 N25.out).trans B2.out); have n4 := Aside0.mk ((hoth g3 N35.out).trans B3.out); have n3 := Aside0.mk (hbel _ _ HB.out G5.out); clear HQ B5 B3 B2 HB bk hoth hbel; have HQ := n0; have B5 := n1; have B2 := n2; have B3 := n4; have HB := n3; clear n0 n1 n2 n3 n4))
  obtain ⟨mp, hmp⟩ : ∃ k, M.length = k := ⟨_, rfl⟩
  have HMP := Aside0.mk hmp
  have HI : Aside0 (SumInv g2 g3 g5 gp op mp cp W M init8 init8 (M.drop (64 * 0)) w3) := ⟨⟨B2.out, B3.out, B5.out, hmp ▸ HQ.out, HB.out, .stay _ _, G2.out, G3.out, NE.out, Ne.symm N35.out⟩⟩
  rw [hmp]
  have hmlb := HML.out
  rw [hmp] at hmlb
  obtain ⟨hm64, hm0, hm41⟩ := hmlb
  have HM64 := Aside0.mk hm64
  have HCP : Aside0 (mp ≤ cp ∧ cp ≤ 9223372036854775807) := ⟨by
    obtain ⟨_, h1, _⟩ := Kd.Q_reads' HI.out.q
    obtain ⟨_, inner, ho, _⟩ := HI.out.q
    refine ⟨h1, ?_⟩
    rcases ho.2 with ⟨h0, _⟩ | ⟨g, off, cap, cur, he, _, _, _, hm, _⟩
    · omega
    · injection he with _ _ he
      subst he
      unfold maxLen at hm
      omega⟩
  clear B2 B3 B5 HQ HB hmp hm64 hm0
  go_loopw [6, 7, 8, 9, 10] (fun i _ _ _ _ wr => ∃ (k : Nat) (s : List Int), 64 * k ≤ mp ∧ i = .int .i64 ((64 * k : Nat) : Int) ∧ Aside0 (SumInv g2 g3 g5 gp op mp cp W M s s (M.drop (64 * k)) wr)) (fun i _ _ _ _ _ => mp - (intOf i).toNat)
  case atStart => exact ⟨0, init8, by omega, rfl, HI⟩
  case round =>
    obtain ⟨k, s, hk, rfl, HI1⟩ := hrel
    clear HI
    by_cases hlt : 64 * k < mp
    · have hk64 : 64 * k + 64 ≤ mp := by have := HM64.out; omega
      obtain ⟨at64, hat⟩ : ∃ a, 64 * k = a := ⟨_, rfl⟩
      have hsl : ∀ W : World, (Instr.slice 22 (.slice (some ⟨gp, op, none⟩) mp cp) (some (.int .i64 (at64 : Int))) (some (.int .i64 ((at64 : Int) + 64))) none).run Tryd.prog W = .ok (.slice (some ⟨gp, op + at64, none⟩) 64 (cp - at64)) W := fun W => cut_mid gp op mp cp at64 (by omega) HCP.out.1 HCP.out.2 W
      have hw64 : IntKind.i64.wrap ((at64 : Int) + 64) = (at64 : Int) + 64 := by rw [IntKind.wrap_i64]; omega
      obtain ⟨b, hb⟩ : ∃ b, (M.drop (64 * k)).take 64 = b := ⟨_, rfl⟩
      have HSP : Aside0 (SchPre gp (op + at64) b wr) := ⟨by rw [← hb, ← hat]; exact HI1.out.sch (by rw [HMP.out]; exact hk64) HMB.out⟩
      obtain ⟨ss, su⟩ := HI1.out.eats.state init8_ok.1 init8_ok.2
      have HSL := Aside0.mk ss
      have HSU := Aside0.mk su
      obtain ⟨ws, hws⟩ : ∃ ws, schedTo b 64 = ws := ⟨_, rfl⟩
      have HWS := Aside0.mk hws
      have HWL : Aside0 (ws.length = 64) := ⟨by rw [← hws]; exact schedTo_length b 64⟩
      have HWU : Aside0 (∀ x ∈ ws, U32 x) := ⟨by rw [← hws]; exact sched_u32 b 64⟩
      have HAT := Aside0.mk hat
      have HBB := Aside0.mk hb
      have hlt2 : at64 < mp := by omega
      rw [hat]
      clear ss su hws hb hat hlt hk64
      go_wp2_with (
        first
        | (go_at_call 37; (with_reducible refine (schedule_walk gp (op + at64) (cp - at64) b _ HSP.out).mono ?_); rintro e w4 ⟨rfl, hb⟩; rw [HWS.out]; have n1 := Aside0.mk (HI1.out.below hb); clear HI1 hb; have HI1 := n1; clear n1)
        | ((with_reducible refine gate_dst (N := 7) rfl ?_); refine box_event ?hg (N := 7) ?hd (cs := arr32 (List.replicate 64 0)) (t := 59) ?hr ?_; (case hd => rfl); (case hg => rfl); (case hr => first | (go_simp; done) | (go_simp; rfl));
                         intro g7 hg w1 hbox hb; have B7 := Aside0.mk hbox; have G7 := Aside0.mk (show W.heap.size ≤ g7 by rw [hg]; exact below_size HI1.out.hb); have N27 := Aside0.mk (show g2 ≠ g7 by rw [hg]; exact Nat.ne_of_lt (blk_lt HI1.out.b2)); have N37 := Aside0.mk (show g3 ≠ g7 by rw [hg]; exact Nat.ne_of_lt (blk_lt HI1.out.b3)); have N57 := Aside0.mk (show g5 ≠ g7 by rw [hg]; exact Nat.ne_of_lt (blk_lt HI1.out.b5)); have n0 := Aside0.mk (HI1.out.below hb); clear HI1; have HI1 := n0; clear n0; clear hbox hg hb)
        | ((with_reducible refine gate_store (p := 7) rfl ?_); refine w64_store rfl (.tmp 7) (.tmp 29) rfl g7 ws (List.replicate 64 0) rfl rfl B7.out HWL.out (by simp) ?_; intro w3 bk hoth hbel;
           have n0 := Aside0.mk (HI1.out.other B7.out (by decide) N27.out N37.out N57.out hoth (hbel _ _ HI1.out.hb G7.out)); have n1 := Aside0.mk bk; clear HI1 B7 bk hoth hbel; have HI1 := n0; have B7 := n1; clear n0 n1)
        | ((with_reducible refine gate_dst (N := 30) rfl ?_); refine wpList_load_row rfl 55 (.tmp 3) rfl g3 rfl 55 (arr32 s) (0, 0) _ HI1.out.b3 Tryd.underlying55 rfl (by rw [arr32_size, HSL.out]; exact info_r8) ?_)
        | ((with_reducible refine gate_dst (N := 8) rfl ?_); refine box_event ?hg (N := 8) ?hd (cs := arr32 (List.replicate 8 0)) (t := 55) ?hr ?_; (case hd => rfl); (case hg => rfl); (case hr => first | (go_simp; done) | (go_simp; rfl));
                         intro g8 hg w1 hbox hb; have B8 := Aside0.mk hbox; have G8 := Aside0.mk (show W.heap.size ≤ g8 by rw [hg]; exact below_size HI1.out.hb); have N28 := Aside0.mk (show g2 ≠ g8 by rw [hg]; exact Nat.ne_of_lt (blk_lt HI1.out.b2)); have N38 := Aside0.mk (show g3 ≠ g8 by rw [hg]; exact Nat.ne_of_lt (blk_lt HI1.out.b3)); have N58 := Aside0.mk (show g5 ≠ g8 by rw [hg]; exact Nat.ne_of_lt (blk_lt HI1.out.b5)); have N78 := Aside0.mk (show g7 ≠ g8 by rw [hg]; exact Nat.ne_of_lt (blk_lt B7.out)); have n1 := Aside0.mk (blk_below B7.out hb); have n0 := Aside0.mk (HI1.out.below hb); clear HI1 B7; have HI1 := n0; have B7 := n1; clear n0 n1; clear hbox hg hb)
        | ((with_reducible refine gate_store (p := 8) rfl ?_); refine r8_store rfl (.tmp 8) (.tmp 30) rfl g8 s (List.replicate 8 0) rfl rfl B8.out HSL.out (by simp) ?_; intro w3 bk hoth hbel;
           have n0 := Aside0.mk (HI1.out.other B8.out (by decide) N28.out N38.out N58.out hoth (hbel _ _ HI1.out.hb G8.out)); have n1 := Aside0.mk bk; have n2 := Aside0.mk ((hoth g7 N78.out).trans B7.out); clear HI1 B8 B7 bk hoth hbel; have HI1 := n0; have B8 := n1; have B7 := n2; clear n0 n1 n2))
      go_loopw [9] (fun i wr => ∃ t : Nat, t ≤ 64 ∧ i = .int .i64 (t : Int) ∧ Aside0 (wr.heap[g8]? = some (.cells (arr32 (rounds s ws t)) 55 (0, 0))) ∧ Aside0 (wr.heap[g7]? = some (.cells (arr32 ws) 59 (0, 0))) ∧ Aside0 (SumInv g2 g3 g5 gp op mp cp W M s s (M.drop (64 * k)) wr)) (fun i _ => 64 - (intOf i).toNat)
      case atStart => exact ⟨0, by omega, rfl, B8, B7, HI1⟩
      case round =>
        obtain ⟨t, ht, rfl, B8n, B7n, HIn⟩ := hrel
        clear B8 B7 HI1
        have B8 := B8n
        have B7 := B7n
        have HI1 := HIn
        clear B8n B7n HIn
        by_cases hlt64 : t < 64
        · have hvl := rounds_length s ws HSL.out t
          have hvu := rounds_u32 s ws HSL.out HSU.out t
          obtain ⟨v, hv⟩ : ∃ v, rounds s ws t = v := ⟨_, rfl⟩
          rw [hv] at hvl hvu B8
          have HVL := Aside0.mk hvl
          have HVU := Aside0.mk hvu
          have HV := Aside0.mk hv
          obtain ⟨kt, ekt⟩ : ∃ x, at_ K64 t = x := ⟨_, rfl⟩
          obtain ⟨wt, ewt⟩ : ∃ x, at_ ws t = x := ⟨_, rfl⟩
          have ck : wr.drew.cell? ⟨g5, t, none⟩ = some (.int .u32 kt) := by rw [← ekt]; exact cell_of_32 (blk_drew HI1.out.b5) t (by rw [K64_len]; exact hlt64)
          have cw : wr.drew.cell? ⟨g7, t, none⟩ = some (.int .u32 wt) := by rw [← ewt]; exact cell_of_32 (blk_drew B7.out) t (by rw [HWL.out]; exact hlt64)
          have i5 := fun W => idx_arr Tryd.underlying59 (by kernel_rfl) (by kernel_rfl) g5 t hlt64 W
          have i7 := fun W => idx_arr Tryd.underlying59 (by kernel_rfl) (by kernel_rfl) g7 t hlt64 W
          have EK := Aside0.mk ekt
          have EW := Aside0.mk ewt
          clear ekt ewt hv hvl hvu
          go_wp2
          refine start_ (n := 9) (S := fun w' => w'.heap[g8]? = some (.cells (arr32 v) 55 (0, 0)) ∧ w'.cell? ⟨g5, t, none⟩ = some (.int .u32 kt) ∧ w'.cell? ⟨g7, t, none⟩ = some (.int .u32 wt)) (ds := [8]) #[false, false, false, false, false, false, false, false, false] (by kernel_rfl) rfl rfl ⟨blk_drew B8.out, ck, cw⟩ (fun hHeld => ?_)
          refine with_tabW sum12_tab sum12_bits (fun HT_ HW_ => ?_)
          refine pure_ (i := 1) (N := (some 36)) (v := ?_) (a' := ?_) #[false, true, false, false, false, false, false, false, false] rfl rfl (any_of HT_.out (by kernel_rfl)) (fun _ _ _ h => h) (Or.inl ⟨by rfl, ?_⟩) ?_ ?_
          rotate_left
          · intro w'
            go_simp
            first | with_reducible rfl | (simp; done) | rfl
          rotate_left
          · simp only [Act.put, List.setIfInBounds_toArray, List.set_cons_zero, List.set_cons_succ, i64_w, i32_w]
            rfl
          refine pure_ (i := 2) (N := (some 37)) (v := ?_) (a' := ?_) #[false, true, true, false, false, false, false, false, false] rfl rfl (any_of HT_.out (by kernel_rfl)) (fun _ _ _ h => h) (Or.inl ⟨by rfl, ?_⟩) ?_ ?_
          rotate_left
          · intro w'
            go_simp
            first | with_reducible rfl | (simp; done) | rfl
          rotate_left
          · simp only [Act.put, List.setIfInBounds_toArray, List.set_cons_zero, List.set_cons_succ, i64_w, i32_w]
            rfl
          refine pure_ (i := 4) (N := (some 39)) (v := ?_) (a' := ?_) #[false, true, true, false, true, false, false, false, false] rfl rfl (any_of HT_.out (by kernel_rfl)) (fun _ _ _ h => h) (Or.inl ⟨by rfl, ?_⟩) ?_ ?_
          rotate_left
          · intro w'
            go_simp
            first | with_reducible rfl | (simp; done) | rfl
          rotate_left
          · simp only [Act.put, List.setIfInBounds_toArray, List.set_cons_zero, List.set_cons_succ, i64_w, i32_w]
            rfl
          refine pure_ (i := 5) (N := (some 40)) (v := ?_) (a' := ?_) #[false, true, true, false, true, true, false, false, false] rfl rfl (any_of HT_.out (by kernel_rfl)) (fun _ _ _ h => h) (Or.inl ⟨by rfl, ?_⟩) ?_ ?_
          rotate_left
          · intro w'
            go_simp
            first | with_reducible rfl | (simp; done) | rfl
          rotate_left
          · simp only [Act.put, List.setIfInBounds_toArray, List.set_cons_zero, List.set_cons_succ, i64_w, i32_w]
            rfl
          refine take_ (i := 3) (N := (some 38)) (v := ?_) (a' := ?_) #[false, true, true, true, true, true, false, false, false] rfl rfl (take_ofW HT_.out HW_.out (by kernel_rfl)) (fun _ _ _ h => h) (Or.inl ⟨by rfl, ?_⟩) hHeld ?_ ?_
          rotate_left
          · rintro w' ⟨s0, s1, s2⟩
            go_simp
            with_reducible rfl
          rotate_left
          · simp only [Act.put, List.setIfInBounds_toArray, List.set_cons_zero, List.set_cons_succ, i64_w, i32_w]
            rfl
          refine take_ (i := 6) (N := (some 41)) (v := ?_) (a' := ?_) #[false, true, true, true, true, true, true, false, false] rfl rfl (take_ofW HT_.out HW_.out (by kernel_rfl)) (fun _ _ _ h => h) (Or.inl ⟨by rfl, ?_⟩) hHeld ?_ ?_
          rotate_left
          · rintro w' ⟨s0, s1, s2⟩
            go_simp
            with_reducible rfl
          rotate_left
          · simp only [Act.put, List.setIfInBounds_toArray, List.set_cons_zero, List.set_cons_succ, i64_w, i32_w]
            rfl
          refine take_ (i := 0) (N := (some 35)) (v := ?_) (a' := ?_) #[true, true, true, true, true, true, true, false, false] rfl rfl (take_ofW HT_.out HW_.out (by kernel_rfl)) (fun _ _ _ h => h) (Or.inl ⟨by rfl, ?_⟩) hHeld ?_ ?_
          rotate_left
          · rintro w' ⟨s0, s1, s2⟩
            refine r8_load (x := .tmp 8) ?_ ?_ s0 HVL.out <;> rfl
          rotate_left
          · simp only [Act.put, List.setIfInBounds_toArray, List.set_cons_zero, List.set_cons_succ, i64_w, i32_w]
            rfl
          refine one_ (i := 7) (N := (some 42)) #[true, true, true, true, true, true, true, true, false] rfl rfl (one_of HT_.out (by kernel_rfl)) (by decide) (fun K hK => ?_)
          refine goes_ Tryd.func38 (by kernel_rfl) rfl #[.agg (arr32 v), .int .u32 kt, .int .u32 wt] (by rfl) rfl rfl (by (try simp only [List.map_toArray, List.map_cons, List.map_nil]); first | done | rfl) ?_
          with_reducible refine (round_walk v kt wt HVL.out HVU.out _).mono ?_
          rintro e0 wx ⟨rfl, hb⟩
          refine ⟨_, rfl, ?_⟩
          have HX := Aside0.mk hb
          clear hb
          refine hK.out _ _ ⟨blk_below (blk_drew B8.out) HX.out, (HX.out.cell (World.block_lt_of_cell? _ _ ck)).trans ck, (HX.out.cell (World.block_lt_of_cell? _ _ cw)).trans cw⟩ (fun hHeld => ?_)
          clear hK K
          refine norm_ (a' := ?_) ?_ ?_
          rotate_left
          · show Act.put _ (some 42) _ = _
            simp only [Act.put, List.setIfInBounds_toArray, List.set_cons_zero, List.set_cons_succ, i64_w, i32_w]
            rfl
          refine last_ (i := 8) (N := none) #[true, true, true, true, true, true, true, true, true] rfl rfl (one_of HT_.out (by kernel_rfl)) (by decide) (fun K hK => ?_)
          rw [if_pos (by rfl)]
          refine wp_store_row 55 (.tmp 8) (.tmp 42) rfl g8 (arr32 (rnd v kt wt)) rfl rfl 55 (arr32 v) (blk_below (blk_drew B8.out) HX.out) (by rw [arr32_size]; exact info_r8) (by rw [arr32_size, arr32_size, HVL.out]; rfl) (by simp [arr32, Value.oneCell']) ?_
          refine hK.out _ _ ?_
          clear hK K
          refine done_ (done_of HT_.out (by kernel_rfl)) ?_
          go_wp2
          refine ⟨⟨t + 1, by omega, by simp, ⟨?_⟩, ⟨?_⟩, ⟨?_⟩⟩, by simp [intOf]; omega⟩
          · have e : rounds s ws (t + 1) = rnd v kt wt := by show rnd (rounds s ws t) _ _ = _; rw [HV.out, EK.out, EW.out]
            rw [e]
            exact setRow_heap _ g8 _ _ _ _ (blk_below (blk_drew B8.out) HX.out)
          · exact (setRow_other _ g8 g7 _ N78.out).trans (blk_below (blk_drew B7.out) HX.out)
          · exact (HI1.out.drew.below HX.out).other (blk_below (blk_drew B8.out) HX.out) (by decide) N28.out N38.out N58.out (fun k hk => setRow_other _ g8 k _ hk) (below_setRow (HI1.out.drew.below HX.out).hb G8.out _)
        · obtain rfl : t = 64 := by omega
          have hvl := rounds_length s ws HSL.out 64
          obtain ⟨v, hv⟩ : ∃ v, rounds s ws 64 = v := ⟨_, rfl⟩
          have HCPR : Aside0 (compress s b = outTo s v 8) := ⟨by
            unfold compress outTo
            rw [HWS.out, hv]
            apply List.map_congr_left
            intro i hi
            rw [if_pos (List.mem_range.1 hi)]⟩
          rw [hv] at hvl B8
          have HVL := Aside0.mk hvl
          have HI2 : Aside0 (SumInv g2 g3 g5 gp op mp cp W M (outTo s v 0) s (M.drop (64 * k)) wr) := ⟨by rw [outTo_zero s v HSL.out]; exact HI1.out⟩
          clear hv hvl HI1 B7
          go_wp2
          go_loopw [10] (fun i wr => ∃ t : Nat, t ≤ 8 ∧ i = .int .i64 (t : Int) ∧ Aside0 (wr.heap[g8]? = some (.cells (arr32 v) 55 (0, 0))) ∧ Aside0 (SumInv g2 g3 g5 gp op mp cp W M (outTo s v t) s (M.drop (64 * k)) wr)) (fun i _ => 8 - (intOf i).toNat)
          case atStart => exact ⟨0, by omega, rfl, B8, HI2⟩
          case round =>
            obtain ⟨t, ht, rfl, B8n, HIn⟩ := hrel
            clear B8 HI2
            have B8 := B8n
            have HI2 := HIn
            clear B8n HIn
            by_cases ht8 : t < 8
            · obtain ⟨a, ea⟩ : ∃ x, at_ s t = x := ⟨_, rfl⟩
              obtain ⟨x, ex⟩ : ∃ x, at_ v t = x := ⟨_, rfl⟩
              have ca : wr.drew.cell? ⟨g3, t, none⟩ = some (.int .u32 a) := by rw [← ea, ← outTo_at s v t ht8]; exact cell_of_32 (blk_drew HI2.out.b3) t (by rw [outTo_length]; exact ht8)
              have cx : wr.drew.cell? ⟨g8, t, none⟩ = some (.int .u32 x) := by rw [← ex]; exact cell_of_32 (blk_drew B8.out) t (by rw [HVL.out]; exact ht8)
              have hfz : wr.drew.frozen? ⟨g3, t, none⟩ = false := blk_frozen (blk_drew HI2.out.b3) t
              have i3 := fun W => idx_arr Tryd.underlying55 (by kernel_rfl) (by kernel_rfl) g3 t ht8 W
              have i8 := fun W => idx_arr Tryd.underlying55 (by kernel_rfl) (by kernel_rfl) g8 t ht8 W
              have EA := Aside0.mk ea
              have EX := Aside0.mk ex
              clear ea ex
              go_wp2
              refine start_ (n := 9) (S := fun w' => w'.cell? ⟨g3, t, none⟩ = some (.int .u32 a) ∧ w'.cell? ⟨g8, t, none⟩ = some (.int .u32 x)) (ds := [8]) #[false, false, false, false, false, false, false, false, false] (by kernel_rfl) rfl rfl ⟨ca, cx⟩ (fun hHeld => ?_)
              refine with_tabW sum16_tab sum16_bits (fun HT_ HW_ => ?_)
              refine pure_ (i := 0) (N := (some 47)) (v := ?_) (a' := ?_) #[true, false, false, false, false, false, false, false, false] rfl rfl (any_of HT_.out (by kernel_rfl)) (fun _ _ _ h => h) (Or.inl ⟨by rfl, ?_⟩) ?_ ?_
              rotate_left
              · intro w'
                go_simp
                first | with_reducible rfl | (simp; done) | rfl
              rotate_left
              · simp only [Act.put, List.setIfInBounds_toArray, List.set_cons_zero, List.set_cons_succ, i64_w, i32_w]
                rfl
              refine pure_ (i := 1) (N := (some 48)) (v := ?_) (a' := ?_) #[true, true, false, false, false, false, false, false, false] rfl rfl (any_of HT_.out (by kernel_rfl)) (fun _ _ _ h => h) (Or.inl ⟨by rfl, ?_⟩) ?_ ?_
              rotate_left
              · intro w'
                go_simp
                first | with_reducible rfl | (simp; done) | rfl
              rotate_left
              · simp only [Act.put, List.setIfInBounds_toArray, List.set_cons_zero, List.set_cons_succ, i64_w, i32_w]
                rfl
              refine pure_ (i := 3) (N := (some 50)) (v := ?_) (a' := ?_) #[true, true, false, true, false, false, false, false, false] rfl rfl (any_of HT_.out (by kernel_rfl)) (fun _ _ _ h => h) (Or.inl ⟨by rfl, ?_⟩) ?_ ?_
              rotate_left
              · intro w'
                go_simp
                first | with_reducible rfl | (simp; done) | rfl
              rotate_left
              · simp only [Act.put, List.setIfInBounds_toArray, List.set_cons_zero, List.set_cons_succ, i64_w, i32_w]
                rfl
              refine pure_ (i := 4) (N := (some 51)) (v := ?_) (a' := ?_) #[true, true, false, true, true, false, false, false, false] rfl rfl (any_of HT_.out (by kernel_rfl)) (fun _ _ _ h => h) (Or.inl ⟨by rfl, ?_⟩) ?_ ?_
              rotate_left
              · intro w'
                go_simp
                first | with_reducible rfl | (simp; done) | rfl
              rotate_left
              · simp only [Act.put, List.setIfInBounds_toArray, List.set_cons_zero, List.set_cons_succ, i64_w, i32_w]
                rfl
              refine take_ (i := 2) (N := (some 49)) (v := ?_) (a' := ?_) #[true, true, true, true, true, false, false, false, false] rfl rfl (take_ofW HT_.out HW_.out (by kernel_rfl)) (fun _ _ _ h => h) (Or.inl ⟨by rfl, ?_⟩) hHeld ?_ ?_
              rotate_left
              · rintro w' ⟨s0, s1⟩
                go_simp
                with_reducible rfl
              rotate_left
              · simp only [Act.put, List.setIfInBounds_toArray, List.set_cons_zero, List.set_cons_succ, i64_w, i32_w]
                rfl
              refine take_ (i := 5) (N := (some 52)) (v := ?_) (a' := ?_) #[true, true, true, true, true, true, false, false, false] rfl rfl (take_ofW HT_.out HW_.out (by kernel_rfl)) (fun _ _ _ h => h) (Or.inl ⟨by rfl, ?_⟩) hHeld ?_ ?_
              rotate_left
              · rintro w' ⟨s0, s1⟩
                go_simp
                with_reducible rfl
              rotate_left
              · simp only [Act.put, List.setIfInBounds_toArray, List.set_cons_zero, List.set_cons_succ, i64_w, i32_w]
                rfl
              refine pure_ (i := 6) (N := (some 53)) (v := ?_) (a' := ?_) #[true, true, true, true, true, true, true, false, false] rfl rfl (any_of HT_.out (by kernel_rfl)) (fun _ _ _ h => h) (Or.inl ⟨by rfl, ?_⟩) ?_ ?_
              rotate_left
              · intro w'
                go_simp
                first | with_reducible rfl | (simp; done) | rfl
              rotate_left
              · simp only [Act.put, List.setIfInBounds_toArray, List.set_cons_zero, List.set_cons_succ, i64_w, i32_w]
                rfl
              refine pure_ (i := 7) (N := (some 54)) (v := ?_) (a' := ?_) #[true, true, true, true, true, true, true, true, false] rfl rfl (any_of HT_.out (by kernel_rfl)) (fun _ _ _ h => h) (Or.inl ⟨by rfl, ?_⟩) ?_ ?_
              rotate_left
              · intro w'
                go_simp
                first | with_reducible rfl | (simp; done) | rfl
              rotate_left
              · simp only [Act.put, List.setIfInBounds_toArray, List.set_cons_zero, List.set_cons_succ, i64_w, i32_w]
                rfl
              refine last_ (i := 8) (N := none) #[true, true, true, true, true, true, true, true, true] rfl rfl (one_of HT_.out (by kernel_rfl)) (by decide) (fun K hK => ?_)
              refine skip_ (w1 := ?_) (by rfl) rfl ?_ ?_
              rotate_left
              · go_simp
                rfl
              refine hK.out _ _ ?_
              clear hK K
              refine done_ (done_of HT_.out (by kernel_rfl)) ?_
              go_wp2
              refine ⟨⟨t + 1, by omega, by simp, ⟨?_⟩, ⟨?_⟩⟩, by simp [intOf]; omega⟩
              · exact (Below.heap_setCell _ ⟨g3, t, none⟩ _ g8 (Ne.symm N38.out)).trans (blk_drew B8.out)
              · rw [← outTo_set s v t ht8, EA.out, EX.out]
                have := (HI2.out.drew).put (t := t) (y := add32 a x)
                unfold add32 at this
                rw [IntKind.wrap_u32] at this
                unfold add32
                rw [IntKind.wrap_u32]
                exact this
            · obtain rfl : t = 8 := by omega
              have HI3 : Aside0 (SumInv g2 g3 g5 gp op mp cp W M (compress s b) (compress s b) (M.drop (64 * (k + 1))) wr) := ⟨by
                have h := HI2.out
                rw [← HCPR.out] at h
                have e1 : M.drop (64 * (k + 1)) = (M.drop (64 * k)).drop 64 := by rw [List.drop_drop]; congr 1
                have hl64 : 64 ≤ (M.drop (64 * k)).length := by rw [List.length_drop, HMP.out]; have := HM64.out; have := HAT.out; omega
                have h2 := h.eats.trans (.one hl64)
                rw [HBB.out, ← e1] at h2
                exact ⟨h.b2, h.b3, h.b5, h.q, h.hb, h2, h.h2, h.h3, h.n23, h.n53⟩⟩
              have hend : at64 + 64 ≤ mp := by have := HM64.out; have := HAT.out; omega
              have hat2 := HAT.out
              clear HI2
              go_wp2
              refine ⟨⟨k + 1, compress s b, by omega, by simp; omega, HI3⟩, by simp [intOf]; omega⟩
    · have hmk : M.drop (64 * k) = [] := List.drop_eq_nil_of_le (by rw [HMP.out]; omega)
      have HSO : Aside0 (shaOf l = bytes32 s) := ⟨sha_of_eats (by rw [HM.out, ← hmk]; exact HI1.out.eats)⟩
      have HSS : Aside0 (s.length = 8 ∧ ∀ x ∈ s, U32 x) := ⟨HI1.out.eats.state init8_ok.1 init8_ok.2⟩
      have B2 := Aside0.mk HI1.out.b2
      have B3 := Aside0.mk HI1.out.b3
      have HB := Aside0.mk HI1.out.hb
      clear hmk HI1
      go_wp2_with (
        first
        | ((with_reducible refine gate_dst (N := 11) rfl ?_); refine box_event ?hg (N := 11) ?hd (cs := arr (digTo s 0)) (t := 25) ?hr ?_; (case hd => rfl); (case hg => rfl); (case hr => first | (go_simp; done) | (go_simp; rfl));
                         intro g11 hg w1 hbox hb; have HI : Aside0 (w1.heap[g11]? = some (.cells (arr (digTo s (4 * 0))) 25 (0, 0)) ∧ w1.heap[g2]? = some (.cells (arr (List.replicate 32 0)) 25 (0, 0)) ∧ w1.heap[g3]? = some (.cells (arr32 s) 55 (0, 0)) ∧ Below W.heap.size W w1) := ⟨hbox, blk_below B2.out hb, blk_below B3.out hb, below_step HB.out hb⟩; have G11 := Aside0.mk (show W.heap.size ≤ g11 by rw [hg]; exact below_size HB.out); have N211 := Aside0.mk (show g2 ≠ g11 by rw [hg]; exact Nat.ne_of_lt (blk_lt B2.out)); have N311 := Aside0.mk (show g3 ≠ g11 by rw [hg]; exact Nat.ne_of_lt (blk_lt B3.out)); clear hbox hg hb B2 B3 HB))
      go_loopw [12, 13] (fun i _ wr => ∃ q : Nat, q ≤ 8 ∧ i = .int .i64 (q : Int) ∧ Aside0 (wr.heap[g11]? = some (.cells (arr (digTo s (4 * q))) 25 (0, 0)) ∧ wr.heap[g2]? = some (.cells (arr (List.replicate 32 0)) 25 (0, 0)) ∧ wr.heap[g3]? = some (.cells (arr32 s) 55 (0, 0)) ∧ Below W.heap.size W wr)) (fun i _ _ => 8 - (intOf i).toNat)
      case atStart => exact ⟨0, by omega, rfl, HI⟩
      case round =>
        obtain ⟨i, hi, rfl, HI1⟩ := hrel
        clear HI
        by_cases hi8 : i < 8
        · go_wp2
          go_loopw [13] (fun j wr => ∃ q : Nat, q ≤ 4 ∧ j = .int .i64 (q : Int) ∧ Aside0 (wr.heap[g11]? = some (.cells (arr (digTo s (4 * i + q))) 25 (0, 0)) ∧ wr.heap[g2]? = some (.cells (arr (List.replicate 32 0)) 25 (0, 0)) ∧ wr.heap[g3]? = some (.cells (arr32 s) 55 (0, 0)) ∧ Below W.heap.size W wr)) (fun j _ => 4 - (intOf j).toNat)
          case atStart => exact ⟨0, by omega, rfl, HI1⟩
          case round =>
            obtain ⟨j, hj, rfl, HI⟩ := hrel
            clear HI1
            by_cases hj4 : j < 4
            · obtain ⟨x, ex⟩ : ∃ x, at_ s i = x := ⟨_, rfl⟩
              obtain ⟨q, hq⟩ : ∃ q, 4 * i + j = q := ⟨_, rfl⟩
              have c3 : wr.cell? ⟨g3, i, none⟩ = some (.int .u32 x) := by rw [← ex]; exact cell_of_32 HI.out.2.2.1 i (by rw [HSS.out.1]; omega)
              have hfz : wr.frozen? ⟨g11, q, none⟩ = false := blk_frozen HI.out.1 q
              have cd : wr.cell? ⟨g11, q, none⟩ = some (.int .u8 (rd (digTo s q) (q : Int))) := (blk_cell (hq ▸ HI.out.1) q).trans (arr_get _ q (by rw [digTo_len s q (by omega)]; omega))
              have i3 := fun W => idx_arr Tryd.underlying55 (by kernel_rfl) (by kernel_rfl) g3 i hi8 W
              have hw4 : IntKind.i64.wrap (4 * (i : Int)) = 4 * (i : Int) := by rw [IntKind.wrap_i64]; omega
              have hwq : IntKind.i64.wrap (4 * (i : Int) + (j : Int)) = (q : Int) := by rw [IntKind.wrap_i64]; omega
              have hw8 : IntKind.i64.wrap (8 * (j : Int)) = 8 * (j : Int) := by rw [IntKind.wrap_i64]; omega
              have hw24 : IntKind.i64.wrap (24 - 8 * (j : Int)) = 24 - 8 * (j : Int) := by rw [IntKind.wrap_i64]; omega
              have hu24 : IntKind.u64.wrap (24 - 8 * (j : Int)) = 24 - 8 * (j : Int) := by rw [IntKind.wrap_u64]; omega
              have h24 : 0 ≤ 24 - 8 * (j : Int) := by omega
              have hid := fun W => idx_dig g11 q (by omega) W
              have EX := Aside0.mk ex
              have HQ := Aside0.mk hq
              clear ex hq
              go_wp2
              have hq := HQ.out
              refine ⟨⟨j + 1, by omega, by simp, ⟨?_, ?_, ?_, ?_⟩⟩, by simp [intOf]; omega⟩
              · have e := digTo_set s q (by omega)
                rw [show q / 4 = i by omega, show q % 4 = j by omega, EX.out] at e
                rw [show 4 * i + (j + 1) = q + 1 by omega, ← e]
                refine blk_put (hq ▸ HI.out.1) q _ ?_
                simp [arr, List.map_set]
              · exact (Below.heap_setCell _ ⟨g11, q, none⟩ _ g2 N211.out).trans HI.out.2.1
              · exact (Below.heap_setCell _ ⟨g11, q, none⟩ _ g3 N311.out).trans HI.out.2.2.1
              · exact HI.out.2.2.2.setCell (p := ⟨g11, q, none⟩) G11.out _
            · obtain rfl : j = 4 := by omega
              go_wp2
              refine ⟨⟨i + 1, by omega, by simp, ⟨HI.out⟩⟩, by simp [intOf]; omega⟩
        · obtain rfl : i = 8 := by omega
          have B11 : Aside0 (wr.heap[g11]? = some (.cells (arr (shaOf l)) 25 (0, 0))) := ⟨by rw [HSO.out, ← digTo_end s]; exact HI1.out.1⟩
          have B2 := Aside0.mk HI1.out.2.1
          have HB := Aside0.mk HI1.out.2.2.2
          clear HI1
          go_wp2_with (
            first
            | ((with_reducible refine gate_dst (N := 77) rfl ?_); refine wpList_load_row rfl 25 (.tmp 11) rfl g11 rfl 25 (arr (shaOf l)) (0, 0) _ B11.out Tryd.underlying25 rfl (by rw [arr_size, sha_len]; exact info_dig) ?_)
            | ((with_reducible refine gate_store (p := 2) rfl ?_); refine dig_store rfl (.tmp 2) (.tmp 77) rfl g2 (shaOf l) (List.replicate 32 0) rfl rfl B2.out (sha_len _) (by simp) ?_; intro w5 bk hoth hbel; have BD5 := Aside0.mk bk; have HB5 := Aside0.mk (hbel _ _ HB.out G2.out); clear bk hoth hbel))
          refine bodyPost_ret (results_c rfl _ _ g2 25 (arr (shaOf l)) (0, 0) _ rfl BD5.out Tryd.underlying25 rfl (by rw [arr_size, sha_len]; exact info_dig)) rfl ?_
          exact ⟨rfl, HB5.out⟩

end Go.Proofs.YtoaimcobcgomjaaDoor.Q
