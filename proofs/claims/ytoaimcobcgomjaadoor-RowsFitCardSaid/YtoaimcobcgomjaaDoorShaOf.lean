/-
  sha.Of: the digest of parts: the contract, by hand.
-/
import Derived.Test.YtoaimcobcgomjaaDoorShaApp
namespace Go.Proofs.YtoaimcobcgomjaaDoor.Q
open Go.RowKit Go.Proofs.YtoaimcobcgomjaaDoorW.PrintWords Go.Proofs.YtoaimcobcgomjaaDoorW.PrintLast Go.Proofs.YtoaimcobcgomjaaDoorW.PrintMore
set_option linter.unusedVariables false
set_option linter.unusedSimpArgs false

/-- The table k lies where it was laid. -/
def KT (W : World) : Prop := ∀ j, j < 64 → W.cell? ⟨0, j, none⟩ = some (.int .u32 (at_ K64 j))
theorem KT.lt {W : World} (h : KT W) : 0 < W.heap.size := World.block_lt_of_cell? W _ (h 0 (by omega))
theorem KT.below {W w : World} (h : KT W) {base : Nat} (hb0 : 0 < base) (hb : Below base W w) : KT w := fun j hj => (hb.cell hb0).trans (h j hj)
theorem flat_take (ps : List (List Int)) (j : Nat) (h : j < ps.length) : (ps.take (j + 1)).flatten = (ps.take j).flatten ++ ps[j] := by
  rw [List.take_succ_eq_append_getElem h, List.flatten_append]
  simp
theorem flat_take_len (ps : List (List Int)) (j : Nat) : (ps.take j).flatten.length ≤ ps.flatten.length := by
  conv => rhs; rw [← List.take_append_drop j ps]
  rw [List.flatten_append, List.length_append]
  omega
/-- A part's place. -/
theorem idx_part (ad : Addr) (n cap i : Nat) (hi : i < n) (W : World) : (Instr.indexAt 29 (.slice (some ad) n cap) (.int .i64 (i : Int))).run Tryd.prog W = .ok (.pointer (some (ad.add i))) W := by
  have hel : Tryd.prog.elem 29 = 22 := by kernel_rfl
  obtain ⟨j, hj, h1, h2, h3⟩ := info_parts info22
  rw [run_indexAt_slice W 29 _ _ _ _ _ (by rw [hel]; exact Tryd.underlying29)]
  simp [hi, hel, sizeOf, typeInfo, hj, h2, Result.andThen]
/-- What holds at the head of the loop over the parts. -/
structure OfInv (gd gs : Nat) (W : World) (m s rs : List Int) (v : Value) (w : World) : Prop where
  bd : w.heap[gd]? = some (.cells (arr (List.replicate 32 0)) 25 (0, 0))
  bs : w.heap[gs]? = some (.cells (arr32 s) 56 (0, 0))
  q : (Kd.int .u8).Q 5 w W.heap.size (fun _ => True) v rs
  hb : Below W.heap.size W w
  eats : Eats init8 m s rs
  mem : ∀ x ∈ rs, 0 ≤ x ∧ x < 256
  hd : W.heap.size ≤ gd
  hs : W.heap.size ≤ gs
  ne : gd ≠ gs

theorem OfInv.cut {gd gs : Nat} {W w : World} {m s rs : List Int} {v : Value} (h : OfInv gd gs W m s rs v w) (hk : KT W) (h64 : 64 ≤ rs.length) :
    ∃ g o cb v', v = .slice (some ⟨g, o, none⟩) rs.length cb ∧ rs.length ≤ cb ∧ BlkPre gs g o s (rs.take 64) w ∧
      (∀ W' : World, (Instr.slice 22 (.slice (some ⟨g, o, none⟩) rs.length cb) (some (.int .i64 64)) none none).run Tryd.prog W' = .ok v' W') ∧
      (∀ W' : World, (Instr.slice 22 (.slice (some ⟨g, o, none⟩) rs.length cb) none (some (.int .i64 64)) none).run Tryd.prog W' = .ok (.slice (some ⟨g, o, none⟩) 64 cb) W') ∧
      ∀ w4, w4.heap[gs]? = some (.cells (arr32 (compress s (rs.take 64))) 56 (0, 0)) → w.heap.size ≤ w4.heap.size → (∀ k, k < w.heap.size → k ≠ gs → w4.heap[k]? = w.heap[k]?) → (∀ (B : Nat) (w0 : World), Below B w0 w → B ≤ gs → Below B w0 w4) →
        OfInv gd gs W m (compress s (rs.take 64)) (rs.drop 64) v' w4 := by
  obtain ⟨g, o, cb, rfl, hbg, hgl, cells, hc⟩ := Kd.Q_form h.q (by omega)
  obtain ⟨_, hlc, hrd⟩ := Kd.Q_reads' h.q
  obtain ⟨ss, su⟩ := h.eats.state init8_ok.1 init8_ok.2
  have hgs : g ≠ gs := by
    rintro rfl
    have := h.bs
    rw [hc] at this
    injection this with this
    injection this with _ this
    exact absurd this (by decide)
  have hpos : 0 < W.heap.size := hk.lt
  refine ⟨g, o, cb, .slice (if cb = 64 then some ⟨g, o, none⟩ else (some (⟨g, o, none⟩ : Addr)).map (·.add (64 * 1))) (rs.length - 64) (cb - 64), rfl, hlc, ⟨h.bs, fun j hj => ?_, hgs, hk.below hpos h.hb, by have := h.hs; omega, ss, su, by rw [List.length_take]; omega, fun x hx => h.mem x (List.mem_of_mem_take hx)⟩, ?_, ?_, ?_⟩
  · obtain ⟨ad, he, hy⟩ := Kd.at_int hrd (j : Int) (by omega) (by omega)
    cases he
    rw [Int.toNat_natCast] at hy
    have e1 : (⟨g, o, none⟩ : Addr).add j = ⟨g, o + j, none⟩ := by simp [Addr.add]
    rw [← e1, hy]
    congr 2
    have hjl : j < rs.length := by omega
    simp [at_, rd, hj, hjl]
  · obtain ⟨i, hi, h1, h2, h3⟩ := info_parts info5
    exact cut_from 22 5 .i64 Tryd.underlying22 hi 1 h2 (some ⟨g, o, none⟩) rs.length cb 64 (by omega) (by omega)
  · obtain ⟨i, hi, h1, h2, h3⟩ := info_parts info5
    exact cut_to 22 5 .i64 Tryd.underlying22 hi (some ⟨g, o, none⟩) rs.length cb 64 (by omega) (by omega) hlc
  · intro w4 hbs hsz hoth hbel
    have q1 := Kd.Q_mono (Kd.Q_step (Kd.Q_types h.q h.bs (by decide)) (fun k hk hlt => hoth k hlt hk.2)) (ok' := fun _ => True) (fun _ _ => trivial)
    exact ⟨(hoth gd (blk_lt h.bd) h.ne).trans h.bd, hbs, Kd.Q_drop q1 h64, hbel _ _ h.hb h.hs, h.eats.trans (.one h64), fun x hx => h.mem x (List.mem_of_mem_drop hx), h.hd, h.hs, h.ne⟩
def lenV (v : Value) : Nat := match v with | .slice _ n _ => n | _ => 0
theorem OfInv.drew {gd gs : Nat} {W w : World} {m s rs : List Int} {v : Value} (h : OfInv gd gs W m s rs v w) : OfInv gd gs W m s rs v w.drew :=
  ⟨blk_drew h.bd, blk_drew h.bs, Kd.Q_drew h.q, below_drew h.hb, h.eats, h.mem, h.hd, h.hs, h.ne⟩
theorem OfInv.grow {gd gs : Nat} {W w w1 : World} {m s rs p : List Int} {v v1 : Value} (h : OfInv gd gs W m s rs v w) (q : (Kd.int .u8).Q 5 w1 W.heap.size (fun _ => True) v1 (rs ++ p)) (hb : Below W.heap.size W w1) (hg : w.grownBy w1 v.ownBlock) (hp : ∀ x ∈ p, 0 ≤ x ∧ x < 256) : OfInv gd gs W (m ++ p) s (rs ++ p) v1 w1 :=
  ⟨blk_grown h.bd hg (Kd.Q_ne h.q h.bd (by decide)), blk_grown h.bs hg (Kd.Q_ne h.q h.bs (by decide)), q, hb, h.eats.append p, fun x hx => (List.mem_append.1 hx).elim (h.mem x) (hp x), h.hd, h.hs, h.ne⟩
theorem OfInv.lenV {gd gs : Nat} {W w : World} {m s rs : List Int} {v : Value} (h : OfInv gd gs W m s rs v w) : lenV v = rs.length := by
  obtain ⟨A, c, rfl, _⟩ := Kd.Q_slice h.q
  rfl
theorem len8_take (x : Int) (q : Nat) (hq : q < 8) : (len8 x).take (q + 1) = (len8 x).take q ++ [x / 2 ^ (56 - 8 * q) % 256] := by
  rw [List.take_succ_eq_append_getElem (by rw [len8_len]; exact hq)]
  congr 1
  simp [len8]
/-- The digest's bytes, the first q of them. -/
def digTo (s : List Int) (q : Nat) : List Int := (bytes32 s).take q ++ List.replicate (32 - q) 0
theorem digTo_len (s : List Int) (q : Nat) (hq : q ≤ 32) : (digTo s q).length = 32 := by simp [digTo, bytes32_len]; omega
theorem digTo_set (s : List Int) (q : Nat) (hq : q < 32) : (digTo s q).set q (at_ s (q / 4) / 2 ^ (24 - 8 * (q % 4)) % 256) = digTo s (q + 1) := by
  unfold digTo
  have h32 : 32 - q = (32 - (q + 1)) + 1 := by omega
  have hl : ((bytes32 s).take q).length = q := by rw [List.length_take, bytes32_len]; omega
  rw [h32, List.replicate_succ, List.set_append_right _ _ (by omega), hl, Nat.sub_self, List.set_cons_zero, List.take_succ_eq_append_getElem (by rw [bytes32_len]; exact hq), List.append_assoc]
  congr 1
  simp [bytes32]
theorem digTo_end (s : List Int) : digTo s 32 = bytes32 s := by simp [digTo, List.take_of_length_le, bytes32_len]
theorem idx_dig (g i : Nat) (hi : i < 32) (W : World) : (Instr.indexAt 25 (.pointer (some ⟨g, 0, none⟩)) (.int .i64 (i : Int))).run Tryd.prog W = .ok (.pointer (some ⟨g, i, none⟩)) W := by
  have hel : Tryd.prog.elem 25 = 5 := by kernel_rfl
  have hn : Tryd.prog.arrayLen 25 = 32 := by kernel_rfl
  obtain ⟨j, hj, h1, h2, h3⟩ := info_parts info5
  rw [run_indexAt_array W 25 _ _ _ (by rw [hn, hel]; exact Tryd.underlying25)]
  have hi2 : (i : Int) < 32 := by omega
  simp [hi, hi2, hel, hn, sizeOf, typeInfo, hj, h2, Result.andThen, add_zero_plain]
set_option maxHeartbeats 16000000 in
set_option maxRecDepth 100000 in
theorem of_walk (A : Option Addr) (n c : Nat) (ps : List (List Int)) (W : World) (hR : (Kd.slice 5 (Kd.int .u8)).C W A n ps) (hm : ∀ p ∈ ps, ∀ x ∈ p, 0 ≤ x ∧ x < 256) (hl : ps.flatten.length < 1099511627776) (hk : KT W) :
    Calls Tryd.prog 13 #[.slice A n c] W fun e W' => e = .returned (.agg (arr (shaOf ps.flatten))) ∧ Below W.heap.size W W' := by
  have HR := Aside0.mk hR
  have HM := Aside0.mk hm
  have HL := Aside0.mk hl
  have HK := Aside0.mk hk
  have HB := Aside0.mk (Below.refl W.heap.size W)
  have hn : ps.length = n := hR.1
  have HN := Aside0.mk hn
  have HN2 : Aside0 (n ≤ 9223372036854775807) := ⟨hR.2.1⟩
  clear hR hm hl hk hn
  go_enter Tryd.func13, Tryd.ntmps13
  go_wp2_with (
    first
    | ((with_reducible refine gate_dst (N := 2) rfl ?_); refine box_event ?hg (N := 2) ?hd (cs := arr (List.replicate 32 0)) (t := 25) ?hr ?_; (case hd => rfl); (case hg => rfl); (case hr => first | (go_simp; done) | (go_simp; rfl));
       intro gd hg w1 hbox hb; have BD := Aside0.mk hbox; have GD := Aside0.mk (show W.heap.size ≤ gd by rw [hg]; exact Nat.le_refl _); have HB1 := Aside0.mk (below_step HB.out hb); clear HB; have HB := HB1; clear HB1 hb hbox hg)
    | ((with_reducible refine gate_dst (N := 3) rfl ?_); refine box_event ?hg (N := 3) ?hd (cs := arr32 (List.replicate 8 0)) (t := 56) ?hr ?_; (case hd => rfl); (case hg => rfl); (case hr => first | (go_simp; done) | (go_simp; rfl));
       intro gs hg w2 hbox hb; have BS := Aside0.mk hbox; have GS := Aside0.mk (show W.heap.size ≤ gs by rw [hg]; exact below_size HB.out); have NE := Aside0.mk (show gd ≠ gs by rw [hg]; exact Nat.ne_of_lt (blk_lt BD.out)); have n1 := Aside0.mk (blk_below BD.out hb); have HB1 := Aside0.mk (below_step HB.out hb); clear HB BD; have HB := HB1; have BD := n1; clear HB1 n1 hb hbox hg)
    | ((with_reducible refine gate_store (p := 3) rfl ?_); refine st_store rfl (.tmp 3) (.tmp 10) rfl gs init8 (List.replicate 8 0) rfl rfl BS.out rfl rfl ?_; intro w3 bk hoth hbel; have n1 := Aside0.mk bk; have n2 := Aside0.mk ((hoth gd NE.out).trans BD.out); have n3 := Aside0.mk (hbel _ _ HB.out GS.out); clear BS BD HB bk hoth hbel; have BS := n1; have BD := n2; have HB := n3; clear n1 n2 n3))
  have HI : Aside0 (OfInv gd gs W [] init8 [] (.slice none 0 0) w3) := ⟨⟨BD.out, BS.out, Kd.Q_nil _ _ _ _ _, HB.out, .stay _ _, by simp, GD.out, GS.out, NE.out⟩⟩
  clear BD BS HB
  go_loopw [4, 5, 7, 13] (fun r m _ i wr => ∃ (j : Nat) (s rs : List Int), j ≤ n ∧ i = .int .i64 (j : Int) ∧ m = .int .u64 ((ps.take j).flatten.length : Int) ∧ Aside0 (OfInv gd gs W (ps.take j).flatten s rs r wr ∧ rs.length < 64)) (fun _ _ _ i _ => n - (intOf i).toNat)
  case atStart => exact ⟨0, init8, [], by omega, rfl, rfl, ⟨by simpa using HI.out, by simp⟩⟩
  case round =>
    obtain ⟨j, s, rs, hj, rfl, rfl, HI2⟩ := hrel
    by_cases hlt : j < n
    · have hjl : j < ps.length := by rw [HN.out]; exact hlt
      obtain ⟨ad, c0, hA, hcl, hK, hcells⟩ := Kd.C_get (Kd.C_below HR.out HI2.out.1.hb) [] (j : Int) (by omega) (by omega)
      subst hA
      obtain ⟨p, hp⟩ : ∃ p, ps[j] = p := ⟨_, rfl⟩
      have hpd : ps.getD (j : Int).toNat [] = p := by rw [← hp]; simp [hjl]
      rw [hpd] at hK
      obtain ⟨Ap, cp, rfl, hple, hCp⟩ := hK
      have hcell : wr.cell? (ad.add j) = some (.slice Ap p.length cp) := by
        have := hcells 0 _ rfl
        simpa [Kd.slice] using this
      have HFL : Aside0 ((ps.take (j + 1)).flatten = (ps.take j).flatten ++ p) := ⟨by rw [flat_take ps j hjl, hp]⟩
      have hlen : (ps.take j).flatten.length + p.length ≤ ps.flatten.length := by
        have := flat_take_len ps (j + 1)
        rw [HFL.out, List.length_append] at this
        exact this
      have HPB : Aside0 (∀ x ∈ p, 0 ≤ x ∧ x < 256) := ⟨HM.out p (by rw [← hp]; exact List.getElem_mem hjl)⟩
      obtain ⟨mj, hmj⟩ : ∃ k : Nat, (ps.take j).flatten.length = k := ⟨_, rfl⟩
      have HMJ := Aside0.mk hmj
      rw [hmj] at hlen ⊢
      have hl40 := HL.out
      have h1 : mj + p.length < 1099511627776 := by omega
      clear hl40 hlen
      have hix := fun W' => idx_part ad n c j hlt W'
      have hjw : IntKind.i64.wrap ((j : Int) + 1) = (j : Int) + 1 := by
        have := HN2.out
        rw [IntKind.wrap_i64]
        omega
      have hw1 : IntKind.u64.wrap (p.length : Int) = (p.length : Int) := by rw [IntKind.wrap_u64]; omega
      have hw2 : IntKind.u64.wrap ((mj : Int) + (p.length : Int)) = (mj : Int) + (p.length : Int) := by rw [IntKind.wrap_u64]; omega
      have HCP := Aside0.mk hCp
      have HLT : Aside0 (rs.length < 64) := ⟨HI2.out.2⟩
      have HPL : Aside0 (p.length < 1099511627776) := ⟨by omega⟩
      have HI := Aside0.mk HI2.out.1
      clear hmj hp hpd hcells hcl hCp HI2
      go_wp2_with (
        first
        | ((with_reducible refine gate_builtin (b := .append) (xs := #[.tmp 22, .tmp 23]) rfl ?_); at_builtin;
           refine Q_append_rows (Kd.int .u8) (w0 := W) W.heap.size rfl (.tmp 22) (.tmp 23) 22 5 (.int .u8 0) 1 rfl Tryd.underlying22 info5 rfl (by decide) (by decide) _ rs p Ap p.length cp (fun _ => True) (fun _ => False) rfl rfl HI.out.q HCP.out (fun _ _ h => h) (fun _ hk => hk.elim) (fun _ _ => trivial) HI.out.hb (below_size HI.out.hb) ?hl ?_;
           (case hl => have := HLT.out; have := HPL.out; omega);
           intro v1 w1 hq hb hg hat; have HI1 := Aside0.mk (HI.out.grow hq hb hg HPB.out); clear hq hb hg hat))
      go_loopw [4] (fun r wr => ∃ (s rs : List Int), Aside0 (OfInv gd gs W ((ps.take j).flatten ++ p) s rs r wr)) (fun r _ => lenV r)
      case atStart => exact ⟨_, _, HI1⟩
      case round =>
        obtain ⟨s, rs, HI2⟩ := hrel
        clear HI HI1
        by_cases h64 : 64 ≤ rs.length
        · obtain ⟨g, o, cb, v', rfl, hle, hpre, hcf, hct, hnext⟩ := HI2.out.cut HK.out h64
          have HPRE := Aside0.mk hpre
          have HNEXT := Aside0.mk hnext
          clear hpre hnext
          go_wp2_with (
            first
            | (go_at_call 34; (with_reducible refine (block_walk gs g o cb s (rs.take 64) _ HPRE.out).mono ?_); rintro e w4 ⟨rfl, hbs, hsz, hoth, hbel⟩;
               have HI4 := Aside0.mk (HNEXT.out w4 hbs hsz hoth hbel); clear hbs hsz hoth hbel HNEXT HPRE))
          exact ⟨⟨_, _, HI4⟩, by have e := HI4.out.lenV; rw [List.length_drop] at e; show lenV v' < rs.length; omega⟩
        · obtain ⟨B, cb, rfl, hle2⟩ := Kd.Q_slice HI2.out.q
          go_wp2
          refine ⟨⟨j + 1, s, rs, by omega, by simp, by rw [HFL.out, List.length_append, HMJ.out]; simp, ⟨by rw [HFL.out]; exact HI2.out, by omega⟩⟩, by simp [intOf]; omega⟩
    · have hjn : ps.take j = ps := List.take_of_length_le (by rw [HN.out]; omega)
      rw [hjn] at HI2 ⊢
      obtain ⟨N, hN⟩ : ∃ k : Nat, ps.flatten.length = k := ⟨_, rfl⟩
      have HNL := Aside0.mk hN
      rw [hN]
      have hl40 := HL.out
      rw [hN] at hl40
      have HLT : Aside0 (rs.length < 64) := ⟨HI2.out.2⟩
      have HI1 := Aside0.mk HI2.out.1
      clear hN HI2 HI hjn
      have HI := HI1
      clear HI1
      go_wp2_with (
        first
        | ((with_reducible refine gate_builtin (b := .append) (xs := #[.tmp 34, .tmp 35]) rfl ?_); at_builtin;
           refine Kd.Q_append (Kd.int .u8) (w0 := W) W.heap.size rfl (.tmp 34) (.tmp 35) 22 5 (.int .u8 0) 1 rfl Tryd.underlying22 info5 rfl (by decide) (by decide) _ rs 128 [.int .u8 128] (fun _ => True) (fun _ => False) rfl rfl rfl (fun _ hk => hk.elim) (fun _ _ => trivial) HI.out.q HI.out.hb (below_size HI.out.hb) ?hl ?_;
           (case hl => have := HLT.out; omega);
           intro v1 w1 hq hb hg hat; have HI1 := Aside0.mk (HI.out.grow hq hb hg (by simp)); clear hq hb hg hat HI))
      obtain ⟨R0, hR0⟩ : ∃ k : Nat, rs.length = k := ⟨_, rfl⟩
      have HR0 := Aside0.mk hR0
      have hr0 : R0 < 64 := by rw [← hR0]; exact HLT.out
      have hr1 : (N - R0) % 64 = 0 ∧ R0 ≤ N := by
        have := HI1.out.eats.len
        rw [List.length_append, List.length_append, HNL.out, hR0] at this
        simp only [List.length_cons, List.length_nil] at this
        omega
      clear hR0 HLT
      go_loopw [4] (fun r wr => ∃ (k : Nat) (rs : List Int), k ≤ (119 - N % 64) % 64 ∧ Aside0 (rs.length = R0 + 1 + k) ∧ Aside0 (OfInv gd gs W (ps.flatten ++ [128] ++ List.replicate k 0) s rs r wr)) (fun r _ => 200 - lenV r)
      case atStart => exact ⟨0, rs ++ [128], by omega, ⟨by rw [List.length_append, HR0.out]; rfl⟩, ⟨by simpa using HI1.out⟩⟩
      case round =>
        obtain ⟨k, rs, hk, HRL, HI⟩ := hrel
        clear HI1 HR0
        obtain ⟨B, cb, rfl, hle⟩ := Kd.Q_slice HI.out.q
        obtain ⟨L, hL⟩ : ∃ k : Nat, rs.length = k := ⟨_, rfl⟩
        have hL2 : L = R0 + 1 + k := by rw [← hL]; exact HRL.out
        have HRL2 := Aside0.mk hL
        have hLb : L < 200 := by omega
        rw [hL] at hle ⊢
        by_cases hz : k < (119 - N % 64) % 64
        · have hm : (L : Int) % 64 ≠ 56 := by omega
          have HL2 := Aside0.mk hL2
          clear hL hL2
          go_wp2_with (
            first
            | ((with_reducible refine gate_builtin (b := .append) (xs := #[.tmp 41, .tmp 42]) rfl ?_); at_builtin;
               refine Kd.Q_append (Kd.int .u8) (w0 := W) W.heap.size rfl (.tmp 41) (.tmp 42) 22 5 (.int .u8 0) 1 rfl Tryd.underlying22 info5 rfl (by decide) (by decide) _ rs 0 [.int .u8 0] (fun _ => True) (fun _ => False) (by rw [HRL2.out]; rfl) rfl rfl (fun _ hk => hk.elim) (fun _ _ => trivial) HI.out.q HI.out.hb (below_size HI.out.hb) ?hl ?_;
               (case hl => have := HRL2.out; omega);
               intro v1 w1 hq hb hg hat; have HI1 := Aside0.mk (HI.out.grow hq hb hg (by simp)); clear hq hb hg hat HI))
          refine ⟨⟨k + 1, rs ++ [0], by omega, ⟨?_⟩, ⟨?_⟩⟩, ?_⟩
          rotate_left
          · rw [List.replicate_succ', ← List.append_assoc]
            exact HI1.out
          · have e := HI1.out.lenV
            have h2 := HRL2.out
            rw [List.length_append, h2] at e
            show 200 - lenV v1 < 200 - L
            rw [e]
            simp only [List.length_cons, List.length_nil]
            omega
          · rw [List.length_append, HRL2.out, HL2.out]
            rfl
        · have hm : (L : Int) % 64 = 56 := by omega
          have hk2 : k = (119 - N % 64) % 64 := by omega
          have HI1 : Aside0 (OfInv gd gs W (padTo ps.flatten) s rs (.slice B L cb) wr) := ⟨by
            have := HI.out
            rw [hk2, ← HNL.out, HRL2.out] at this
            exact this⟩
          have hm2 : L % 64 = 56 := by omega
          have HM2 := Aside0.mk hm2
          clear hL hL2 hk2 HI hm2
          have hw8 : IntKind.u64.wrap (8 * (N : Int)) = 8 * (N : Int) := by rw [IntKind.wrap_u64]; omega
          go_wp2
          clear hm
          go_loopw [4, 8] (fun r i wr => ∃ (q : Nat) (rs : List Int), q ≤ 8 ∧ i = .int .i64 (56 - 8 * (q : Int)) ∧ Aside0 (rs.length = L + q) ∧ Aside0 (OfInv gd gs W (padTo ps.flatten ++ (len8 (8 * (N : Int))).take q) s rs r wr)) (fun _ i _ => (64 + intOf i).toNat)
          case atStart => exact ⟨0, rs, by omega, rfl, HRL2, ⟨by simpa using HI1.out⟩⟩
          case round =>
            obtain ⟨q, rs, hq, rfl, HRL, HI⟩ := hrel
            clear HI1 HRL2
            by_cases hq8 : q < 8
            · have hge : 0 ≤ 56 - 8 * (q : Int) := by omega
              have hs8 : IntKind.i64.wrap (56 - 8 * (q : Int) - 8) = 56 - 8 * (q : Int) - 8 := by rw [IntKind.wrap_i64]; omega
              obtain ⟨B, cb, rfl, hle⟩ := Kd.Q_slice HI.out.q
              go_wp2_with (
                first
                | ((with_reducible refine gate_builtin (b := .append) (xs := #[.tmp 48, .tmp 54]) rfl ?_); at_builtin;
                   refine Kd.Q_append (Kd.int .u8) (w0 := W) W.heap.size rfl (.tmp 48) (.tmp 54) 22 5 (.int .u8 0) 1 rfl Tryd.underlying22 info5 rfl (by decide) (by decide) _ rs (8 * (N : Int) / 2 ^ (56 - 8 * q) % 256) [.int .u8 (8 * (N : Int) / 2 ^ (56 - 8 * q) % 256)] (fun _ => True) (fun _ => False) rfl rfl rfl (fun _ hk => hk.elim) (fun _ _ => trivial) HI.out.q HI.out.hb (below_size HI.out.hb) ?hl ?_;
                   (case hl => have := HRL.out; omega);
                   intro v1 w1 hq hb hg hat; have HI1 := Aside0.mk (HI.out.grow hq hb hg (fun x hx => by rw [List.mem_singleton.1 hx]; omega)); clear hq hb hg hat HI))
              refine ⟨⟨q + 1, rs ++ [8 * (N : Int) / 2 ^ (56 - 8 * q) % 256], by omega, ?_, ⟨by rw [List.length_append, HRL.out]; rfl⟩, ⟨?_⟩⟩, by simp [intOf]; omega⟩
              · simp; omega
              · rw [len8_take _ q hq8, ← List.append_assoc]
                exact HI1.out
            · have hge : 56 - 8 * (q : Int) < 0 := by omega
              have hq2 : q = 8 := by omega
              have HI1 : Aside0 (OfInv gd gs W (padTo ps.flatten ++ len8 (8 * (N : Int))) s rs u4 wr) := ⟨by
                have := HI.out
                rwa [hq2, List.take_of_length_le (by rw [len8_len]; omega)] at this⟩
              have HR64 : Aside0 (rs.length % 64 = 0 ∧ rs.length < 300) := ⟨by rw [HRL.out, hq2]; have := HM2.out; omega⟩
              obtain ⟨MM, hMM⟩ : ∃ MM, padTo ps.flatten ++ len8 (8 * (N : Int)) = MM := ⟨_, rfl⟩
              have HMM := Aside0.mk hMM
              rw [hMM] at HI1
              clear hq2 HI HRL hMM
              go_wp2
              go_loopw [4] (fun r wr => ∃ (s rs : List Int), Aside0 (rs.length % 64 = 0 ∧ rs.length < 300) ∧ Aside0 (OfInv gd gs W MM s rs r wr)) (fun r _ => lenV r)
              case atStart => exact ⟨_, _, HR64, HI1⟩
              case round =>
                obtain ⟨s, rs, HR64, HI2⟩ := hrel
                clear HI1
                by_cases h0 : 0 < rs.length
                · obtain ⟨g, o, cb, v', rfl, hle, hpre, hcf, hct, hnext⟩ := HI2.out.cut HK.out (by have := HR64.out; omega)
                  have HPRE := Aside0.mk hpre
                  have HNEXT := Aside0.mk hnext
                  have h0i : 0 < (rs.length : Int) := by omega
                  clear hpre hnext
                  go_wp2_with (
                    first
                    | (go_at_call 34; (with_reducible refine (block_walk gs g o cb s (rs.take 64) _ HPRE.out).mono ?_); rintro e w4 ⟨rfl, hbs, hsz, hoth, hbel⟩;
                       have HI4 := Aside0.mk (HNEXT.out w4 hbs hsz hoth hbel); clear hbs hsz hoth hbel HNEXT HPRE))
                  exact ⟨⟨_, _, ⟨by rw [List.length_drop]; have := HR64.out; omega⟩, HI4⟩, by have e := HI4.out.lenV; rw [List.length_drop] at e; show lenV v' < rs.length; omega⟩
                · obtain rfl : rs = [] := List.eq_nil_of_length_eq_zero (by omega)
                  obtain ⟨B, cb, rfl, hle⟩ := Kd.Q_slice HI2.out.q
                  have HSO : Aside0 (shaOf ps.flatten = bytes32 s) := ⟨sha_of_eats (by rw [HNL.out, HMM.out]; exact HI2.out.eats)⟩
                  have HSS : Aside0 (s.length = 8 ∧ ∀ x ∈ s, U32 x) := ⟨HI2.out.eats.state init8_ok.1 init8_ok.2⟩
                  have HI3 : Aside0 (wr.heap[gd]? = some (.cells (arr (digTo s 0)) 25 (0, 0)) ∧ wr.heap[gs]? = some (.cells (arr32 s) 56 (0, 0)) ∧ Below W.heap.size W wr) := ⟨HI2.out.bd, HI2.out.bs, HI2.out.hb⟩
                  clear HI2 HR64
                  go_wp2
                  go_loopw [9, 64] (fun _ i wr => ∃ q : Nat, q ≤ 32 ∧ i = .int .i64 (q : Int) ∧ Aside0 (wr.heap[gd]? = some (.cells (arr (digTo s q)) 25 (0, 0)) ∧ wr.heap[gs]? = some (.cells (arr32 s) 56 (0, 0)) ∧ Below W.heap.size W wr)) (fun _ i _ => 32 - (intOf i).toNat)
                  case atStart => exact ⟨0, by omega, rfl, HI3⟩
                  case round =>
                    obtain ⟨q, hq, rfl, HI⟩ := hrel
                    clear HI3
                    by_cases hq32 : q < 32
                    · obtain ⟨x, ex⟩ : ∃ x, at_ s (q / 4) = x := ⟨_, rfl⟩
                      have cx : wr.cell? ⟨gs, q / 4, none⟩ = some (.int .u32 x) := by rw [← ex]; exact cell_of_32 HI.out.2.1 (q / 4) (by rw [HSS.out.1]; omega)
                      have hfz : wr.frozen? ⟨gd, q, none⟩ = false := blk_frozen HI.out.1 q
                      have cd : wr.cell? ⟨gd, q, none⟩ = some (.int .u8 (rd (digTo s q) (q : Int))) := (blk_cell HI.out.1 q).trans (arr_get _ q (by rw [digTo_len s q hq]; exact hq32))
                      have his : ∀ W, (Instr.indexAt 56 (.pointer (some ⟨gs, 0, none⟩)) (.int .i64 ((q : Int) / 4))).run Tryd.prog W = .ok (.pointer (some ⟨gs, q / 4, none⟩)) W := fun W => idx_arr Tryd.underlying56 (by kernel_rfl) (by kernel_rfl) gs (q / 4) (by omega) W
                      have hid := fun W => idx_dig gd q hq32 W
                      have EX := Aside0.mk ex
                      clear ex
                      go_wp2
                      refine ⟨⟨q + 1, by omega, by simp, ⟨?_, ?_, ?_⟩⟩, by simp [intOf]; omega⟩
                      · rw [← digTo_set s q hq32, EX.out]
                        refine blk_put HI.out.1 q _ ?_
                        simp [arr, List.map_set]
                      · exact (Below.heap_setCell _ ⟨gd, q, none⟩ _ gs (Ne.symm NE.out)).trans HI.out.2.1
                      · exact HI.out.2.2.setCell (p := ⟨gd, q, none⟩) GD.out _
                    · have hq2 : q = 32 := by omega
                      have BD : Aside0 (wr.heap[gd]? = some (.cells (arr (shaOf ps.flatten)) 25 (0, 0))) := ⟨by rw [HSO.out, ← digTo_end s, ← hq2]; exact HI.out.1⟩
                      have HB := Aside0.mk HI.out.2.2
                      clear HI hq2
                      go_wp2_with (
                        first
                        | ((with_reducible refine gate_dst (N := 80) rfl ?_); refine wpList_load_row rfl 25 (.tmp 2) rfl gd rfl 25 (arr (shaOf ps.flatten)) (0, 0) _ BD.out Tryd.underlying25 rfl (by rw [arr_size, sha_len]; exact info_dig) ?_)
                        | ((with_reducible refine gate_store (p := 2) rfl ?_); refine dig_store rfl (.tmp 2) (.tmp 80) rfl gd (shaOf ps.flatten) (shaOf ps.flatten) rfl rfl BD.out (sha_len _) (sha_len _) ?_; intro w5 bk hoth hbel; have BD5 := Aside0.mk bk; have HB5 := Aside0.mk (hbel _ _ HB.out GD.out); clear bk hoth hbel))
                      refine bodyPost_ret (results_c rfl _ _ gd 25 (arr (shaOf ps.flatten)) (0, 0) _ rfl BD5.out Tryd.underlying25 rfl (by rw [arr_size, sha_len]; exact info_dig)) rfl ?_
                      exact ⟨rfl, HB5.out⟩
end Go.Proofs.YtoaimcobcgomjaaDoor.Q
