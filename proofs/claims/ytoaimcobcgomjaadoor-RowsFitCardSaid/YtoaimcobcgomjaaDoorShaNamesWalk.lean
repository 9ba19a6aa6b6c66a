/-
  ShaNames answers true: the error's number, and the chapter's examples. This text: the law's walk (written by wip/tools/gen_names2.py).
-/
import Derived.Test.YtoaimcobcgomjaaDoorShaBackWalk
namespace Go.Proofs.YtoaimcobcgomjaaDoor.Q
open Go.RowKit Go.Proofs.YtoaimcobcgomjaaDoorW.PrintWords Go.Proofs.YtoaimcobcgomjaaDoorW.PrintLast Go.Proofs.YtoaimcobcgomjaaDoorW.PrintMore
set_option linter.unusedVariables false
set_option linter.unusedSimpArgs false

def msg56 : List Int := [97, 98, 99, 100, 98, 99, 100, 101, 99, 100, 101, 102, 100, 101, 102, 103, 101, 102, 103, 104, 102, 103, 104, 105, 103, 104, 105, 106, 104, 105, 106, 107, 105, 106, 107, 108, 106, 107, 108, 109, 107, 108, 109, 110, 108, 109, 110, 111, 109, 110, 111, 112, 110, 111, 112, 113]
def dig56 : List Int := [36, 141, 106, 97, 210, 6, 56, 184, 229, 192, 38, 147, 12, 62, 96, 57, 163, 60, 228, 89, 100, 255, 33, 103, 246, 236, 237, 212, 25, 219, 6, 193]
def txt56 : ByteArray := ⟨#[50, 52, 56, 100, 54, 97, 54, 49, 100, 50, 48, 54, 51, 56, 98, 56, 101, 53, 99, 48, 50, 54, 57, 51, 48, 99, 51, 101, 54, 48, 51, 57, 97, 51, 51, 99, 101, 52, 53, 57, 54, 52, 102, 102, 50, 49, 54, 55, 102, 54, 101, 99, 101, 100, 100, 52, 49, 57, 100, 98, 48, 54, 99, 49]⟩
set_option maxRecDepth 100000 in
theorem sha_56 : shaOf msg56 = dig56 := by decide +kernel
theorem dig56_ok : Dig dig56 := sha_56 ▸ dig_sha msg56
theorem txt56_eq : (⟨(hexOf dig56).toArray⟩ : ByteArray) = txt56 := by decide +kernel
theorem read_empty : readOf ⟨#[]⟩ = (zeros32, 2) := by decide +kernel
theorem read_big : readOf ⟨#[69, 51, 98, 48, 99, 52, 52, 50, 57, 56, 102, 99, 49, 99, 49, 52, 57, 97, 102, 98, 102, 52, 99, 56, 57, 57, 54, 102, 98, 57, 50, 52, 50, 55, 97, 101, 52, 49, 101, 52, 54, 52, 57, 98, 57, 51, 52, 99, 97, 52, 57, 53, 57, 57, 49, 98, 55, 56, 53, 50, 98, 56, 53, 53]⟩ = (zeros32, 2) := by decide +kernel
/-- sha.Of of two parts. -/
theorem of_two (g c1 c2 : Nat) (A1 A2 : Option Addr) (p1 p2 : List Int) (n1 n2 t cap : Nat) (W : World) (e1 : p1.length = n1) (e2 : p2.length = n2) (h : W.heap[g]? = some (.cells #[.slice A1 n1 c1, .slice A2 n2 c2] t (0, 0)))
    (l1 : n1 ≤ c1) (l2 : n2 ≤ c2) (hC1 : (Kd.int .u8).C W A1 n1 p1) (hC2 : (Kd.int .u8).C W A2 n2 p2) (hb1 : ∀ x ∈ p1, 0 ≤ x ∧ x < 256) (hb2 : ∀ x ∈ p2, 0 ≤ x ∧ x < 256) (hl : p1.length + p2.length < 1099511627776) (hk : KT W) :
    Calls Tryd.prog 13 #[.slice (some ⟨g, 0, none⟩) 2 cap] W fun e W' => e = .returned (.agg (arr (shaOf (p1 ++ p2)))) ∧ Below W.heap.size W W' := by
  subst e1 e2
  refine (of_walk (some ⟨g, 0, none⟩) 2 cap [p1, p2] W (parts_C h (by simp) fun j q hj => ?_) (by simpa using ⟨hb1, hb2⟩) (by simpa using hl) hk).mono fun e W' h => ⟨by rw [h.1]; simp, h.2⟩
  match j, hj with
  | 0, hj => exact ⟨A1, c1, by simp at hj; subst hj; rfl, by simp at hj; subst hj; exact l1, by simp at hj; subst hj; exact hC1⟩
  | 1, hj => exact ⟨A2, c2, by simp at hj; subst hj; rfl, by simp at hj; subst hj; exact l2, by simp at hj; subst hj; exact hC2⟩
  | j + 2, hj => simp at hj
theorem convert_const1 (w : World) (o : Obj) (C : Array Value) (n c : Nat) : (convert 22 22 (.slice (some ⟨w.heap.size + 1, 0, none⟩) n c)).run Tryd.prog ((w.alloc o).alloc (.cells C 5)) = .ok (.slice (some ⟨w.heap.size + 1, 0, none⟩) n c) ((w.alloc o).alloc (.cells C 5 (C.size, C.size + 1))) := by
  have h := Lib.run_convert_bytes_const (P := Tryd.prog) (w.alloc o) 22 5 C n c Tryd.underlying22 Tryd.underlying5
  rwa [World.size_alloc] at h
theorem blk_new2 (w : World) (o o' o'' : Obj) : (((w.alloc o).alloc o').alloc o'').heap[w.heap.size + 2]? = some o'' := by
  have h := blk_new1 (w.alloc o) o' o''
  rwa [World.size_alloc] at h
theorem hex_lit {ds : List Int} (hd : Dig ds) (t : ByteArray) (ht : (⟨(hexOf ds).toArray⟩ : ByteArray) = t) (w : World) : Calls Tryd.prog 28 #[.agg (arr ds)] w fun e W' => e = .returned (.string t) ∧ Below w.heap.size w W' := hex_any ds hd t ht w

set_option maxHeartbeats 4000000 in
set_option maxRecDepth 100000 in
theorem shaNames_walk (w : World) (hk : KT w) :
    Calls Tryd.prog 7 #[] w fun e w' => e = .returned (.bool true) ∧ Below w.heap.size w w' := by
  have HK := Aside0.mk hk
  have HB := Aside0.mk (Below.refl w.heap.size w)
  have kc := fun (w : World) (C : Array Value) (n c : Nat) => Lib.run_convert_bytes_const (P := Tryd.prog) w 22 5 C n c Tryd.underlying22 Tryd.underlying5
  have kc1 := fun (w : World) (o : Obj) (C : Array Value) (n c : Nat) => convert_const1 w o C n c
  have hs56 : (⟨#[50, 52, 56, 100, 54, 97, 54, 49, 100, 50, 48, 54, 51, 56, 98, 56, 101, 53, 99, 48, 50, 54, 57, 51, 48, 99, 51, 101, 54, 48, 51, 57, 97, 51, 51, 99, 101, 52, 53, 57, 54, 52, 102, 102, 50, 49, 54, 55, 102, 54, 101, 99, 101, 100, 100, 52, 49, 57, 100, 98, 48, 54, 99, 49]⟩ : ByteArray) = txt56 := rfl
  have hse : ∀ W, (binOp .eql 25 (.agg (arr digAbc)) (.agg (arr digAbc))).run Tryd.prog W = .ok (.bool true) W := fun W => run_eql_same digAbc digAbc_ok W
  have heg := eqg_dig
  clear hk
  go_enter Tryd.func7, Tryd.ntmps7
  go_wp2_with (
    first
    | (go_at_call 13; (with_reducible refine (of_one _ 56 _ msg56 56 22 1 _ rfl (blk_new1 w _ _) (by omega) (Kd.C_alloc (bytes_C (blk_new w _) (by simp [msg56])) _) (by decide) (by decide) (HK.out.below HK.out.lt (below_alloc (below_alloc HB.out _) _))).mono ?_); rintro e w3 ⟨rfl, hb⟩; rw [sha_56]; have HB1 := Aside0.mk (below_step (below_alloc (below_alloc HB.out _) _) hb); clear HB hb; have HB := HB1; clear HB1)
    | ((with_reducible refine gate_dst (N := 1) rfl ?_); refine box_event ?hg (N := 1) ?hd (cs := arr zeros32) (t := 25) ?hr ?_; (case hd => rfl); (case hg => rfl); (case hr => first | (go_simp; done) | (go_simp; rfl));
       intro g1 hg w1 hbox hb; have BK1 := Aside0.mk hbox; have G1 := Aside0.mk (show w.heap.size ≤ g1 by rw [hg]; exact below_size HB.out); have HB1 := Aside0.mk (below_step HB.out hb); clear HB ; have HB := HB1; clear HB1 ; clear hb hbox hg)
    | ((with_reducible refine gate_store (p := 1) rfl ?_); refine dig_store rfl (.tmp 1) (.tmp 9) rfl g1 dig56 zeros32 rfl rfl BK1.out dig56_ok.1 rfl ?_; intro w3 bk hoth hbel; have nn := Aside0.mk bk; have HB1 := Aside0.mk (hbel _ _ HB.out G1.out); clear HB ; have HB := HB1; clear HB1 ; clear BK1; have BK1 := nn; clear nn bk hoth hbel)
    | (go_at_call 27; (with_reducible refine (read_at _ zeros32 2 read_empty _).mono ?_); rintro e w2 ⟨rfl, hb⟩; have n0 := Aside0.mk (blk_below BK1.out hb); have HB1 := Aside0.mk (below_step HB.out hb); clear HB BK1; have HB := HB1; have BK1 := n0; clear HB1 n0; clear hb)
    | ((with_reducible refine gate_dst (N := 2) rfl ?_); refine box_event ?hg (N := 2) ?hd (cs := arr zeros32) (t := 25) ?hr ?_; (case hd => rfl); (case hg => rfl); (case hr => first | (go_simp; done) | (go_simp; rfl));
       intro g2 hg w1 hbox hb; have BK2 := Aside0.mk hbox; have G2 := Aside0.mk (show w.heap.size ≤ g2 by rw [hg]; exact below_size HB.out); have N1_2 := Aside0.mk (show g1 ≠ g2 by rw [hg]; exact Nat.ne_of_lt (blk_lt BK1.out)); have n0 := Aside0.mk (blk_below BK1.out hb); have HB1 := Aside0.mk (below_step HB.out hb); clear HB BK1; have HB := HB1; have BK1 := n0; clear HB1 n0; clear hb hbox hg)
    | ((with_reducible refine gate_store (p := 2) rfl ?_); refine dig_store rfl (.tmp 2) (.tmp 12) rfl g2 zeros32 zeros32 rfl rfl BK2.out rfl rfl ?_; intro w3 bk hoth hbel; have nn := Aside0.mk bk; have n0 := Aside0.mk ((hoth g1 N1_2.out).trans BK1.out); have HB1 := Aside0.mk (hbel _ _ HB.out G2.out); clear HB BK1; have HB := HB1; have BK1 := n0; clear HB1 n0; clear BK2; have BK2 := nn; clear nn bk hoth hbel))
  go_wp2_with (
    first
    | (go_at_call 27; (with_reducible refine (read_at _ zeros32 2 read_big _).mono ?_); rintro e w2 ⟨rfl, hb⟩; have n0 := Aside0.mk (blk_below BK1.out hb); have HB1 := Aside0.mk (below_step HB.out hb); clear HB BK1; have HB := HB1; have BK1 := n0; clear HB1 n0; clear hb)
    | ((with_reducible refine gate_dst (N := 4) rfl ?_); refine box_event ?hg (N := 4) ?hd (cs := arr zeros32) (t := 25) ?hr ?_; (case hd => rfl); (case hg => rfl); (case hr => first | (go_simp; done) | (go_simp; rfl));
       intro g4 hg w1 hbox hb; have BK4 := Aside0.mk hbox; have G4 := Aside0.mk (show w.heap.size ≤ g4 by rw [hg]; exact below_size HB.out); have N1_4 := Aside0.mk (show g1 ≠ g4 by rw [hg]; exact Nat.ne_of_lt (blk_lt BK1.out)); have n0 := Aside0.mk (blk_below BK1.out hb); have HB1 := Aside0.mk (below_step HB.out hb); clear HB BK1; have HB := HB1; have BK1 := n0; clear HB1 n0; clear hb hbox hg)
    | ((with_reducible refine gate_store (p := 4) rfl ?_); refine dig_store rfl (.tmp 4) (.tmp 16) rfl g4 zeros32 zeros32 rfl rfl BK4.out rfl rfl ?_; intro w3 bk hoth hbel; have nn := Aside0.mk bk; have n0 := Aside0.mk ((hoth g1 N1_4.out).trans BK1.out); have HB1 := Aside0.mk (hbel _ _ HB.out G4.out); clear HB BK1; have HB := HB1; have BK1 := n0; clear HB1 n0; clear BK4; have BK4 := nn; clear nn bk hoth hbel)
    | (go_at_call 26; (with_reducible refine (alive_walk _ (HK.out.below HK.out.lt HB.out)).mono ?_); rintro e w2 ⟨rfl, hb⟩; have n0 := Aside0.mk (blk_below BK1.out hb); have HB1 := Aside0.mk (below_step HB.out hb); clear HB BK1; have HB := HB1; have BK1 := n0; clear HB1 n0; clear hb)
    | ((with_reducible refine gate_dst (N := 22) rfl ?_); refine gate_guard (by rfl) ?_; refine wpList_load_row rfl 25 (.tmp 1) rfl g1 rfl 25 (arr dig56) (0, 0) _ BK1.out Tryd.underlying25 rfl (by rw [arr_size, dig56_ok.1]; exact info_dig) ?_)
    | (go_at_call 28; (with_reducible refine (hex_lit dig56_ok txt56 txt56_eq _).mono ?_); rintro e w2 ⟨rfl, hb⟩; have HB1 := Aside0.mk (below_step HB.out hb); clear HB ; have HB := HB1; clear HB1 ; clear hb)
    | (go_at_call 13; (with_reducible refine (of_two _ 1 2 _ _ [97] [98, 99] 1 2 22 2 _ rfl rfl (blk_new2 w2 _ _ _) (by omega) (by omega) (Kd.C_alloc (Kd.C_alloc (bytes_C (blk_new w2 _) (by simp)) _) _) (Kd.C_alloc (bytes_C (blk_new1 w2 _ _) (by simp)) _) (by decide) (by decide) (by decide) (HK.out.below HK.out.lt (below_alloc (below_alloc (below_alloc HB.out _) _) _))).mono ?_); rintro e w3 ⟨rfl, hb⟩; rw [show shaOf ([97] ++ [98, 99]) = digAbc from sha_abc']; have HB1 := Aside0.mk (below_step (below_alloc (below_alloc (below_alloc HB.out _) _) _) hb); clear HB hb; have HB := HB1; clear HB1)
    | (go_at_call 13; (with_reducible refine (of_one _ 3 _ [97, 98, 99] 3 22 1 _ rfl (blk_new1 w3 _ _) (by omega) (Kd.C_alloc (bytes_C (blk_new w3 _) (by simp)) _) (by decide) (by decide) (HK.out.below HK.out.lt (below_alloc (below_alloc HB.out _) _))).mono ?_); rintro e w4 ⟨rfl, hb⟩; rw [sha_abc']; have HB1 := Aside0.mk (below_step (below_alloc (below_alloc HB.out _) _) hb); clear HB hb; have HB := HB1; clear HB1))
  go_ret
  exact ⟨rfl, HB.out⟩
end Go.Proofs.YtoaimcobcgomjaaDoor.Q
