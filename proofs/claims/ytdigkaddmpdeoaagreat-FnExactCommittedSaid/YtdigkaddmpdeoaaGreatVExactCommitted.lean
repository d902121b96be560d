/-
  The law FnExactCommitted: its walk, out of the contracts of what it calls.
-/
import Derived.Test.YtdigkaddmpdeoaaGreatWComS
import Derived.Test.YtdigkaddmpdeoaaGreatWCommitted
import Derived.Test.YtdigkaddmpdeoaaGreatHeldBoxS
import Derived.Test.YtdigkaddmpdeoaaGreatMarkStore
import Derived.Test.YtdigkaddmpdeoaaGreatWCutS
import Derived.Test.YtdigkaddmpdeoaaGreatFamCommit
import Derived.Test.YtdigkaddmpdeoaaGreatXOwn
namespace Go.Proofs.YtdigkaddmpdeoaaGreat
open Go.RowKit
set_option linter.unusedVariables false
set_option linter.unusedSimpArgs false

theorem sMk2 {W w : World} (h3 : Below W.heap.size W w) : Below W.heap.size W w ∧ (∀ b o, b < W.heap.size → w.cell? ⟨b, o, none⟩ = W.cell? ⟨b, o, none⟩) := ⟨h3, (bcell h3).1⟩
set_option maxRecDepth 100000 in
set_option maxHeartbeats 8000000 in
theorem fnExactCommitted_walk (a0b : List PBox) (a0bA : Option Addr) (a0bC : Nat) (a0l : List DCommit) (a0lA : Option Addr) (a0lC : Nat) (a0g : Int) (a1 : DCommit) (w : World) : (MaxLen w) → (Rd w a0bA a0bC 4 a0b.length (a0b.flatMap PBox.cells)) → (RdM w a0b) → (Rd w a0lA a0lC 6 a0l.length (a0l.flatMap DCommit.cells)) → (∀ y ∈ a0b, y.name.size ≤ 9223372036854775807) → (∀ y ∈ a0b, ∀ m ∈ y.msgs, m.text.size ≤ 9223372036854775807) → (∀ y ∈ a0l, y.name.size ≤ 9223372036854775807) → (∀ y ∈ a0l, y.text.size ≤ 9223372036854775807) → (a1.name.size ≤ 9223372036854775807) → (a1.text.size ≤ 9223372036854775807) →
    Calls Tryz.prog 6 #[.agg #[.slice a0bA a0b.length a0bC, .slice a0lA a0l.length a0lC, .int .i64 a0g], .agg #[.int .i64 a1.kind, .int .i64 a1.validity, .int .i64 a1.uid, .int .i64 a1.flags, .string a1.name, .string a1.text]] w fun e w' => e = .returned (.bool true) ∧ Below w.heap.size w w' := by
  intro hmx a0bR a0bM a0lR gsn0 gst0 gsc0 gsd0 g1name g1text
  have HMX := Lib.hid hmx
  clear hmx
  obtain ⟨rr, rok, hrel⟩ : ∃ rr rok, CmtRel (⟨a0b.map PBox.box, a0l, a0g⟩ : DStore) a1 rr rok := cmtRel_ex _ _
  have HREL := Lib.hid hrel
  clear hrel
  have Ha0b := Lib.hid a0bR
  clear a0bR
  have Ha0l := Lib.hid a0lR
  clear a0lR
  have Ha0bM := Lib.hid a0bM
  clear a0bM
  have Hgsn0 := Lib.hid gsn0
  clear gsn0
  have Hgst0 := Lib.hid gst0
  clear gst0
  have Hgsc0 := Lib.hid gsc0
  clear gsc0
  have Hgsd0 := Lib.hid gsd0
  clear gsd0
  go_enter Tryz.func6, Tryz.ntmps6
  go_wp2_with fail
  refine (szStore_any a0b _ _ a0l _ _ a0g 1048576 _ (Ha0b.out.ext bxt) (Ha0bM.out.ext bxt) (Ha0l.out.ext bxt) (by omega) (by omega) Hgsn0.out Hgst0.out Hgsc0.out Hgsd0.out).mono ?_
  rintro e w1 ⟨left1, rfl, hz1, hb1⟩
  obtain ⟨hc1, hf1⟩ := bcell hb1
  have hm1 : w.heap.size ≤ w1.heap.size := by (have hss := hb1.size; first | omega | (simp at hss <;> omega))
  have hs1_0 : w.heap.size < w1.heap.size := by (have hss := hb1.size; first | omega | (simp at hss <;> omega))
  have hs1_1 : w.heap.size + 1 < w1.heap.size := by (have hss := hb1.size; first | omega | (simp at hss <;> omega))
  rcases hz1 with hz1 | ⟨hz10, hz1⟩
  · go_wp2_with fail
    go_ret
    exact ⟨rfl, bxt⟩
  have hlt1 : left1 ≤ 1048576 := by omega
  have hla0 : a0b.length ≤ 1048576 := by (have := PBox.len_le a0b; omega)
  have hcb0 : cntB a0b ≤ 3145728 := by (have := cntB_sz a0b; omega)
  have Hlm0 : Hid (∀ y ∈ a0b, y.msgs.length ≤ 1048576) := fun y hy => by
    obtain ⟨q, hq, rfl⟩ := List.getElem_of_mem hy
    have := PBox.msgs_le a0b q hq
    omega
  have hlc0 : a0l.length ≤ 1048576 := by (have := DCommit.len_le a0l; omega)
  clear hz1
  go_wp2_with fail
  refine (szCommit_any a1 left1 _ (by omega) (by omega) g1name g1text).mono ?_
  rintro e w2 ⟨left2, rfl, hz2, hb2⟩
  obtain ⟨hc2, hf2⟩ := bcell hb2
  have hm2 : w1.heap.size ≤ w2.heap.size := by (have hss := hb2.size; first | omega | (simp at hss <;> omega))
  have hs2_0 : w.heap.size < w2.heap.size := by (have hss := hb2.size; first | omega | (simp at hss <;> omega))
  have hs2_1 : w.heap.size + 1 < w2.heap.size := by (have hss := hb2.size; first | omega | (simp at hss <;> omega))
  rcases hz2 with hz2 | ⟨hz20, hz2⟩
  · go_wp2_with fail
    go_ret
    exact ⟨rfl, bxt⟩
  have hlt2 : left2 ≤ 1048576 := by omega
  clear hz2
  have hcr : cntD rr.boxes ≤ 3145728 ∧ rr.log.length ≤ 1048576 := cmtRel_cnt HREL.out (by rw [← cntB_D]; exact hcb0) hlc0
  obtain ⟨hcr, hcl⟩ := hcr
  go_upto_region 8 with fail
  go_cut [6, 7] (fun v u wx => CutS 42 88 53 rr w2 v wx ∧ u = .bool rok)
  case first =>
    go_region_held3 (fun w' => Below w2.heap.size w2 w' ∧ (∀ b o, b < w2.heap.size → w'.cell? ⟨b, o, none⟩ = w2.cell? ⟨b, o, none⟩)) (first | with_reducible exact sBeg _ | with_reducible exact sExt (by assumption) (by assumption) | (refine sMk2 ?_; exact bxt)) ((first | (go_at_call_of 10 (a0b); refine (toStore_any a0b _ _ a0l _ _ a0g _ (Ha0b.out.ext bxt) (Ha0bM.out.ext bxt) (Ha0l.out.ext bxt) hla0 Hlm0.out hlc0).mono ?_; rintro e w3 ⟨gx3, zs3, gy3, rfl, hown, hqz, hb3⟩; have HX3 := Lib.hid hown; have HZ3 := Lib.hid hqz; clear hown hqz; have hzz3 := hb3.size; (try simp at hzz3); (try (have hx3_0 : w2.heap.size < w3.heap.size := hzz3; (first | have hy3_0_0 : w3.cell? ⟨w2.heap.size, 0, none⟩ = some (.slice none 0 0) := (hb3.cell (p := ⟨w2.heap.size, 0, none⟩) (by simp)).trans (keep_new rfl) | have hy3_0_0 : w3.cell? ⟨w2.heap.size, 0, none⟩ = some (.slice none 0 0) := (hb3.cell (p := ⟨w2.heap.size, 0, none⟩) (by simp)).trans (keep_newd rfl)); (first | have hv3_0_0 : w3.frozen? ⟨w2.heap.size, 0, none⟩ = false := (hb3.frozen (p := ⟨w2.heap.size, 0, none⟩) (by simp)).trans (keepf_new (by simp)) | have hv3_0_0 : w3.frozen? ⟨w2.heap.size, 0, none⟩ = false := (hb3.frozen (p := ⟨w2.heap.size, 0, none⟩) (by simp)).trans (keepf_newd (by simp))); (first | have hy3_0_1 : w3.cell? ⟨w2.heap.size, 1, none⟩ = some (.slice none 0 0) := (hb3.cell (p := ⟨w2.heap.size, 1, none⟩) (by simp)).trans (keep_new rfl) | have hy3_0_1 : w3.cell? ⟨w2.heap.size, 1, none⟩ = some (.slice none 0 0) := (hb3.cell (p := ⟨w2.heap.size, 1, none⟩) (by simp)).trans (keep_newd rfl)); (first | have hv3_0_1 : w3.frozen? ⟨w2.heap.size, 1, none⟩ = false := (hb3.frozen (p := ⟨w2.heap.size, 1, none⟩) (by simp)).trans (keepf_new (by simp)) | have hv3_0_1 : w3.frozen? ⟨w2.heap.size, 1, none⟩ = false := (hb3.frozen (p := ⟨w2.heap.size, 1, none⟩) (by simp)).trans (keepf_newd (by simp))); (first | have hy3_0_2 : w3.cell? ⟨w2.heap.size, 2, none⟩ = some (.int .i64 0) := (hb3.cell (p := ⟨w2.heap.size, 2, none⟩) (by simp)).trans (keep_new rfl) | have hy3_0_2 : w3.cell? ⟨w2.heap.size, 2, none⟩ = some (.int .i64 0) := (hb3.cell (p := ⟨w2.heap.size, 2, none⟩) (by simp)).trans (keep_newd rfl)); (first | have hv3_0_2 : w3.frozen? ⟨w2.heap.size, 2, none⟩ = false := (hb3.frozen (p := ⟨w2.heap.size, 2, none⟩) (by simp)).trans (keepf_new (by simp)) | have hv3_0_2 : w3.frozen? ⟨w2.heap.size, 2, none⟩ = false := (hb3.frozen (p := ⟨w2.heap.size, 2, none⟩) (by simp)).trans (keepf_newd (by simp)))))) | (go_at_call_of 26 (a1.kind); refine (toCommit_any a1 _).mono ?_; rintro e w4 ⟨rfl, hb4⟩; have hzz4 := hb4.size; (try simp at hzz4); (try (have hx4_0 : w2.heap.size < w4.heap.size := Nat.lt_of_lt_of_le hx3_0 hzz4; have hy4_0_0 : w4.cell? ⟨w2.heap.size, 0, none⟩ = some (.slice none 0 0) := (hb4.cell (p := ⟨w2.heap.size, 0, none⟩) hx3_0).trans hy3_0_0; have hv4_0_0 : w4.frozen? ⟨w2.heap.size, 0, none⟩ = false := (hb4.frozen (p := ⟨w2.heap.size, 0, none⟩) hx3_0).trans hv3_0_0; have hy4_0_1 : w4.cell? ⟨w2.heap.size, 1, none⟩ = some (.slice none 0 0) := (hb4.cell (p := ⟨w2.heap.size, 1, none⟩) hx3_0).trans hy3_0_1; have hv4_0_1 : w4.frozen? ⟨w2.heap.size, 1, none⟩ = false := (hb4.frozen (p := ⟨w2.heap.size, 1, none⟩) hx3_0).trans hv3_0_1; have hy4_0_2 : w4.cell? ⟨w2.heap.size, 2, none⟩ = some (.int .i64 0) := (hb4.cell (p := ⟨w2.heap.size, 2, none⟩) hx3_0).trans hy3_0_2; have hv4_0_2 : w4.frozen? ⟨w2.heap.size, 2, none⟩ = false := (hb4.frozen (p := ⟨w2.heap.size, 2, none⟩) hx3_0).trans hv3_0_2)); (try (have hx4_1 : w3.heap.size < w4.heap.size := hzz4; (first | have hy4_1_0 : w4.cell? ⟨w3.heap.size, 0, none⟩ = some (.slice none 0 0) := (hb4.cell (p := ⟨w3.heap.size, 0, none⟩) (by simp)).trans (keep_new rfl) | have hy4_1_0 : w4.cell? ⟨w3.heap.size, 0, none⟩ = some (.slice none 0 0) := (hb4.cell (p := ⟨w3.heap.size, 0, none⟩) (by simp)).trans (keep_newd rfl)); (first | have hv4_1_0 : w4.frozen? ⟨w3.heap.size, 0, none⟩ = false := (hb4.frozen (p := ⟨w3.heap.size, 0, none⟩) (by simp)).trans (keepf_new (by simp)) | have hv4_1_0 : w4.frozen? ⟨w3.heap.size, 0, none⟩ = false := (hb4.frozen (p := ⟨w3.heap.size, 0, none⟩) (by simp)).trans (keepf_newd (by simp))); (first | have hy4_1_1 : w4.cell? ⟨w3.heap.size, 1, none⟩ = some (.slice none 0 0) := (hb4.cell (p := ⟨w3.heap.size, 1, none⟩) (by simp)).trans (keep_new rfl) | have hy4_1_1 : w4.cell? ⟨w3.heap.size, 1, none⟩ = some (.slice none 0 0) := (hb4.cell (p := ⟨w3.heap.size, 1, none⟩) (by simp)).trans (keep_newd rfl)); (first | have hv4_1_1 : w4.frozen? ⟨w3.heap.size, 1, none⟩ = false := (hb4.frozen (p := ⟨w3.heap.size, 1, none⟩) (by simp)).trans (keepf_new (by simp)) | have hv4_1_1 : w4.frozen? ⟨w3.heap.size, 1, none⟩ = false := (hb4.frozen (p := ⟨w3.heap.size, 1, none⟩) (by simp)).trans (keepf_newd (by simp))); (first | have hy4_1_2 : w4.cell? ⟨w3.heap.size, 2, none⟩ = some (.int .i64 0) := (hb4.cell (p := ⟨w3.heap.size, 2, none⟩) (by simp)).trans (keep_new rfl) | have hy4_1_2 : w4.cell? ⟨w3.heap.size, 2, none⟩ = some (.int .i64 0) := (hb4.cell (p := ⟨w3.heap.size, 2, none⟩) (by simp)).trans (keep_newd rfl)); (first | have hv4_1_2 : w4.frozen? ⟨w3.heap.size, 2, none⟩ = false := (hb4.frozen (p := ⟨w3.heap.size, 2, none⟩) (by simp)).trans (keepf_new (by simp)) | have hv4_1_2 : w4.frozen? ⟨w3.heap.size, 2, none⟩ = false := (hb4.frozen (p := ⟨w3.heap.size, 2, none⟩) (by simp)).trans (keepf_newd (by simp)))))) | (go_at_call_of 25 (zs3); refine (specCommitted_law zs3 _ _ a0l _ _ a0g a1 _ (HX3.out.box.rd.ext bxt) (HX3.out.box.rdm.ext bxt) ((Rd.of_Own HX3.out.log).ext bxt) (by rw [box_len HZ3.out]; exact hla0) (box_mlen HZ3.out Hlm0.out) hlc0 (box_names HZ3.out Hgsn0.out) (box_texts HZ3.out Hgst0.out) g1name g1text rr rok (Lib.hid (by rw [HZ3.out]; exact HREL.out))).mono ?_; rintro e w5 ⟨ga5, qa5, zs5, gc5, qc5, rfl, hown, hqz, hb5⟩; have HX5 := Lib.hid hown; have HZ5 := Lib.hid hqz; clear hown hqz; have hzz5 := hb5.size; (try simp at hzz5); (try (have hx5_0 : w2.heap.size < w5.heap.size := Nat.lt_of_lt_of_le hx4_0 hzz5; have hy5_0_0 : w5.cell? ⟨w2.heap.size, 0, none⟩ = some (.slice none 0 0) := (hb5.cell (p := ⟨w2.heap.size, 0, none⟩) hx4_0).trans hy4_0_0; have hv5_0_0 : w5.frozen? ⟨w2.heap.size, 0, none⟩ = false := (hb5.frozen (p := ⟨w2.heap.size, 0, none⟩) hx4_0).trans hv4_0_0; have hy5_0_1 : w5.cell? ⟨w2.heap.size, 1, none⟩ = some (.slice none 0 0) := (hb5.cell (p := ⟨w2.heap.size, 1, none⟩) hx4_0).trans hy4_0_1; have hv5_0_1 : w5.frozen? ⟨w2.heap.size, 1, none⟩ = false := (hb5.frozen (p := ⟨w2.heap.size, 1, none⟩) hx4_0).trans hv4_0_1; have hy5_0_2 : w5.cell? ⟨w2.heap.size, 2, none⟩ = some (.int .i64 0) := (hb5.cell (p := ⟨w2.heap.size, 2, none⟩) hx4_0).trans hy4_0_2; have hv5_0_2 : w5.frozen? ⟨w2.heap.size, 2, none⟩ = false := (hb5.frozen (p := ⟨w2.heap.size, 2, none⟩) hx4_0).trans hv4_0_2)); (try (have hx5_1 : w3.heap.size < w5.heap.size := Nat.lt_of_lt_of_le hx4_1 hzz5; have hy5_1_0 : w5.cell? ⟨w3.heap.size, 0, none⟩ = some (.slice none 0 0) := (hb5.cell (p := ⟨w3.heap.size, 0, none⟩) hx4_1).trans hy4_1_0; have hv5_1_0 : w5.frozen? ⟨w3.heap.size, 0, none⟩ = false := (hb5.frozen (p := ⟨w3.heap.size, 0, none⟩) hx4_1).trans hv4_1_0; have hy5_1_1 : w5.cell? ⟨w3.heap.size, 1, none⟩ = some (.slice none 0 0) := (hb5.cell (p := ⟨w3.heap.size, 1, none⟩) hx4_1).trans hy4_1_1; have hv5_1_1 : w5.frozen? ⟨w3.heap.size, 1, none⟩ = false := (hb5.frozen (p := ⟨w3.heap.size, 1, none⟩) hx4_1).trans hv4_1_1; have hy5_1_2 : w5.cell? ⟨w3.heap.size, 2, none⟩ = some (.int .i64 0) := (hb5.cell (p := ⟨w3.heap.size, 2, none⟩) hx4_1).trans hy4_1_2; have hv5_1_2 : w5.frozen? ⟨w3.heap.size, 2, none⟩ = false := (hb5.frozen (p := ⟨w3.heap.size, 2, none⟩) hx4_1).trans hv4_1_2)); (try (have hx5_2 : w4.heap.size < w5.heap.size := hzz5; (first | have hy5_2_0 : w5.cell? ⟨w4.heap.size, 0, none⟩ = some (.slice none 0 0) := (hb5.cell (p := ⟨w4.heap.size, 0, none⟩) (by simp)).trans (keep_new rfl) | have hy5_2_0 : w5.cell? ⟨w4.heap.size, 0, none⟩ = some (.slice none 0 0) := (hb5.cell (p := ⟨w4.heap.size, 0, none⟩) (by simp)).trans (keep_newd rfl)); (first | have hv5_2_0 : w5.frozen? ⟨w4.heap.size, 0, none⟩ = false := (hb5.frozen (p := ⟨w4.heap.size, 0, none⟩) (by simp)).trans (keepf_new (by simp)) | have hv5_2_0 : w5.frozen? ⟨w4.heap.size, 0, none⟩ = false := (hb5.frozen (p := ⟨w4.heap.size, 0, none⟩) (by simp)).trans (keepf_newd (by simp))); (first | have hy5_2_1 : w5.cell? ⟨w4.heap.size, 1, none⟩ = some (.slice none 0 0) := (hb5.cell (p := ⟨w4.heap.size, 1, none⟩) (by simp)).trans (keep_new rfl) | have hy5_2_1 : w5.cell? ⟨w4.heap.size, 1, none⟩ = some (.slice none 0 0) := (hb5.cell (p := ⟨w4.heap.size, 1, none⟩) (by simp)).trans (keep_newd rfl)); (first | have hv5_2_1 : w5.frozen? ⟨w4.heap.size, 1, none⟩ = false := (hb5.frozen (p := ⟨w4.heap.size, 1, none⟩) (by simp)).trans (keepf_new (by simp)) | have hv5_2_1 : w5.frozen? ⟨w4.heap.size, 1, none⟩ = false := (hb5.frozen (p := ⟨w4.heap.size, 1, none⟩) (by simp)).trans (keepf_newd (by simp))); (first | have hy5_2_2 : w5.cell? ⟨w4.heap.size, 2, none⟩ = some (.int .i64 0) := (hb5.cell (p := ⟨w4.heap.size, 2, none⟩) (by simp)).trans (keep_new rfl) | have hy5_2_2 : w5.cell? ⟨w4.heap.size, 2, none⟩ = some (.int .i64 0) := (hb5.cell (p := ⟨w4.heap.size, 2, none⟩) (by simp)).trans (keep_newd rfl)); (first | have hv5_2_2 : w5.frozen? ⟨w4.heap.size, 2, none⟩ = false := (hb5.frozen (p := ⟨w4.heap.size, 2, none⟩) (by simp)).trans (keepf_new (by simp)) | have hv5_2_2 : w5.frozen? ⟨w4.heap.size, 2, none⟩ = false := (hb5.frozen (p := ⟨w4.heap.size, 2, none⟩) (by simp)).trans (keepf_newd (by simp))))))))
    all_goals go_wp2_with fail
    all_goals go_meet
    all_goals refine ⟨⟨_, ga5, qa5, zs5, gc5, qc5, rfl, (by (first | omega | (simp <;> omega))), (by (first | omega | (simp <;> omega))), (at_cons (by simp [go_sem, *]) (at_cons (by simp [go_sem, *]) (at_cons (by simp [go_sem, *]) at_nil))), ?_, ?_, HZ5.out, ?_⟩, rfl⟩
    all_goals first | with_reducible exact OwnSt.ne_at HX5.out (by (first | omega | (simp <;> omega))) | with_reducible exact (by (repeat' (first | with_reducible refine OwnSt.set_at ?_ HX5.out (by (first | omega | (simp <;> omega))) _ | with_reducible refine OwnSt.alloc1 ?_ _ | with_reducible refine OwnSt.drew1 ?_)); exact OwnSt.le HX5.out (by (first | omega | (simp <;> omega)))) | exact bxt
  obtain ⟨w5, hw5⟩ : ∃ x, x = wc := ⟨_, rfl⟩
  subst hw5
  obtain ⟨⟨β5, ga5, qa5, zs5, gc5, qc5, rfl, hβ5, hβs5, hat5, hown5, hoff5, hqz5, hb5⟩, rfl⟩ := hcut
  have HX5 := Lib.hid hown5
  have HN5 := Lib.hid hoff5
  have HZ5 := Lib.hid hqz5
  clear hown5 hoff5 hqz5
  have hcl5_0 : w5.cell? ⟨β5, 0, none⟩ = some (.slice ga5 zs5.length qa5) := by simpa using hat5 0 _ rfl
  have hcl5_1 : w5.cell? ⟨β5, 1, none⟩ = some (.slice gc5 rr.log.length qc5) := by simpa using hat5 1 _ rfl
  have hcl5_2 : w5.cell? ⟨β5, 2, none⟩ = some (.int .i64 rr.given) := by simpa using hat5 2 _ rfl
  clear hat5
  obtain ⟨hc5, hf5⟩ := bcell hb5
  have hm5 : w2.heap.size ≤ w5.heap.size := by (have hss := hb5.size; first | omega | (simp at hss <;> omega))
  have hs5_0 : w.heap.size < w5.heap.size := by (have hss := hb5.size; first | omega | (simp at hss <;> omega))
  have hs5_1 : w.heap.size + 1 < w5.heap.size := by (have hss := hb5.size; first | omega | (simp at hss <;> omega))
  go_wp2_with fail
  refine (toStore_any a0b _ _ a0l _ _ a0g _ (Ha0b.out.ext bxt) (Ha0bM.out.ext bxt) (Ha0l.out.ext bxt) hla0 Hlm0.out hlc0).mono ?_
  rintro e w6 ⟨gx6, zs6, gy6, rfl, hown, hqz, hb6⟩
  have HX6 := Lib.hid hown; have HZ6 := Lib.hid hqz; clear hown hqz
  obtain ⟨hc6, hf6⟩ := bcell hb6
  have hm6 : w5.heap.size ≤ w6.heap.size := by (have hss := hb6.size; first | omega | (simp at hss <;> omega))
  have hs6_0 : w.heap.size < w6.heap.size := by (have hss := hb6.size; first | omega | (simp at hss <;> omega))
  have hs6_1 : w.heap.size + 1 < w6.heap.size := by (have hss := hb6.size; first | omega | (simp at hss <;> omega))
  have hs6_2 : β5 < w6.heap.size := by (have hss := hb6.size; first | omega | (simp at hss <;> omega))
  go_upto_region 10 with fail
  refine wp_world (fun w7 hw7 => ?_)
  have hb7 : Ext w6 w7 := by (rw [hw7]; exact bxt)
  have hcl7_0_0 : w7.cell? ⟨w6.heap.size, 0, none⟩ = some (.slice (some ⟨gx6, 0, none⟩) zs6.length zs6.length) := by (rw [hw7]; simp [go_sem])
  have hcl7_0_1 : w7.cell? ⟨w6.heap.size, 1, none⟩ = some (.slice (some ⟨gy6, 0, none⟩) a0l.length a0l.length) := by (rw [hw7]; simp [go_sem])
  have hcl7_0_2 : w7.cell? ⟨w6.heap.size, 2, none⟩ = some (.int .i64 a0g) := by (rw [hw7]; simp [go_sem])
  have hz7_0 : w6.heap.size < w7.heap.size := by (rw [hw7]; simp)
  clear hw7
  obtain ⟨hc7, hf7⟩ := bcell hb7
  have hm7 : w6.heap.size ≤ w7.heap.size := by (have hss := hb7.size; first | omega | (simp at hss <;> omega))
  have hs7_0 : w.heap.size < w7.heap.size := by (have hss := hb7.size; first | omega | (simp at hss <;> omega))
  have hs7_1 : w.heap.size + 1 < w7.heap.size := by (have hss := hb7.size; first | omega | (simp at hss <;> omega))
  have hs7_2 : β5 < w7.heap.size := by (have hss := hb7.size; first | omega | (simp at hss <;> omega))
  have hs7_3 : w6.heap.size < w7.heap.size := by (have hss := hb7.size; first | omega | (simp at hss <;> omega))
  go_upto_region 10 with fail
  go_cut [9, 10] (fun v u wx => CutS 42 88 53 rr w7 v wx ∧ u = .bool rok)
  case first =>
    go_region_held3 (fun w' => Below w7.heap.size w7 w' ∧ (∀ b o, b < w7.heap.size → w'.cell? ⟨b, o, none⟩ = w7.cell? ⟨b, o, none⟩)) (first | with_reducible exact sBeg _ | with_reducible exact sExt (by assumption) (by assumption) | (refine sMk2 ?_; exact bxt)) ((first | (go_at_call_of 26 (a1.kind); refine (toCommit_any a1 _).mono ?_; rintro e w8 ⟨rfl, hb8⟩; have hzz8 := hb8.size; (try simp at hzz8); (try (have hx8_0 : w7.heap.size < w8.heap.size := hzz8; (first | have hy8_0_0 : w8.cell? ⟨w7.heap.size, 0, none⟩ = some (.slice none 0 0) := (hb8.cell (p := ⟨w7.heap.size, 0, none⟩) (by simp)).trans (keep_new rfl) | have hy8_0_0 : w8.cell? ⟨w7.heap.size, 0, none⟩ = some (.slice none 0 0) := (hb8.cell (p := ⟨w7.heap.size, 0, none⟩) (by simp)).trans (keep_newd rfl)); (first | have hv8_0_0 : w8.frozen? ⟨w7.heap.size, 0, none⟩ = false := (hb8.frozen (p := ⟨w7.heap.size, 0, none⟩) (by simp)).trans (keepf_new (by simp)) | have hv8_0_0 : w8.frozen? ⟨w7.heap.size, 0, none⟩ = false := (hb8.frozen (p := ⟨w7.heap.size, 0, none⟩) (by simp)).trans (keepf_newd (by simp))); (first | have hy8_0_1 : w8.cell? ⟨w7.heap.size, 1, none⟩ = some (.slice none 0 0) := (hb8.cell (p := ⟨w7.heap.size, 1, none⟩) (by simp)).trans (keep_new rfl) | have hy8_0_1 : w8.cell? ⟨w7.heap.size, 1, none⟩ = some (.slice none 0 0) := (hb8.cell (p := ⟨w7.heap.size, 1, none⟩) (by simp)).trans (keep_newd rfl)); (first | have hv8_0_1 : w8.frozen? ⟨w7.heap.size, 1, none⟩ = false := (hb8.frozen (p := ⟨w7.heap.size, 1, none⟩) (by simp)).trans (keepf_new (by simp)) | have hv8_0_1 : w8.frozen? ⟨w7.heap.size, 1, none⟩ = false := (hb8.frozen (p := ⟨w7.heap.size, 1, none⟩) (by simp)).trans (keepf_newd (by simp))); (first | have hy8_0_2 : w8.cell? ⟨w7.heap.size, 2, none⟩ = some (.int .i64 0) := (hb8.cell (p := ⟨w7.heap.size, 2, none⟩) (by simp)).trans (keep_new rfl) | have hy8_0_2 : w8.cell? ⟨w7.heap.size, 2, none⟩ = some (.int .i64 0) := (hb8.cell (p := ⟨w7.heap.size, 2, none⟩) (by simp)).trans (keep_newd rfl)); (first | have hv8_0_2 : w8.frozen? ⟨w7.heap.size, 2, none⟩ = false := (hb8.frozen (p := ⟨w7.heap.size, 2, none⟩) (by simp)).trans (keepf_new (by simp)) | have hv8_0_2 : w8.frozen? ⟨w7.heap.size, 2, none⟩ = false := (hb8.frozen (p := ⟨w7.heap.size, 2, none⟩) (by simp)).trans (keepf_newd (by simp)))))) | (go_at_call_of 27 (zs6); refine (implCommitted_law zs6 _ _ a0l _ _ a0g a1 _ (HX6.out.box.rd.ext bxt) (HX6.out.box.rdm.ext bxt) ((Rd.of_Own HX6.out.log).ext bxt) (by rw [box_len HZ6.out]; exact hla0) (box_mlen HZ6.out Hlm0.out) hlc0 (box_names HZ6.out Hgsn0.out) (box_texts HZ6.out Hgst0.out) g1name g1text (HMX.out.ext bxt) rr rok (Lib.hid (by rw [HZ6.out]; exact HREL.out))).mono ?_; rintro e w9 ⟨ga9, qa9, zs9, gc9, qc9, rfl, hown, hqz, hb9⟩; have HX9 := Lib.hid hown; have HZ9 := Lib.hid hqz; clear hown hqz; have hzz9 := hb9.size; (try simp at hzz9); (try (have hx9_0 : w7.heap.size < w9.heap.size := Nat.lt_of_lt_of_le hx8_0 hzz9; have hy9_0_0 : w9.cell? ⟨w7.heap.size, 0, none⟩ = some (.slice none 0 0) := (hb9.cell (p := ⟨w7.heap.size, 0, none⟩) hx8_0).trans hy8_0_0; have hv9_0_0 : w9.frozen? ⟨w7.heap.size, 0, none⟩ = false := (hb9.frozen (p := ⟨w7.heap.size, 0, none⟩) hx8_0).trans hv8_0_0; have hy9_0_1 : w9.cell? ⟨w7.heap.size, 1, none⟩ = some (.slice none 0 0) := (hb9.cell (p := ⟨w7.heap.size, 1, none⟩) hx8_0).trans hy8_0_1; have hv9_0_1 : w9.frozen? ⟨w7.heap.size, 1, none⟩ = false := (hb9.frozen (p := ⟨w7.heap.size, 1, none⟩) hx8_0).trans hv8_0_1; have hy9_0_2 : w9.cell? ⟨w7.heap.size, 2, none⟩ = some (.int .i64 0) := (hb9.cell (p := ⟨w7.heap.size, 2, none⟩) hx8_0).trans hy8_0_2; have hv9_0_2 : w9.frozen? ⟨w7.heap.size, 2, none⟩ = false := (hb9.frozen (p := ⟨w7.heap.size, 2, none⟩) hx8_0).trans hv8_0_2)); (try (have hx9_1 : w8.heap.size < w9.heap.size := hzz9; (first | have hy9_1_0 : w9.cell? ⟨w8.heap.size, 0, none⟩ = some (.slice none 0 0) := (hb9.cell (p := ⟨w8.heap.size, 0, none⟩) (by simp)).trans (keep_new rfl) | have hy9_1_0 : w9.cell? ⟨w8.heap.size, 0, none⟩ = some (.slice none 0 0) := (hb9.cell (p := ⟨w8.heap.size, 0, none⟩) (by simp)).trans (keep_newd rfl)); (first | have hv9_1_0 : w9.frozen? ⟨w8.heap.size, 0, none⟩ = false := (hb9.frozen (p := ⟨w8.heap.size, 0, none⟩) (by simp)).trans (keepf_new (by simp)) | have hv9_1_0 : w9.frozen? ⟨w8.heap.size, 0, none⟩ = false := (hb9.frozen (p := ⟨w8.heap.size, 0, none⟩) (by simp)).trans (keepf_newd (by simp))); (first | have hy9_1_1 : w9.cell? ⟨w8.heap.size, 1, none⟩ = some (.slice none 0 0) := (hb9.cell (p := ⟨w8.heap.size, 1, none⟩) (by simp)).trans (keep_new rfl) | have hy9_1_1 : w9.cell? ⟨w8.heap.size, 1, none⟩ = some (.slice none 0 0) := (hb9.cell (p := ⟨w8.heap.size, 1, none⟩) (by simp)).trans (keep_newd rfl)); (first | have hv9_1_1 : w9.frozen? ⟨w8.heap.size, 1, none⟩ = false := (hb9.frozen (p := ⟨w8.heap.size, 1, none⟩) (by simp)).trans (keepf_new (by simp)) | have hv9_1_1 : w9.frozen? ⟨w8.heap.size, 1, none⟩ = false := (hb9.frozen (p := ⟨w8.heap.size, 1, none⟩) (by simp)).trans (keepf_newd (by simp))); (first | have hy9_1_2 : w9.cell? ⟨w8.heap.size, 2, none⟩ = some (.int .i64 0) := (hb9.cell (p := ⟨w8.heap.size, 2, none⟩) (by simp)).trans (keep_new rfl) | have hy9_1_2 : w9.cell? ⟨w8.heap.size, 2, none⟩ = some (.int .i64 0) := (hb9.cell (p := ⟨w8.heap.size, 2, none⟩) (by simp)).trans (keep_newd rfl)); (first | have hv9_1_2 : w9.frozen? ⟨w8.heap.size, 2, none⟩ = false := (hb9.frozen (p := ⟨w8.heap.size, 2, none⟩) (by simp)).trans (keepf_new (by simp)) | have hv9_1_2 : w9.frozen? ⟨w8.heap.size, 2, none⟩ = false := (hb9.frozen (p := ⟨w8.heap.size, 2, none⟩) (by simp)).trans (keepf_newd (by simp))))))))
    all_goals go_wp2_with fail
    all_goals go_meet
    all_goals refine ⟨⟨_, ga9, qa9, zs9, gc9, qc9, rfl, (by (first | omega | (simp <;> omega))), (by (first | omega | (simp <;> omega))), (at_cons (by simp [go_sem, *]) (at_cons (by simp [go_sem, *]) (at_cons (by simp [go_sem, *]) at_nil))), ?_, ?_, HZ9.out, ?_⟩, rfl⟩
    all_goals first | with_reducible exact OwnSt.ne_at HX9.out (by (first | omega | (simp <;> omega))) | with_reducible exact (by (repeat' (first | with_reducible refine OwnSt.set_at ?_ HX9.out (by (first | omega | (simp <;> omega))) _ | with_reducible refine OwnSt.alloc1 ?_ _ | with_reducible refine OwnSt.drew1 ?_)); exact OwnSt.le HX9.out (by (first | omega | (simp <;> omega)))) | exact bxt
  obtain ⟨w9, hw9⟩ : ∃ x, x = wc := ⟨_, rfl⟩
  subst hw9
  obtain ⟨⟨β9, ga9, qa9, zs9, gc9, qc9, rfl, hβ9, hβs9, hat9, hown9, hoff9, hqz9, hb9⟩, rfl⟩ := hcut
  have HX9 := Lib.hid hown9
  have HN9 := Lib.hid hoff9
  have HZ9 := Lib.hid hqz9
  clear hown9 hoff9 hqz9
  have hcl9_0 : w9.cell? ⟨β9, 0, none⟩ = some (.slice ga9 zs9.length qa9) := by simpa using hat9 0 _ rfl
  have hcl9_1 : w9.cell? ⟨β9, 1, none⟩ = some (.slice gc9 rr.log.length qc9) := by simpa using hat9 1 _ rfl
  have hcl9_2 : w9.cell? ⟨β9, 2, none⟩ = some (.int .i64 rr.given) := by simpa using hat9 2 _ rfl
  clear hat9
  obtain ⟨hc9, hf9⟩ := bcell hb9
  have hm9 : w7.heap.size ≤ w9.heap.size := by (have hss := hb9.size; first | omega | (simp at hss <;> omega))
  have hs9_0 : w.heap.size < w9.heap.size := by (have hss := hb9.size; first | omega | (simp at hss <;> omega))
  have hs9_1 : w.heap.size + 1 < w9.heap.size := by (have hss := hb9.size; first | omega | (simp at hss <;> omega))
  have hs9_2 : β5 < w9.heap.size := by (have hss := hb9.size; first | omega | (simp at hss <;> omega))
  have hs9_3 : w6.heap.size < w9.heap.size := by (have hss := hb9.size; first | omega | (simp at hss <;> omega))
  go_wp2_with fail
  refine (eqStore_any zs9 _ _ rr.log _ _ rr.given zs5 _ _ rr.log _ _ rr.given _ (HX9.out.box.rd.ext bxt) (HX9.out.box.rdm.ext bxt) ((Rd.of_Own HX9.out.log).ext bxt) (HX5.out.box.rd.ext bxt) (HX5.out.box.rdm.ext bxt) ((Rd.of_Own HX5.out.log).ext bxt) true (Lib.hid (by rw [HZ9.out, HZ5.out]; simp))).mono ?_
  rintro e w10 ⟨rfl, hb10⟩
  obtain ⟨hc10, hf10⟩ := bcell hb10
  have hm10 : w9.heap.size ≤ w10.heap.size := by (have hss := hb10.size; first | omega | (simp at hss <;> omega))
  have hs10_0 : w.heap.size < w10.heap.size := by (have hss := hb10.size; first | omega | (simp at hss <;> omega))
  have hs10_1 : w.heap.size + 1 < w10.heap.size := by (have hss := hb10.size; first | omega | (simp at hss <;> omega))
  have hs10_2 : β5 < w10.heap.size := by (have hss := hb10.size; first | omega | (simp at hss <;> omega))
  have hs10_3 : w6.heap.size < w10.heap.size := by (have hss := hb10.size; first | omega | (simp at hss <;> omega))
  have hs10_4 : β9 < w10.heap.size := by (have hss := hb10.size; first | omega | (simp at hss <;> omega))
  go_wp2_with fail
  go_region_held3 (fun w' => Below w10.heap.size w10 w' ∧ (∀ b o, b < w10.heap.size → w'.cell? ⟨b, o, none⟩ = w10.cell? ⟨b, o, none⟩)) (first | with_reducible exact sBeg _ | with_reducible exact sExt (by assumption) (by assumption) | (refine sMk2 ?_; exact bxt)) ((first | (go_at_call_of 10 (a0b); refine (toStore_any a0b _ _ a0l _ _ a0g _ (Ha0b.out.ext bxt) (Ha0bM.out.ext bxt) (Ha0l.out.ext bxt) hla0 Hlm0.out hlc0).mono ?_; rintro e w11 ⟨gx11, zs11, gy11, rfl, hown, hqz, hb11⟩; have HX11 := Lib.hid hown; have HZ11 := Lib.hid hqz; clear hown hqz; have hzz11 := hb11.size; (try simp at hzz11)) | (go_at_call_of 12 (zs6); refine (eqStore_any zs6 _ _ a0l _ _ a0g zs11 _ _ a0l _ _ a0g _ (HX6.out.box.rd.ext bxt) (HX6.out.box.rdm.ext bxt) ((Rd.of_Own HX6.out.log).ext bxt) (HX11.out.box.rd.ext bxt) (HX11.out.box.rdm.ext bxt) ((Rd.of_Own HX11.out.log).ext bxt) true (Lib.hid (by rw [HZ6.out, HZ11.out]; simp))).mono ?_; rintro e w12 ⟨rfl, hb12⟩; have hzz12 := hb12.size; (try simp at hzz12))))
  have hbq12 : Ext w10 w12 := Below.ext (Below.ext ((Below.refl _ _).drew) hb11) hb12
  obtain ⟨hc12, hf12⟩ := bcell hbq12
  have hm12 : w10.heap.size ≤ w12.heap.size := by (have hss := hbq12.size; first | omega | (simp at hss <;> omega))
  have hs12_0 : w.heap.size < w12.heap.size := by (have hss := hbq12.size; first | omega | (simp at hss <;> omega))
  have hs12_1 : w.heap.size + 1 < w12.heap.size := by (have hss := hbq12.size; first | omega | (simp at hss <;> omega))
  have hs12_2 : β5 < w12.heap.size := by (have hss := hbq12.size; first | omega | (simp at hss <;> omega))
  have hs12_3 : w6.heap.size < w12.heap.size := by (have hss := hbq12.size; first | omega | (simp at hss <;> omega))
  have hs12_4 : β9 < w12.heap.size := by (have hss := hbq12.size; first | omega | (simp at hss <;> omega))
  go_wp2_with fail
  refine (markStore_any zs6 _ _ a0l _ _ a0g _ (1) _ (HX6.out.ext bxt) (by omega) (by omega) (by rw [cntB_box HZ6.out]; omega) (by omega)).mono ?_
  rintro e w13 ⟨rfl, hown, hg130⟩
  have HM13 := Lib.hid hown
  clear hown
  have hg13 := hg130
  clear hg130
  have hroot13 : Below w.heap.size w w13 := (show Below w.heap.size w w12 from bxt).trans (hg13.below (fun x hx => by (have := (HX6.out.rows_lt x hx).1; first | omega | (simp at this; omega))) (by (first | omega | (simp <;> omega))))
  obtain ⟨hc13, hf13⟩ := hg13.roff
  have hm13 : w12.heap.size ≤ w13.heap.size := hg13.size
  have hs13_0 : w.heap.size < w13.heap.size := by omega
  have hn13_0 : ROff _ (w.heap.size) := fun hS => by (have hq := HX6.out.rows_lt _ hS; first | omega | (simp at hq; omega))
  have hs13_1 : w.heap.size + 1 < w13.heap.size := by omega
  have hn13_1 : ROff _ (w.heap.size + 1) := fun hS => by (have hq := HX6.out.rows_lt _ hS; first | omega | (simp at hq; omega))
  have hs13_2 : β5 < w13.heap.size := by omega
  have hn13_2 : ROff _ (β5) := fun hS => by (have hq := HX6.out.rows_lt _ hS; first | omega | (simp at hq; omega))
  have hs13_3 : w6.heap.size < w13.heap.size := by omega
  have hn13_3 : ROff _ (w6.heap.size) := fun hS => by (have hq := HX6.out.rows_lt _ hS; first | omega | (simp at hq; omega))
  have hs13_4 : β9 < w13.heap.size := by omega
  have hn13_4 : ROff _ (β9) := fun hS => by (have hq := HX6.out.rows_lt _ hS; first | omega | (simp at hq; omega))
  have HR13_9 := Lib.hid (OwnSt.chg (HX9.out.ext bxt) hg13 (fun x hx hS => by (have h8 := HX9.out.rows_lt x hx; have h9 := HX6.out.rows_lt x hS; first | omega | (simp at h8 h9; omega))))
  have HR13_5 := Lib.hid (OwnSt.chg (HX5.out.ext bxt) hg13 (fun x hx hS => by (have h8 := HX5.out.rows_lt x hx; have h9 := HX6.out.rows_lt x hS; first | omega | (simp at h8 h9; omega))))
  clear hg13
  have hcx13 : cntB zs6 ≤ 3145728 := by (rw [cntB_box HZ6.out]; exact hcb0)
  go_wp2_with fail
  refine (eqStore_any zs9 _ _ rr.log _ _ rr.given zs5 _ _ rr.log _ _ rr.given _ (HR13_9.out.box.rd.ext bxt) (HR13_9.out.box.rdm.ext bxt) ((Rd.of_Own HR13_9.out.log).ext bxt) (HR13_5.out.box.rd.ext bxt) (HR13_5.out.box.rdm.ext bxt) ((Rd.of_Own HR13_5.out.log).ext bxt) true (Lib.hid (by rw [HZ9.out, HZ5.out]; simp))).mono ?_
  rintro e w14 ⟨rfl, hb14⟩
  obtain ⟨hc14, hf14⟩ := bcell hb14
  have hm14 : w13.heap.size ≤ w14.heap.size := by (have hss := hb14.size; first | omega | (simp at hss <;> omega))
  have hs14_0 : w.heap.size < w14.heap.size := by (have hss := hb14.size; first | omega | (simp at hss <;> omega))
  have hs14_1 : w.heap.size + 1 < w14.heap.size := by (have hss := hb14.size; first | omega | (simp at hss <;> omega))
  have hs14_2 : β5 < w14.heap.size := by (have hss := hb14.size; first | omega | (simp at hss <;> omega))
  have hs14_3 : w6.heap.size < w14.heap.size := by (have hss := hb14.size; first | omega | (simp at hss <;> omega))
  have hs14_4 : β9 < w14.heap.size := by (have hss := hb14.size; first | omega | (simp at hss <;> omega))
  have hcg : cntB zs9 ≤ 3145728 := by (rw [cntB_D, HZ9.out]; exact hcr)
  go_wp2_with fail
  refine (markStore_any zs9 _ _ rr.log _ _ rr.given _ 1 _ (HR13_9.out.ext bxt) (by omega) (by omega) (by omega) (by omega)).mono ?_
  rintro e w15 ⟨rfl, hown, hg150⟩
  have HM15 := Lib.hid hown
  clear hown
  have hg15 := hg150
  clear hg150
  have hroot15 : Below w.heap.size w w15 := (show Below w.heap.size w w14 from bxt).trans (hg15.below (fun x hx => by (have := (HX9.out.rows_lt x hx).1; first | omega | (simp at this; omega))) (by (first | omega | (simp <;> omega))))
  obtain ⟨hc15, hf15⟩ := hg15.roff
  have hm15 : w14.heap.size ≤ w15.heap.size := hg15.size
  have hs15_0 : w.heap.size < w15.heap.size := by omega
  have hn15_0 : ROff _ (w.heap.size) := fun hS => by (have hq := HX9.out.rows_lt _ hS; first | omega | (simp at hq; omega))
  have hs15_1 : w.heap.size + 1 < w15.heap.size := by omega
  have hn15_1 : ROff _ (w.heap.size + 1) := fun hS => by (have hq := HX9.out.rows_lt _ hS; first | omega | (simp at hq; omega))
  have hs15_2 : β5 < w15.heap.size := by omega
  have hn15_2 : ROff _ (β5) := fun hS => by (have hq := HX9.out.rows_lt _ hS; first | omega | (simp at hq; omega))
  have hs15_3 : w6.heap.size < w15.heap.size := by omega
  have hn15_3 : ROff _ (w6.heap.size) := fun hS => by (have hq := HX9.out.rows_lt _ hS; first | omega | (simp at hq; omega))
  have hs15_4 : β9 < w15.heap.size := by omega
  have hn15_4 : ROff _ (β9) := fun hS => HN9.out _ hS rfl
  have HR15_5 := Lib.hid (OwnSt.chg (HR13_5.out.ext bxt) hg15 (fun x hx hS => by (have h8 := HX5.out.rows_lt x hx; have h9 := HX9.out.rows_lt x hS; first | omega | (simp at h8 h9; omega))))
  clear hg15
  obtain ⟨hgr, hgm, hgl⟩ := HM15.out.heldR
  have HGR := Lib.hid hgr
  have HGM := Lib.hid hgm
  have HGL := Lib.hid hgl
  clear hgr hgm hgl
  go_wp2_with fail
  refine (heldStore_any zs9 _ _ rr.log.length _ _ rr.given 1 _ (HGR.out.ext bxt) (HGM.out.ext bxt) (HGL.out.ext bxt) (by omega) (by omega) (by omega) (by omega)).mono ?_
  rintro e w16 ⟨rfl, hb16⟩
  obtain ⟨hc16, hf16⟩ := bcell hb16
  have hm16 : w15.heap.size ≤ w16.heap.size := by (have hss := hb16.size; first | omega | (simp at hss <;> omega))
  have hs16_0 : w.heap.size < w16.heap.size := by (have hss := hb16.size; first | omega | (simp at hss <;> omega))
  have hs16_1 : w.heap.size + 1 < w16.heap.size := by (have hss := hb16.size; first | omega | (simp at hss <;> omega))
  have hs16_2 : β5 < w16.heap.size := by (have hss := hb16.size; first | omega | (simp at hss <;> omega))
  have hs16_3 : w6.heap.size < w16.heap.size := by (have hss := hb16.size; first | omega | (simp at hss <;> omega))
  have hs16_4 : β9 < w16.heap.size := by (have hss := hb16.size; first | omega | (simp at hss <;> omega))
  go_upto_region 27 with fail
  go_cut [14, 15] (fun v u wx => CutS 42 88 53 rr w16 v wx ∧ u = .bool rok)
  case first =>
    go_region_held3 (fun w' => Below w16.heap.size w16 w' ∧ (∀ b o, b < w16.heap.size → w'.cell? ⟨b, o, none⟩ = w16.cell? ⟨b, o, none⟩)) (first | with_reducible exact sBeg _ | with_reducible exact sExt (by assumption) (by assumption) | (refine sMk2 ?_; exact bxt)) ((first | (go_at_call_of 10 (a0b); refine (toStore_any a0b _ _ a0l _ _ a0g _ (Ha0b.out.ext bxt) (Ha0bM.out.ext bxt) (Ha0l.out.ext bxt) hla0 Hlm0.out hlc0).mono ?_; rintro e w17 ⟨gx17, zs17, gy17, rfl, hown, hqz, hb17⟩; have HX17 := Lib.hid hown; have HZ17 := Lib.hid hqz; clear hown hqz; have hzz17 := hb17.size; (try simp at hzz17); (try (have hx17_0 : w16.heap.size < w17.heap.size := hzz17; (first | have hy17_0_0 : w17.cell? ⟨w16.heap.size, 0, none⟩ = some (.slice none 0 0) := (hb17.cell (p := ⟨w16.heap.size, 0, none⟩) (by simp)).trans (keep_new rfl) | have hy17_0_0 : w17.cell? ⟨w16.heap.size, 0, none⟩ = some (.slice none 0 0) := (hb17.cell (p := ⟨w16.heap.size, 0, none⟩) (by simp)).trans (keep_newd rfl)); (first | have hv17_0_0 : w17.frozen? ⟨w16.heap.size, 0, none⟩ = false := (hb17.frozen (p := ⟨w16.heap.size, 0, none⟩) (by simp)).trans (keepf_new (by simp)) | have hv17_0_0 : w17.frozen? ⟨w16.heap.size, 0, none⟩ = false := (hb17.frozen (p := ⟨w16.heap.size, 0, none⟩) (by simp)).trans (keepf_newd (by simp))); (first | have hy17_0_1 : w17.cell? ⟨w16.heap.size, 1, none⟩ = some (.slice none 0 0) := (hb17.cell (p := ⟨w16.heap.size, 1, none⟩) (by simp)).trans (keep_new rfl) | have hy17_0_1 : w17.cell? ⟨w16.heap.size, 1, none⟩ = some (.slice none 0 0) := (hb17.cell (p := ⟨w16.heap.size, 1, none⟩) (by simp)).trans (keep_newd rfl)); (first | have hv17_0_1 : w17.frozen? ⟨w16.heap.size, 1, none⟩ = false := (hb17.frozen (p := ⟨w16.heap.size, 1, none⟩) (by simp)).trans (keepf_new (by simp)) | have hv17_0_1 : w17.frozen? ⟨w16.heap.size, 1, none⟩ = false := (hb17.frozen (p := ⟨w16.heap.size, 1, none⟩) (by simp)).trans (keepf_newd (by simp))); (first | have hy17_0_2 : w17.cell? ⟨w16.heap.size, 2, none⟩ = some (.int .i64 0) := (hb17.cell (p := ⟨w16.heap.size, 2, none⟩) (by simp)).trans (keep_new rfl) | have hy17_0_2 : w17.cell? ⟨w16.heap.size, 2, none⟩ = some (.int .i64 0) := (hb17.cell (p := ⟨w16.heap.size, 2, none⟩) (by simp)).trans (keep_newd rfl)); (first | have hv17_0_2 : w17.frozen? ⟨w16.heap.size, 2, none⟩ = false := (hb17.frozen (p := ⟨w16.heap.size, 2, none⟩) (by simp)).trans (keepf_new (by simp)) | have hv17_0_2 : w17.frozen? ⟨w16.heap.size, 2, none⟩ = false := (hb17.frozen (p := ⟨w16.heap.size, 2, none⟩) (by simp)).trans (keepf_newd (by simp)))))) | (go_at_call_of 26 (a1.kind); refine (toCommit_any a1 _).mono ?_; rintro e w18 ⟨rfl, hb18⟩; have hzz18 := hb18.size; (try simp at hzz18); (try (have hx18_0 : w16.heap.size < w18.heap.size := Nat.lt_of_lt_of_le hx17_0 hzz18; have hy18_0_0 : w18.cell? ⟨w16.heap.size, 0, none⟩ = some (.slice none 0 0) := (hb18.cell (p := ⟨w16.heap.size, 0, none⟩) hx17_0).trans hy17_0_0; have hv18_0_0 : w18.frozen? ⟨w16.heap.size, 0, none⟩ = false := (hb18.frozen (p := ⟨w16.heap.size, 0, none⟩) hx17_0).trans hv17_0_0; have hy18_0_1 : w18.cell? ⟨w16.heap.size, 1, none⟩ = some (.slice none 0 0) := (hb18.cell (p := ⟨w16.heap.size, 1, none⟩) hx17_0).trans hy17_0_1; have hv18_0_1 : w18.frozen? ⟨w16.heap.size, 1, none⟩ = false := (hb18.frozen (p := ⟨w16.heap.size, 1, none⟩) hx17_0).trans hv17_0_1; have hy18_0_2 : w18.cell? ⟨w16.heap.size, 2, none⟩ = some (.int .i64 0) := (hb18.cell (p := ⟨w16.heap.size, 2, none⟩) hx17_0).trans hy17_0_2; have hv18_0_2 : w18.frozen? ⟨w16.heap.size, 2, none⟩ = false := (hb18.frozen (p := ⟨w16.heap.size, 2, none⟩) hx17_0).trans hv17_0_2)); (try (have hx18_1 : w17.heap.size < w18.heap.size := hzz18; (first | have hy18_1_0 : w18.cell? ⟨w17.heap.size, 0, none⟩ = some (.slice none 0 0) := (hb18.cell (p := ⟨w17.heap.size, 0, none⟩) (by simp)).trans (keep_new rfl) | have hy18_1_0 : w18.cell? ⟨w17.heap.size, 0, none⟩ = some (.slice none 0 0) := (hb18.cell (p := ⟨w17.heap.size, 0, none⟩) (by simp)).trans (keep_newd rfl)); (first | have hv18_1_0 : w18.frozen? ⟨w17.heap.size, 0, none⟩ = false := (hb18.frozen (p := ⟨w17.heap.size, 0, none⟩) (by simp)).trans (keepf_new (by simp)) | have hv18_1_0 : w18.frozen? ⟨w17.heap.size, 0, none⟩ = false := (hb18.frozen (p := ⟨w17.heap.size, 0, none⟩) (by simp)).trans (keepf_newd (by simp))); (first | have hy18_1_1 : w18.cell? ⟨w17.heap.size, 1, none⟩ = some (.slice none 0 0) := (hb18.cell (p := ⟨w17.heap.size, 1, none⟩) (by simp)).trans (keep_new rfl) | have hy18_1_1 : w18.cell? ⟨w17.heap.size, 1, none⟩ = some (.slice none 0 0) := (hb18.cell (p := ⟨w17.heap.size, 1, none⟩) (by simp)).trans (keep_newd rfl)); (first | have hv18_1_1 : w18.frozen? ⟨w17.heap.size, 1, none⟩ = false := (hb18.frozen (p := ⟨w17.heap.size, 1, none⟩) (by simp)).trans (keepf_new (by simp)) | have hv18_1_1 : w18.frozen? ⟨w17.heap.size, 1, none⟩ = false := (hb18.frozen (p := ⟨w17.heap.size, 1, none⟩) (by simp)).trans (keepf_newd (by simp))); (first | have hy18_1_2 : w18.cell? ⟨w17.heap.size, 2, none⟩ = some (.int .i64 0) := (hb18.cell (p := ⟨w17.heap.size, 2, none⟩) (by simp)).trans (keep_new rfl) | have hy18_1_2 : w18.cell? ⟨w17.heap.size, 2, none⟩ = some (.int .i64 0) := (hb18.cell (p := ⟨w17.heap.size, 2, none⟩) (by simp)).trans (keep_newd rfl)); (first | have hv18_1_2 : w18.frozen? ⟨w17.heap.size, 2, none⟩ = false := (hb18.frozen (p := ⟨w17.heap.size, 2, none⟩) (by simp)).trans (keepf_new (by simp)) | have hv18_1_2 : w18.frozen? ⟨w17.heap.size, 2, none⟩ = false := (hb18.frozen (p := ⟨w17.heap.size, 2, none⟩) (by simp)).trans (keepf_newd (by simp)))))) | (go_at_call_of 27 (zs17); refine (implCommitted_law zs17 _ _ a0l _ _ a0g a1 _ (HX17.out.box.rd.ext bxt) (HX17.out.box.rdm.ext bxt) ((Rd.of_Own HX17.out.log).ext bxt) (by rw [box_len HZ17.out]; exact hla0) (box_mlen HZ17.out Hlm0.out) hlc0 (box_names HZ17.out Hgsn0.out) (box_texts HZ17.out Hgst0.out) g1name g1text (HMX.out.ext bxt) rr rok (Lib.hid (by rw [HZ17.out]; exact HREL.out))).mono ?_; rintro e w19 ⟨ga19, qa19, zs19, gc19, qc19, rfl, hown, hqz, hb19⟩; have HX19 := Lib.hid hown; have HZ19 := Lib.hid hqz; clear hown hqz; have hzz19 := hb19.size; (try simp at hzz19); (try (have hx19_0 : w16.heap.size < w19.heap.size := Nat.lt_of_lt_of_le hx18_0 hzz19; have hy19_0_0 : w19.cell? ⟨w16.heap.size, 0, none⟩ = some (.slice none 0 0) := (hb19.cell (p := ⟨w16.heap.size, 0, none⟩) hx18_0).trans hy18_0_0; have hv19_0_0 : w19.frozen? ⟨w16.heap.size, 0, none⟩ = false := (hb19.frozen (p := ⟨w16.heap.size, 0, none⟩) hx18_0).trans hv18_0_0; have hy19_0_1 : w19.cell? ⟨w16.heap.size, 1, none⟩ = some (.slice none 0 0) := (hb19.cell (p := ⟨w16.heap.size, 1, none⟩) hx18_0).trans hy18_0_1; have hv19_0_1 : w19.frozen? ⟨w16.heap.size, 1, none⟩ = false := (hb19.frozen (p := ⟨w16.heap.size, 1, none⟩) hx18_0).trans hv18_0_1; have hy19_0_2 : w19.cell? ⟨w16.heap.size, 2, none⟩ = some (.int .i64 0) := (hb19.cell (p := ⟨w16.heap.size, 2, none⟩) hx18_0).trans hy18_0_2; have hv19_0_2 : w19.frozen? ⟨w16.heap.size, 2, none⟩ = false := (hb19.frozen (p := ⟨w16.heap.size, 2, none⟩) hx18_0).trans hv18_0_2)); (try (have hx19_1 : w17.heap.size < w19.heap.size := Nat.lt_of_lt_of_le hx18_1 hzz19; have hy19_1_0 : w19.cell? ⟨w17.heap.size, 0, none⟩ = some (.slice none 0 0) := (hb19.cell (p := ⟨w17.heap.size, 0, none⟩) hx18_1).trans hy18_1_0; have hv19_1_0 : w19.frozen? ⟨w17.heap.size, 0, none⟩ = false := (hb19.frozen (p := ⟨w17.heap.size, 0, none⟩) hx18_1).trans hv18_1_0; have hy19_1_1 : w19.cell? ⟨w17.heap.size, 1, none⟩ = some (.slice none 0 0) := (hb19.cell (p := ⟨w17.heap.size, 1, none⟩) hx18_1).trans hy18_1_1; have hv19_1_1 : w19.frozen? ⟨w17.heap.size, 1, none⟩ = false := (hb19.frozen (p := ⟨w17.heap.size, 1, none⟩) hx18_1).trans hv18_1_1; have hy19_1_2 : w19.cell? ⟨w17.heap.size, 2, none⟩ = some (.int .i64 0) := (hb19.cell (p := ⟨w17.heap.size, 2, none⟩) hx18_1).trans hy18_1_2; have hv19_1_2 : w19.frozen? ⟨w17.heap.size, 2, none⟩ = false := (hb19.frozen (p := ⟨w17.heap.size, 2, none⟩) hx18_1).trans hv18_1_2)); (try (have hx19_2 : w18.heap.size < w19.heap.size := hzz19; (first | have hy19_2_0 : w19.cell? ⟨w18.heap.size, 0, none⟩ = some (.slice none 0 0) := (hb19.cell (p := ⟨w18.heap.size, 0, none⟩) (by simp)).trans (keep_new rfl) | have hy19_2_0 : w19.cell? ⟨w18.heap.size, 0, none⟩ = some (.slice none 0 0) := (hb19.cell (p := ⟨w18.heap.size, 0, none⟩) (by simp)).trans (keep_newd rfl)); (first | have hv19_2_0 : w19.frozen? ⟨w18.heap.size, 0, none⟩ = false := (hb19.frozen (p := ⟨w18.heap.size, 0, none⟩) (by simp)).trans (keepf_new (by simp)) | have hv19_2_0 : w19.frozen? ⟨w18.heap.size, 0, none⟩ = false := (hb19.frozen (p := ⟨w18.heap.size, 0, none⟩) (by simp)).trans (keepf_newd (by simp))); (first | have hy19_2_1 : w19.cell? ⟨w18.heap.size, 1, none⟩ = some (.slice none 0 0) := (hb19.cell (p := ⟨w18.heap.size, 1, none⟩) (by simp)).trans (keep_new rfl) | have hy19_2_1 : w19.cell? ⟨w18.heap.size, 1, none⟩ = some (.slice none 0 0) := (hb19.cell (p := ⟨w18.heap.size, 1, none⟩) (by simp)).trans (keep_newd rfl)); (first | have hv19_2_1 : w19.frozen? ⟨w18.heap.size, 1, none⟩ = false := (hb19.frozen (p := ⟨w18.heap.size, 1, none⟩) (by simp)).trans (keepf_new (by simp)) | have hv19_2_1 : w19.frozen? ⟨w18.heap.size, 1, none⟩ = false := (hb19.frozen (p := ⟨w18.heap.size, 1, none⟩) (by simp)).trans (keepf_newd (by simp))); (first | have hy19_2_2 : w19.cell? ⟨w18.heap.size, 2, none⟩ = some (.int .i64 0) := (hb19.cell (p := ⟨w18.heap.size, 2, none⟩) (by simp)).trans (keep_new rfl) | have hy19_2_2 : w19.cell? ⟨w18.heap.size, 2, none⟩ = some (.int .i64 0) := (hb19.cell (p := ⟨w18.heap.size, 2, none⟩) (by simp)).trans (keep_newd rfl)); (first | have hv19_2_2 : w19.frozen? ⟨w18.heap.size, 2, none⟩ = false := (hb19.frozen (p := ⟨w18.heap.size, 2, none⟩) (by simp)).trans (keepf_new (by simp)) | have hv19_2_2 : w19.frozen? ⟨w18.heap.size, 2, none⟩ = false := (hb19.frozen (p := ⟨w18.heap.size, 2, none⟩) (by simp)).trans (keepf_newd (by simp))))))))
    all_goals go_wp2_with fail
    all_goals go_meet
    all_goals refine ⟨⟨_, ga19, qa19, zs19, gc19, qc19, rfl, (by (first | omega | (simp <;> omega))), (by (first | omega | (simp <;> omega))), (at_cons (by simp [go_sem, *]) (at_cons (by simp [go_sem, *]) (at_cons (by simp [go_sem, *]) at_nil))), ?_, ?_, HZ19.out, ?_⟩, rfl⟩
    all_goals first | with_reducible exact OwnSt.ne_at HX19.out (by (first | omega | (simp <;> omega))) | with_reducible exact (by (repeat' (first | with_reducible refine OwnSt.set_at ?_ HX19.out (by (first | omega | (simp <;> omega))) _ | with_reducible refine OwnSt.alloc1 ?_ _ | with_reducible refine OwnSt.drew1 ?_)); exact OwnSt.le HX19.out (by (first | omega | (simp <;> omega)))) | exact bxt
  obtain ⟨w19, hw19⟩ : ∃ x, x = wc := ⟨_, rfl⟩
  subst hw19
  obtain ⟨⟨β19, ga19, qa19, zs19, gc19, qc19, rfl, hβ19, hβs19, hat19, hown19, hoff19, hqz19, hb19⟩, rfl⟩ := hcut
  have HX19 := Lib.hid hown19
  have HN19 := Lib.hid hoff19
  have HZ19 := Lib.hid hqz19
  clear hown19 hoff19 hqz19
  have hcl19_0 : w19.cell? ⟨β19, 0, none⟩ = some (.slice ga19 zs19.length qa19) := by simpa using hat19 0 _ rfl
  have hcl19_1 : w19.cell? ⟨β19, 1, none⟩ = some (.slice gc19 rr.log.length qc19) := by simpa using hat19 1 _ rfl
  have hcl19_2 : w19.cell? ⟨β19, 2, none⟩ = some (.int .i64 rr.given) := by simpa using hat19 2 _ rfl
  clear hat19
  obtain ⟨hc19, hf19⟩ := bcell hb19
  have hm19 : w16.heap.size ≤ w19.heap.size := by (have hss := hb19.size; first | omega | (simp at hss <;> omega))
  have hs19_0 : w.heap.size < w19.heap.size := by (have hss := hb19.size; first | omega | (simp at hss <;> omega))
  have hs19_1 : w.heap.size + 1 < w19.heap.size := by (have hss := hb19.size; first | omega | (simp at hss <;> omega))
  have hs19_2 : β5 < w19.heap.size := by (have hss := hb19.size; first | omega | (simp at hss <;> omega))
  have hs19_3 : w6.heap.size < w19.heap.size := by (have hss := hb19.size; first | omega | (simp at hss <;> omega))
  have hs19_4 : β9 < w19.heap.size := by (have hss := hb19.size; first | omega | (simp at hss <;> omega))
  go_wp2_with fail
  refine (eqStore_any zs19 _ _ rr.log _ _ rr.given zs5 _ _ rr.log _ _ rr.given _ (HX19.out.box.rd.ext bxt) (HX19.out.box.rdm.ext bxt) ((Rd.of_Own HX19.out.log).ext bxt) (HR15_5.out.box.rd.ext bxt) (HR15_5.out.box.rdm.ext bxt) ((Rd.of_Own HR15_5.out.log).ext bxt) true (Lib.hid (by rw [HZ19.out, HZ5.out]; simp))).mono ?_
  rintro e w20 ⟨rfl, hb20⟩
  obtain ⟨hc20, hf20⟩ := bcell hb20
  have hm20 : w19.heap.size ≤ w20.heap.size := by (have hss := hb20.size; first | omega | (simp at hss <;> omega))
  have hs20_0 : w.heap.size < w20.heap.size := by (have hss := hb20.size; first | omega | (simp at hss <;> omega))
  have hs20_1 : w.heap.size + 1 < w20.heap.size := by (have hss := hb20.size; first | omega | (simp at hss <;> omega))
  have hs20_2 : β5 < w20.heap.size := by (have hss := hb20.size; first | omega | (simp at hss <;> omega))
  have hs20_3 : w6.heap.size < w20.heap.size := by (have hss := hb20.size; first | omega | (simp at hss <;> omega))
  have hs20_4 : β9 < w20.heap.size := by (have hss := hb20.size; first | omega | (simp at hss <;> omega))
  have hs20_5 : β19 < w20.heap.size := by (have hss := hb20.size; first | omega | (simp at hss <;> omega))
  go_wp2_with fail
  refine (heldStore_any zs9 _ _ rr.log.length _ _ rr.given 1 _ (HGR.out.ext bxt) (HGM.out.ext bxt) (HGL.out.ext bxt) (by omega) (by omega) (by omega) (by omega)).mono ?_
  rintro e w21 ⟨rfl, hb21⟩
  obtain ⟨hc21, hf21⟩ := bcell hb21
  have hm21 : w20.heap.size ≤ w21.heap.size := by (have hss := hb21.size; first | omega | (simp at hss <;> omega))
  have hs21_0 : w.heap.size < w21.heap.size := by (have hss := hb21.size; first | omega | (simp at hss <;> omega))
  have hs21_1 : w.heap.size + 1 < w21.heap.size := by (have hss := hb21.size; first | omega | (simp at hss <;> omega))
  have hs21_2 : β5 < w21.heap.size := by (have hss := hb21.size; first | omega | (simp at hss <;> omega))
  have hs21_3 : w6.heap.size < w21.heap.size := by (have hss := hb21.size; first | omega | (simp at hss <;> omega))
  have hs21_4 : β9 < w21.heap.size := by (have hss := hb21.size; first | omega | (simp at hss <;> omega))
  have hs21_5 : β19 < w21.heap.size := by (have hss := hb21.size; first | omega | (simp at hss <;> omega))
  go_wp2_with fail
  go_ret
  exact ⟨rfl, bxt⟩

end Go.Proofs.YtdigkaddmpdeoaaGreat
