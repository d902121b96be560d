/-
  The law FnExactCommitAll: its walk, out of the contracts of what it calls.
-/
import Derived.Test.YtdigkaddmpdeoaaGreatWComAllS
import Derived.Test.YtdigkaddmpdeoaaGreatWComAll
import Derived.Test.YtdigkaddmpdeoaaGreatHeldBoxS
import Derived.Test.YtdigkaddmpdeoaaGreatMarkStore
import Derived.Test.YtdigkaddmpdeoaaGreatWCutS
import Derived.Test.YtdigkaddmpdeoaaGreatXMark
import Derived.Test.YtdigkaddmpdeoaaGreatFamCommit
import Derived.Test.YtdigkaddmpdeoaaGreatXOwn
namespace Go.Proofs.YtdigkaddmpdeoaaGreat
open Go.RowKit
set_option linter.unusedVariables false
set_option linter.unusedSimpArgs false

theorem sMk2 {W w : World} (h3 : Below W.heap.size W w) : Below W.heap.size W w ∧ (∀ b o, b < W.heap.size → w.cell? ⟨b, o, none⟩ = W.cell? ⟨b, o, none⟩) := ⟨h3, (bcell h3).1⟩
set_option maxRecDepth 100000 in
set_option maxHeartbeats 8000000 in
theorem fnExactCommitAll_walk (a0b : List PBox) (a0bA : Option Addr) (a0bC : Nat) (a0l : List DCommit) (a0lA : Option Addr) (a0lC : Nat) (a0g : Int) (a1 : List DCommit) (a1A : Option Addr) (a1C : Nat) (w : World) : (MaxLen w) → (Rd w a0bA a0bC 4 a0b.length (a0b.flatMap PBox.cells)) → (RdM w a0b) → (Rd w a0lA a0lC 6 a0l.length (a0l.flatMap DCommit.cells)) → (∀ y ∈ a0b, y.name.size ≤ 9223372036854775807) → (∀ y ∈ a0b, ∀ m ∈ y.msgs, m.text.size ≤ 9223372036854775807) → (∀ y ∈ a0l, y.name.size ≤ 9223372036854775807) → (∀ y ∈ a0l, y.text.size ≤ 9223372036854775807) → (Rd w a1A a1C 6 a1.length (a1.flatMap DCommit.cells)) → (∀ y ∈ a1, y.name.size ≤ 9223372036854775807 ∧ y.text.size ≤ 9223372036854775807) →
    Calls Tryz.prog 7 #[.agg #[.slice a0bA a0b.length a0bC, .slice a0lA a0l.length a0lC, .int .i64 a0g], .slice a1A a1.length a1C] w fun e w' => e = .returned (.bool true) ∧ Below w.heap.size w w' := by
  intro hmx a0bR a0bM a0lR gsn0 gst0 gsc0 gsd0 a1R gs1
  have HMX := Lib.hid hmx
  clear hmx
  obtain ⟨rr, rok, hrel⟩ : ∃ rr rok, CmtAllRel (⟨a0b.map PBox.box, a0l, a0g⟩ : DStore) a1 rr rok := cmtAllRel_ex _ _
  have HREL := Lib.hid hrel
  clear hrel
  have Ha0b := Lib.hid a0bR
  clear a0bR
  have Ha0l := Lib.hid a0lR
  clear a0lR
  have Ha1 := Lib.hid a1R
  clear a1R
  have Ha0bM := Lib.hid a0bM
  clear a0bM
  have Hgsn0 := Lib.hid gsn0
  clear gsn0
  have Hgst0 := Lib.hid gst0
  clear gst0
  have Hgsc0 := Lib.hid gsc0
  clear gsc0
  have Hgsd0 := Lib.hid gsd0
  clear gsd0
  have Hgs1 := Lib.hid gs1
  clear gs1
  go_enter Tryz.func7, Tryz.ntmps7
  go_wp2_with fail
  refine (szStore_any a0b _ _ a0l _ _ a0g 1048576 _ (Ha0b.out.ext bxt) (Ha0bM.out.ext bxt) (Ha0l.out.ext bxt) (by omega) (by omega) Hgsn0.out Hgst0.out Hgsc0.out Hgsd0.out).mono ?_
  rintro e w1 ⟨left1, rfl, hz1, hb1⟩
  obtain ⟨hc1, hf1⟩ := bcell hb1
  have hm1 : w.heap.size ≤ w1.heap.size := by (have hss := hb1.size; first | omega | (simp at hss <;> omega))
  have hs1_0 : w.heap.size < w1.heap.size := by (have hss := hb1.size; first | omega | (simp at hss <;> omega))
  rcases hz1 with hz1 | ⟨hz10, hz1⟩
  · go_wp2_with fail
    go_ret
    exact ⟨rfl, bxt⟩
  have hlt1 : left1 ≤ 1048576 := by omega
  have hla0 : a0b.length ≤ 1048576 := by (have := PBox.len_le a0b; omega)
  have hcb0 : cntB a0b ≤ 3145728 := by (have := cntB_sz a0b; omega)
  have Hlm0 : Hid (∀ y ∈ a0b, y.msgs.length ≤ 1048576) := fun y hy => by
    obtain ⟨q, hq, rfl⟩ := List.getElem_of_mem hy
    have := PBox.msgs_le a0b q hq
    omega
  have hlc0 : a0l.length ≤ 1048576 := by (have := DCommit.len_le a0l; omega)
  clear hz1
  go_wp2_with fail
  refine (szCommitS_any a1 _ _ left1 _ (Ha1.out.ext bxt) (by omega) (by omega) (fun y hy => (Hgs1.out y hy).1) (fun y hy => (Hgs1.out y hy).2)).mono ?_
  rintro e w2 ⟨left2, rfl, hz2, hb2⟩
  obtain ⟨hc2, hf2⟩ := bcell hb2
  have hm2 : w1.heap.size ≤ w2.heap.size := by (have hss := hb2.size; first | omega | (simp at hss <;> omega))
  have hs2_0 : w.heap.size < w2.heap.size := by (have hss := hb2.size; first | omega | (simp at hss <;> omega))
  rcases hz2 with hz2 | ⟨hz20, hz2⟩
  · go_wp2_with fail
    go_ret
    exact ⟨rfl, bxt⟩
  have hlt2 : left2 ≤ 1048576 := by omega
  have hla1 : a1.length ≤ 1048576 := by (have := DCommit.len_le a1; omega)
  clear hz2
  have hcr : cntD rr.boxes ≤ 3145728 ∧ rr.log.length ≤ 1048576 := cmtAllRel_cnt HREL.out (by rw [← cntB_D]; exact hcb0) hlc0
  obtain ⟨hcr, hcl⟩ := hcr
  go_wp2_with fail
  refine (toStore_any a0b _ _ a0l _ _ a0g _ (Ha0b.out.ext bxt) (Ha0bM.out.ext bxt) (Ha0l.out.ext bxt) hla0 Hlm0.out hlc0).mono ?_
  rintro e w3 ⟨gx3, zs3, gy3, rfl, hown, hqz, hb3⟩
  have HX3 := Lib.hid hown; have HZ3 := Lib.hid hqz; clear hown hqz
  obtain ⟨hc3, hf3⟩ := bcell hb3
  have hm3 : w2.heap.size ≤ w3.heap.size := by (have hss := hb3.size; first | omega | (simp at hss <;> omega))
  have hs3_0 : w.heap.size < w3.heap.size := by (have hss := hb3.size; first | omega | (simp at hss <;> omega))
  go_wp2_with fail
  refine (toCommitS_any a1 _ _ _ (Ha1.out.ext bxt) hla1).mono ?_
  rintro e w4 ⟨gx4, rfl, hown, hb4⟩
  have HX4 := Lib.hid (Own.of_row hown); clear hown
  obtain ⟨hc4, hf4⟩ := bcell hb4
  have hm4 : w3.heap.size ≤ w4.heap.size := by (have hss := hb4.size; first | omega | (simp at hss <;> omega))
  have hs4_0 : w.heap.size < w4.heap.size := by (have hss := hb4.size; first | omega | (simp at hss <;> omega))
  go_wp2_with fail
  refine (specCommitAll_law zs3 _ _ a0l _ _ a0g a1 _ _ _ (HX3.out.box.rd.ext bxt) (HX3.out.box.rdm.ext bxt) ((Rd.of_Own HX3.out.log).ext bxt) (by rw [box_len HZ3.out]; exact hla0) (box_mlen HZ3.out Hlm0.out) hlc0 (box_names HZ3.out Hgsn0.out) (box_texts HZ3.out Hgst0.out) (fun y hy => ⟨Hgsc0.out y hy, Hgsd0.out y hy⟩) ((Rd.of_Own HX4.out).ext bxt) hla1 Hgs1.out rr rok (Lib.hid (by rw [HZ3.out]; exact HREL.out))).mono ?_
  rintro e w5 ⟨ga5, qa5, zs5, gc5, qc5, rfl, hown, hqz, hb5⟩
  have HX5 := Lib.hid hown; have HZ5 := Lib.hid hqz; clear hown hqz
  obtain ⟨hc5, hf5⟩ := bcell hb5
  have hm5 : w4.heap.size ≤ w5.heap.size := by (have hss := hb5.size; first | omega | (simp at hss <;> omega))
  have hs5_0 : w.heap.size < w5.heap.size := by (have hss := hb5.size; first | omega | (simp at hss <;> omega))
  go_wp2_with fail
  refine (toStore_any a0b _ _ a0l _ _ a0g _ (Ha0b.out.ext bxt) (Ha0bM.out.ext bxt) (Ha0l.out.ext bxt) hla0 Hlm0.out hlc0).mono ?_
  rintro e w6 ⟨gx6, zs6, gy6, rfl, hown, hqz, hb6⟩
  have HX6 := Lib.hid hown; have HZ6 := Lib.hid hqz; clear hown hqz
  obtain ⟨hc6, hf6⟩ := bcell hb6
  have hm6 : w5.heap.size ≤ w6.heap.size := by (have hss := hb6.size; first | omega | (simp at hss <;> omega))
  have hs6_0 : w.heap.size < w6.heap.size := by (have hss := hb6.size; first | omega | (simp at hss <;> omega))
  have hs6_1 : w5.heap.size < w6.heap.size := by (have hss := hb6.size; first | omega | (simp at hss <;> omega))
  go_wp2_with fail
  refine (toCommitS_any a1 _ _ _ (Ha1.out.ext bxt) hla1).mono ?_
  rintro e w7 ⟨gx7, rfl, hown, hb7⟩
  have HX7 := Lib.hid (Own.of_row hown); clear hown
  obtain ⟨hc7, hf7⟩ := bcell hb7
  have hm7 : w6.heap.size ≤ w7.heap.size := by (have hss := hb7.size; first | omega | (simp at hss <;> omega))
  have hs7_0 : w.heap.size < w7.heap.size := by (have hss := hb7.size; first | omega | (simp at hss <;> omega))
  have hs7_1 : w5.heap.size < w7.heap.size := by (have hss := hb7.size; first | omega | (simp at hss <;> omega))
  have hs7_2 : w6.heap.size < w7.heap.size := by (have hss := hb7.size; first | omega | (simp at hss <;> omega))
  go_wp2_with fail
  refine (implCommitAll_law zs6 _ _ a0l _ _ a0g a1 _ _ _ (HX6.out.box.rd.ext bxt) (HX6.out.box.rdm.ext bxt) ((Rd.of_Own HX6.out.log).ext bxt) (by rw [box_len HZ6.out]; exact hla0) (box_mlen HZ6.out Hlm0.out) hlc0 (box_names HZ6.out Hgsn0.out) (box_texts HZ6.out Hgst0.out) (fun y hy => ⟨Hgsc0.out y hy, Hgsd0.out y hy⟩) ((Rd.of_Own HX7.out).ext bxt) hla1 Hgs1.out (HMX.out.ext bxt) rr rok (Lib.hid (by rw [HZ6.out]; exact HREL.out))).mono ?_
  rintro e w8 ⟨ga8, qa8, zs8, gc8, qc8, rfl, hown, hqz, hb8⟩
  have HX8 := Lib.hid hown; have HZ8 := Lib.hid hqz; clear hown hqz
  obtain ⟨hc8, hf8⟩ := bcell hb8
  have hm8 : w7.heap.size ≤ w8.heap.size := by (have hss := hb8.size; first | omega | (simp at hss <;> omega))
  have hs8_0 : w.heap.size < w8.heap.size := by (have hss := hb8.size; first | omega | (simp at hss <;> omega))
  have hs8_1 : w5.heap.size < w8.heap.size := by (have hss := hb8.size; first | omega | (simp at hss <;> omega))
  have hs8_2 : w6.heap.size < w8.heap.size := by (have hss := hb8.size; first | omega | (simp at hss <;> omega))
  go_wp2_with fail
  refine (eqStore_any zs8 _ _ rr.log _ _ rr.given zs5 _ _ rr.log _ _ rr.given _ (HX8.out.box.rd.ext bxt) (HX8.out.box.rdm.ext bxt) ((Rd.of_Own HX8.out.log).ext bxt) (HX5.out.box.rd.ext bxt) (HX5.out.box.rdm.ext bxt) ((Rd.of_Own HX5.out.log).ext bxt) true (Lib.hid (by rw [HZ8.out, HZ5.out]; simp))).mono ?_
  rintro e w9 ⟨rfl, hb9⟩
  obtain ⟨hc9, hf9⟩ := bcell hb9
  have hm9 : w8.heap.size ≤ w9.heap.size := by (have hss := hb9.size; first | omega | (simp at hss <;> omega))
  have hs9_0 : w.heap.size < w9.heap.size := by (have hss := hb9.size; first | omega | (simp at hss <;> omega))
  have hs9_1 : w5.heap.size < w9.heap.size := by (have hss := hb9.size; first | omega | (simp at hss <;> omega))
  have hs9_2 : w6.heap.size < w9.heap.size := by (have hss := hb9.size; first | omega | (simp at hss <;> omega))
  have hs9_3 : w8.heap.size < w9.heap.size := by (have hss := hb9.size; first | omega | (simp at hss <;> omega))
  go_wp2_with fail
  go_region_held3 (fun w' => Below w9.heap.size w9 w' ∧ (∀ b o, b < w9.heap.size → w'.cell? ⟨b, o, none⟩ = w9.cell? ⟨b, o, none⟩)) (first | with_reducible exact sBeg _ | with_reducible exact sExt (by assumption) (by assumption) | (refine sMk2 ?_; exact bxt)) ((first | (go_at_call_of 10 (a0b); refine (toStore_any a0b _ _ a0l _ _ a0g _ (Ha0b.out.ext bxt) (Ha0bM.out.ext bxt) (Ha0l.out.ext bxt) hla0 Hlm0.out hlc0).mono ?_; rintro e w10 ⟨gx10, zs10, gy10, rfl, hown, hqz, hb10⟩; have HX10 := Lib.hid hown; have HZ10 := Lib.hid hqz; clear hown hqz; have hzz10 := hb10.size; (try simp at hzz10)) | (go_at_call_of 12 (zs6); refine (eqStore_any zs6 _ _ a0l _ _ a0g zs10 _ _ a0l _ _ a0g _ (HX6.out.box.rd.ext bxt) (HX6.out.box.rdm.ext bxt) ((Rd.of_Own HX6.out.log).ext bxt) (HX10.out.box.rd.ext bxt) (HX10.out.box.rdm.ext bxt) ((Rd.of_Own HX10.out.log).ext bxt) true (Lib.hid (by rw [HZ6.out, HZ10.out]; simp))).mono ?_; rintro e w11 ⟨rfl, hb11⟩; have hzz11 := hb11.size; (try simp at hzz11))))
  have hbq11 : Ext w9 w11 := Below.ext (Below.ext ((Below.refl _ _).drew) hb10) hb11
  obtain ⟨hc11, hf11⟩ := bcell hbq11
  have hm11 : w9.heap.size ≤ w11.heap.size := by (have hss := hbq11.size; first | omega | (simp at hss <;> omega))
  have hs11_0 : w.heap.size < w11.heap.size := by (have hss := hbq11.size; first | omega | (simp at hss <;> omega))
  have hs11_1 : w5.heap.size < w11.heap.size := by (have hss := hbq11.size; first | omega | (simp at hss <;> omega))
  have hs11_2 : w6.heap.size < w11.heap.size := by (have hss := hbq11.size; first | omega | (simp at hss <;> omega))
  have hs11_3 : w8.heap.size < w11.heap.size := by (have hss := hbq11.size; first | omega | (simp at hss <;> omega))
  go_wp2_with fail
  refine (toCommitS_any a1 _ _ _ (Ha1.out.ext bxt) hla1).mono ?_
  rintro e w12 ⟨gx12, rfl, hown, hb12⟩
  have HX12 := Lib.hid (Own.of_row hown); clear hown
  obtain ⟨hc12, hf12⟩ := bcell hb12
  have hm12 : w11.heap.size ≤ w12.heap.size := by (have hss := hb12.size; first | omega | (simp at hss <;> omega))
  have hs12_0 : w.heap.size < w12.heap.size := by (have hss := hb12.size; first | omega | (simp at hss <;> omega))
  have hs12_1 : w5.heap.size < w12.heap.size := by (have hss := hb12.size; first | omega | (simp at hss <;> omega))
  have hs12_2 : w6.heap.size < w12.heap.size := by (have hss := hb12.size; first | omega | (simp at hss <;> omega))
  have hs12_3 : w8.heap.size < w12.heap.size := by (have hss := hb12.size; first | omega | (simp at hss <;> omega))
  go_wp2_with fail
  refine (eqCommitS_any a1 a1 _ _ _ _ _ ((Rd.of_Own HX7.out).ext bxt) ((Rd.of_Own HX12.out).ext bxt) true (by simp [Hid])).mono ?_
  rintro e w13 ⟨rfl, hb13⟩
  obtain ⟨hc13, hf13⟩ := bcell hb13
  have hm13 : w12.heap.size ≤ w13.heap.size := by (have hss := hb13.size; first | omega | (simp at hss <;> omega))
  have hs13_0 : w.heap.size < w13.heap.size := by (have hss := hb13.size; first | omega | (simp at hss <;> omega))
  have hs13_1 : w5.heap.size < w13.heap.size := by (have hss := hb13.size; first | omega | (simp at hss <;> omega))
  have hs13_2 : w6.heap.size < w13.heap.size := by (have hss := hb13.size; first | omega | (simp at hss <;> omega))
  have hs13_3 : w8.heap.size < w13.heap.size := by (have hss := hb13.size; first | omega | (simp at hss <;> omega))
  go_wp2_with fail
  refine (markStore_any zs6 _ _ a0l _ _ a0g _ (1) _ (HX6.out.ext bxt) (by omega) (by omega) (by rw [cntB_box HZ6.out]; omega) (by omega)).mono ?_
  rintro e w14 ⟨rfl, hown, hg140⟩
  have HM14 := Lib.hid hown
  clear hown
  have hg14 := hg140
  clear hg140
  have hroot14 : Below w.heap.size w w14 := (show Below w.heap.size w w13 from bxt).trans (hg14.below (fun x hx => by (have := (HX6.out.rows_lt x hx).1; first | omega | (simp at this; omega))) (by (first | omega | (simp <;> omega))))
  obtain ⟨hc14, hf14⟩ := hg14.roff
  have hm14 : w13.heap.size ≤ w14.heap.size := hg14.size
  have hs14_0 : w.heap.size < w14.heap.size := by omega
  have hn14_0 : ROff _ (w.heap.size) := fun hS => by (have hq := HX6.out.rows_lt _ hS; first | omega | (simp at hq; omega))
  have hs14_1 : w5.heap.size < w14.heap.size := by omega
  have hn14_1 : ROff _ (w5.heap.size) := fun hS => by (have hq := HX6.out.rows_lt _ hS; first | omega | (simp at hq; omega))
  have hs14_2 : w6.heap.size < w14.heap.size := by omega
  have hn14_2 : ROff _ (w6.heap.size) := fun hS => by (have hq := HX6.out.rows_lt _ hS; first | omega | (simp at hq; omega))
  have hs14_3 : w8.heap.size < w14.heap.size := by omega
  have hn14_3 : ROff _ (w8.heap.size) := fun hS => by (have hq := HX6.out.rows_lt _ hS; first | omega | (simp at hq; omega))
  have HR14_7 := Lib.hid (Own.chg (HX7.out.ext bxt) hg14 (fun x hx hS => by (have h8 := HX7.out.lt x hx; have h9 := HX6.out.rows_lt x hS; first | omega | (simp at h8 h9; omega))))
  have HR14_8 := Lib.hid (OwnSt.chg (HX8.out.ext bxt) hg14 (fun x hx hS => by (have h8 := HX8.out.rows_lt x hx; have h9 := HX6.out.rows_lt x hS; first | omega | (simp at h8 h9; omega))))
  have HR14_5 := Lib.hid (OwnSt.chg (HX5.out.ext bxt) hg14 (fun x hx hS => by (have h8 := HX5.out.rows_lt x hx; have h9 := HX6.out.rows_lt x hS; first | omega | (simp at h8 h9; omega))))
  clear hg14
  have hcx14 : cntB zs6 ≤ 3145728 := by (rw [cntB_box HZ6.out]; exact hcb0)
  go_wp2_with fail
  refine (markCommitS_any a1 _ _ _ (1 + cntB zs6 + 6 * a0l.length) _ (HR14_7.out.ext bxt) (by omega) (by omega) (by omega)).mono ?_
  rintro e w15 ⟨rfl, hown, hg150⟩
  have HM15 := Lib.hid hown
  clear hown
  have hg15 := Chg.grown (S := fun x => foot (.slice (some ⟨gx7, 0, none⟩) a1.length a1.length) = some x) hg150 (fun g h => h)
  clear hg150
  have hroot15 : Below w.heap.size w w15 := (show Below w.heap.size w w14 from bxt).trans (hg15.below (fun x hx => by (have := (HX7.out.lt x hx).1; first | omega | (simp at this; omega))) (by (first | omega | (simp <;> omega))))
  obtain ⟨hc15, hf15⟩ := hg15.roff
  have hm15 : w14.heap.size ≤ w15.heap.size := hg15.size
  have hs15_0 : w.heap.size < w15.heap.size := by omega
  have hn15_0 : ROff (fun x => foot (.slice (some ⟨gx7, 0, none⟩) a1.length a1.length) = some x) (w.heap.size) := fun hS => by (have hq := HX7.out.lt _ hS; first | omega | (simp at hq; omega))
  have hs15_1 : w5.heap.size < w15.heap.size := by omega
  have hn15_1 : ROff (fun x => foot (.slice (some ⟨gx7, 0, none⟩) a1.length a1.length) = some x) (w5.heap.size) := fun hS => by (have hq := HX7.out.lt _ hS; first | omega | (simp at hq; omega))
  have hs15_2 : w6.heap.size < w15.heap.size := by omega
  have hn15_2 : ROff (fun x => foot (.slice (some ⟨gx7, 0, none⟩) a1.length a1.length) = some x) (w6.heap.size) := fun hS => by (have hq := HX7.out.lt _ hS; first | omega | (simp at hq; omega))
  have hs15_3 : w8.heap.size < w15.heap.size := by omega
  have hn15_3 : ROff (fun x => foot (.slice (some ⟨gx7, 0, none⟩) a1.length a1.length) = some x) (w8.heap.size) := fun hS => by (have hq := HX7.out.lt _ hS; first | omega | (simp at hq; omega))
  have HR15_8 := Lib.hid (OwnSt.chg (HR14_8.out.ext bxt) hg15 (fun x hx hS => by (have h8 := HX8.out.rows_lt x hx; have h9 := HX7.out.lt x hS; first | omega | (simp at h8 h9; omega))))
  have HR15_5 := Lib.hid (OwnSt.chg (HR14_5.out.ext bxt) hg15 (fun x hx hS => by (have h8 := HX5.out.rows_lt x hx; have h9 := HX7.out.lt x hS; first | omega | (simp at h8 h9; omega))))
  clear hg15
  go_wp2_with fail
  refine (eqStore_any zs8 _ _ rr.log _ _ rr.given zs5 _ _ rr.log _ _ rr.given _ (HR15_8.out.box.rd.ext bxt) (HR15_8.out.box.rdm.ext bxt) ((Rd.of_Own HR15_8.out.log).ext bxt) (HR15_5.out.box.rd.ext bxt) (HR15_5.out.box.rdm.ext bxt) ((Rd.of_Own HR15_5.out.log).ext bxt) true (Lib.hid (by rw [HZ8.out, HZ5.out]; simp))).mono ?_
  rintro e w16 ⟨rfl, hb16⟩
  obtain ⟨hc16, hf16⟩ := bcell hb16
  have hm16 : w15.heap.size ≤ w16.heap.size := by (have hss := hb16.size; first | omega | (simp at hss <;> omega))
  have hs16_0 : w.heap.size < w16.heap.size := by (have hss := hb16.size; first | omega | (simp at hss <;> omega))
  have hs16_1 : w5.heap.size < w16.heap.size := by (have hss := hb16.size; first | omega | (simp at hss <;> omega))
  have hs16_2 : w6.heap.size < w16.heap.size := by (have hss := hb16.size; first | omega | (simp at hss <;> omega))
  have hs16_3 : w8.heap.size < w16.heap.size := by (have hss := hb16.size; first | omega | (simp at hss <;> omega))
  have hcg : cntB zs8 ≤ 3145728 := by (rw [cntB_D, HZ8.out]; exact hcr)
  go_wp2_with fail
  refine (markStore_any zs8 _ _ rr.log _ _ rr.given _ 1 _ (HR15_8.out.ext bxt) (by omega) (by omega) (by omega) (by omega)).mono ?_
  rintro e w17 ⟨rfl, hown, hg170⟩
  have HM17 := Lib.hid hown
  clear hown
  have hg17 := hg170
  clear hg170
  have hroot17 : Below w.heap.size w w17 := (show Below w.heap.size w w16 from bxt).trans (hg17.below (fun x hx => by (have := (HX8.out.rows_lt x hx).1; first | omega | (simp at this; omega))) (by (first | omega | (simp <;> omega))))
  obtain ⟨hc17, hf17⟩ := hg17.roff
  have hm17 : w16.heap.size ≤ w17.heap.size := hg17.size
  have hs17_0 : w.heap.size < w17.heap.size := by omega
  have hn17_0 : ROff _ (w.heap.size) := fun hS => by (have hq := HX8.out.rows_lt _ hS; first | omega | (simp at hq; omega))
  have hs17_1 : w5.heap.size < w17.heap.size := by omega
  have hn17_1 : ROff _ (w5.heap.size) := fun hS => by (have hq := HX8.out.rows_lt _ hS; first | omega | (simp at hq; omega))
  have hs17_2 : w6.heap.size < w17.heap.size := by omega
  have hn17_2 : ROff _ (w6.heap.size) := fun hS => by (have hq := HX8.out.rows_lt _ hS; first | omega | (simp at hq; omega))
  have hs17_3 : w8.heap.size < w17.heap.size := by omega
  have hn17_3 : ROff _ (w8.heap.size) := fun hS => by (have hq := HX8.out.rows_lt _ hS; first | omega | (simp at hq; omega))
  have HR17_5 := Lib.hid (OwnSt.chg (HR15_5.out.ext bxt) hg17 (fun x hx hS => by (have h8 := HX5.out.rows_lt x hx; have h9 := HX8.out.rows_lt x hS; first | omega | (simp at h8 h9; omega))))
  clear hg17
  obtain ⟨hgr, hgm, hgl⟩ := HM17.out.heldR
  have HGR := Lib.hid hgr
  have HGM := Lib.hid hgm
  have HGL := Lib.hid hgl
  clear hgr hgm hgl
  go_wp2_with fail
  refine (heldStore_any zs8 _ _ rr.log.length _ _ rr.given 1 _ (HGR.out.ext bxt) (HGM.out.ext bxt) (HGL.out.ext bxt) (by omega) (by omega) (by omega) (by omega)).mono ?_
  rintro e w18 ⟨rfl, hb18⟩
  obtain ⟨hc18, hf18⟩ := bcell hb18
  have hm18 : w17.heap.size ≤ w18.heap.size := by (have hss := hb18.size; first | omega | (simp at hss <;> omega))
  have hs18_0 : w.heap.size < w18.heap.size := by (have hss := hb18.size; first | omega | (simp at hss <;> omega))
  have hs18_1 : w5.heap.size < w18.heap.size := by (have hss := hb18.size; first | omega | (simp at hss <;> omega))
  have hs18_2 : w6.heap.size < w18.heap.size := by (have hss := hb18.size; first | omega | (simp at hss <;> omega))
  have hs18_3 : w8.heap.size < w18.heap.size := by (have hss := hb18.size; first | omega | (simp at hss <;> omega))
  go_wp2_with fail
  refine (toStore_any a0b _ _ a0l _ _ a0g _ (Ha0b.out.ext bxt) (Ha0bM.out.ext bxt) (Ha0l.out.ext bxt) hla0 Hlm0.out hlc0).mono ?_
  rintro e w19 ⟨gx19, zs19, gy19, rfl, hown, hqz, hb19⟩
  have HX19 := Lib.hid hown; have HZ19 := Lib.hid hqz; clear hown hqz
  obtain ⟨hc19, hf19⟩ := bcell hb19
  have hm19 : w18.heap.size ≤ w19.heap.size := by (have hss := hb19.size; first | omega | (simp at hss <;> omega))
  have hs19_0 : w.heap.size < w19.heap.size := by (have hss := hb19.size; first | omega | (simp at hss <;> omega))
  have hs19_1 : w5.heap.size < w19.heap.size := by (have hss := hb19.size; first | omega | (simp at hss <;> omega))
  have hs19_2 : w6.heap.size < w19.heap.size := by (have hss := hb19.size; first | omega | (simp at hss <;> omega))
  have hs19_3 : w8.heap.size < w19.heap.size := by (have hss := hb19.size; first | omega | (simp at hss <;> omega))
  go_wp2_with fail
  refine (toCommitS_any a1 _ _ _ (Ha1.out.ext bxt) hla1).mono ?_
  rintro e w20 ⟨gx20, rfl, hown, hb20⟩
  have HX20 := Lib.hid (Own.of_row hown); clear hown
  obtain ⟨hc20, hf20⟩ := bcell hb20
  have hm20 : w19.heap.size ≤ w20.heap.size := by (have hss := hb20.size; first | omega | (simp at hss <;> omega))
  have hs20_0 : w.heap.size < w20.heap.size := by (have hss := hb20.size; first | omega | (simp at hss <;> omega))
  have hs20_1 : w5.heap.size < w20.heap.size := by (have hss := hb20.size; first | omega | (simp at hss <;> omega))
  have hs20_2 : w6.heap.size < w20.heap.size := by (have hss := hb20.size; first | omega | (simp at hss <;> omega))
  have hs20_3 : w8.heap.size < w20.heap.size := by (have hss := hb20.size; first | omega | (simp at hss <;> omega))
  go_wp2_with fail
  refine (implCommitAll_law zs19 _ _ a0l _ _ a0g a1 _ _ _ (HX19.out.box.rd.ext bxt) (HX19.out.box.rdm.ext bxt) ((Rd.of_Own HX19.out.log).ext bxt) (by rw [box_len HZ19.out]; exact hla0) (box_mlen HZ19.out Hlm0.out) hlc0 (box_names HZ19.out Hgsn0.out) (box_texts HZ19.out Hgst0.out) (fun y hy => ⟨Hgsc0.out y hy, Hgsd0.out y hy⟩) ((Rd.of_Own HX20.out).ext bxt) hla1 Hgs1.out (HMX.out.ext bxt) rr rok (Lib.hid (by rw [HZ19.out]; exact HREL.out))).mono ?_
  rintro e w21 ⟨ga21, qa21, zs21, gc21, qc21, rfl, hown, hqz, hb21⟩
  have HX21 := Lib.hid hown; have HZ21 := Lib.hid hqz; clear hown hqz
  obtain ⟨hc21, hf21⟩ := bcell hb21
  have hm21 : w20.heap.size ≤ w21.heap.size := by (have hss := hb21.size; first | omega | (simp at hss <;> omega))
  have hs21_0 : w.heap.size < w21.heap.size := by (have hss := hb21.size; first | omega | (simp at hss <;> omega))
  have hs21_1 : w5.heap.size < w21.heap.size := by (have hss := hb21.size; first | omega | (simp at hss <;> omega))
  have hs21_2 : w6.heap.size < w21.heap.size := by (have hss := hb21.size; first | omega | (simp at hss <;> omega))
  have hs21_3 : w8.heap.size < w21.heap.size := by (have hss := hb21.size; first | omega | (simp at hss <;> omega))
  go_wp2_with fail
  refine (eqStore_any zs21 _ _ rr.log _ _ rr.given zs5 _ _ rr.log _ _ rr.given _ (HX21.out.box.rd.ext bxt) (HX21.out.box.rdm.ext bxt) ((Rd.of_Own HX21.out.log).ext bxt) (HR17_5.out.box.rd.ext bxt) (HR17_5.out.box.rdm.ext bxt) ((Rd.of_Own HR17_5.out.log).ext bxt) true (Lib.hid (by rw [HZ21.out, HZ5.out]; simp))).mono ?_
  rintro e w22 ⟨rfl, hb22⟩
  obtain ⟨hc22, hf22⟩ := bcell hb22
  have hm22 : w21.heap.size ≤ w22.heap.size := by (have hss := hb22.size; first | omega | (simp at hss <;> omega))
  have hs22_0 : w.heap.size < w22.heap.size := by (have hss := hb22.size; first | omega | (simp at hss <;> omega))
  have hs22_1 : w5.heap.size < w22.heap.size := by (have hss := hb22.size; first | omega | (simp at hss <;> omega))
  have hs22_2 : w6.heap.size < w22.heap.size := by (have hss := hb22.size; first | omega | (simp at hss <;> omega))
  have hs22_3 : w8.heap.size < w22.heap.size := by (have hss := hb22.size; first | omega | (simp at hss <;> omega))
  have hs22_4 : w21.heap.size < w22.heap.size := by (have hss := hb22.size; first | omega | (simp at hss <;> omega))
  go_wp2_with fail
  refine (heldStore_any zs8 _ _ rr.log.length _ _ rr.given 1 _ (HGR.out.ext bxt) (HGM.out.ext bxt) (HGL.out.ext bxt) (by omega) (by omega) (by omega) (by omega)).mono ?_
  rintro e w23 ⟨rfl, hb23⟩
  obtain ⟨hc23, hf23⟩ := bcell hb23
  have hm23 : w22.heap.size ≤ w23.heap.size := by (have hss := hb23.size; first | omega | (simp at hss <;> omega))
  have hs23_0 : w.heap.size < w23.heap.size := by (have hss := hb23.size; first | omega | (simp at hss <;> omega))
  have hs23_1 : w5.heap.size < w23.heap.size := by (have hss := hb23.size; first | omega | (simp at hss <;> omega))
  have hs23_2 : w6.heap.size < w23.heap.size := by (have hss := hb23.size; first | omega | (simp at hss <;> omega))
  have hs23_3 : w8.heap.size < w23.heap.size := by (have hss := hb23.size; first | omega | (simp at hss <;> omega))
  have hs23_4 : w21.heap.size < w23.heap.size := by (have hss := hb23.size; first | omega | (simp at hss <;> omega))
  go_wp2_with fail
  go_ret
  exact ⟨rfl, bxt⟩

end Go.Proofs.YtdigkaddmpdeoaaGreat
