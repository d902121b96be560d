/-
  The law FnExactCopyMsgs: its walk, out of the contracts of what it calls.
-/
import Derived.Test.YtmnalediohghiaaGreatWCopS
import Derived.Test.YtmnalediohghiaaGreatWCopI
import Derived.Test.YtmnalediohghiaaGreatXMarkS
import Derived.Test.YtmnalediohghiaaGreatWCutS
import Derived.Test.YtmnalediohghiaaGreatMarkInt
import Derived.Test.YtmnalediohghiaaGreatFamInt
import Derived.Test.YtmnalediohghiaaGreatXOwn
namespace Go.Proofs.YtmnalediohghiaaGreat
open Go.RowKit
set_option linter.unusedVariables false
set_option linter.unusedSimpArgs false

theorem sMk2 {W w : World} (h3 : Below W.heap.size W w) : Below W.heap.size W w ∧ (∀ b o, b < W.heap.size → w.cell? ⟨b, o, none⟩ = W.cell? ⟨b, o, none⟩) := ⟨h3, (bcell h3).1⟩
set_option maxRecDepth 100000 in
set_option maxHeartbeats 8000000 in
theorem fnExactCopyMsgs_walk (a0b : List PBox) (a0bA : Option Addr) (a0bC : Nat) (a0l : List DCommit) (a0lA : Option Addr) (a0lC : Nat) (a0g : Int) (x1 : Int) (a2 : List Int) (a2A : Option Addr) (a2C : Nat) (x3 : ByteArray) (w : World) : (MaxLen w) → (Rd w a0bA a0bC 4 a0b.length (a0b.flatMap PBox.cells)) → (RdM w a0b) → (Rd w a0lA a0lC 6 a0l.length (a0l.flatMap DCommit.cells)) → (∀ y ∈ a0b, y.name.size ≤ 9223372036854775807) → (∀ y ∈ a0b, ∀ m ∈ y.msgs, m.text.size ≤ 9223372036854775807) → (∀ y ∈ a0l, y.name.size ≤ 9223372036854775807) → (∀ y ∈ a0l, y.text.size ≤ 9223372036854775807) → ((Lit.int .i64 x1).wf = true) → (Rd w a2A a2C 1 a2.length (a2.flatMap intCells)) → (x3.size ≤ 9223372036854775807) →
    Calls Tryz.prog 8 #[.agg #[.slice a0bA a0b.length a0bC, .slice a0lA a0l.length a0lC, .int .i64 a0g], .int .i64 x1, .slice a2A a2.length a2C, .string x3] w fun e w' => e = .returned (.bool true) ∧ Below w.heap.size w w' := by
  intro hmx a0bR a0bM a0lR gsn0 gst0 gsc0 gsd0 wf1 a2R wf3
  have HMX := Lib.hid hmx
  clear hmx
  obtain ⟨rr, rok, hrel⟩ : ∃ rr rok, copyD (⟨a0b.map PBox.box, a0l, a0g⟩ : DStore) x1 a2 x3 = (rr, rok) := ⟨_, _, rfl⟩
  have HREL := Lib.hid hrel
  clear hrel
  have Ha0b := Lib.hid a0bR
  clear a0bR
  have Ha0l := Lib.hid a0lR
  clear a0lR
  have Ha2 := Lib.hid a2R
  clear a2R
  have Ha0bM := Lib.hid a0bM
  clear a0bM
  have Hgsn0 := Lib.hid gsn0
  clear gsn0
  have Hgst0 := Lib.hid gst0
  clear gst0
  have Hgsc0 := Lib.hid gsc0
  clear gsc0
  have Hgsd0 := Lib.hid gsd0
  clear gsd0
  by_cases hsm2 : a2.length ≤ 1048576
  rotate_left
  · have hd : decide ((1048576 : Int) < (a2.length : Int)) = true := decide_eq_true (by omega)
    go_enter Tryz.func8, Tryz.ntmps8
    go_wp2_with fail
    go_ret
    exact ⟨rfl, bxt⟩
  by_cases hsm3 : x3.size ≤ 1048576
  rotate_left
  · have hd : decide ((1048576 : Int) < (x3.size : Int)) = true := decide_eq_true (by omega)
    have hd2 : decide ((1048576 : Int) < (a2.length : Int)) = false := decide_eq_false (by omega)
    go_enter Tryz.func8, Tryz.ntmps8
    go_wp2_with fail
    go_ret
    exact ⟨rfl, bxt⟩
  have hds2 : decide ((1048576 : Int) < (a2.length : Int)) = false := decide_eq_false (by omega)
  have hla2 := hsm2
  have hds3 : decide ((1048576 : Int) < (x3.size : Int)) = false := decide_eq_false (by omega)
  go_enter Tryz.func8, Tryz.ntmps8
  go_wp2_with fail
  refine (szStore_any a0b _ _ a0l _ _ a0g 1048576 _ (Ha0b.out.ext bxt) (Ha0bM.out.ext bxt) (Ha0l.out.ext bxt) (by omega) (by omega) Hgsn0.out Hgst0.out Hgsc0.out Hgsd0.out).mono ?_
  rintro e w1 ⟨left1, rfl, hz1, hb1⟩
  obtain ⟨hc1, hf1⟩ := bcell hb1
  have hm1 : w.heap.size ≤ w1.heap.size := by (have hss := hb1.size; first | omega | (simp at hss <;> omega))
  have hs1_0 : w.heap.size < w1.heap.size := by (have hss := hb1.size; first | omega | (simp at hss <;> omega))
  rcases hz1 with hz1 | ⟨hz10, hz1⟩
  · go_wp2_with fail
    go_ret
    exact ⟨rfl, bxt⟩
  have hlt1 : left1 ≤ 1048576 := by omega
  have hla0 : a0b.length ≤ 1048576 := by (have := PBox.len_le a0b; omega)
  have hcb0 : cntB a0b ≤ 3145728 := by (have := cntB_sz a0b; omega)
  have Hlm0 : Hid (∀ y ∈ a0b, y.msgs.length ≤ 1048576) := fun y hy => by
    obtain ⟨q, hq, rfl⟩ := List.getElem_of_mem hy
    have := PBox.msgs_le a0b q hq
    omega
  have hlc0 : a0l.length ≤ 1048576 := by (have := DCommit.len_le a0l; omega)
  clear hz1
  have hcr : cntD rr.boxes ≤ 3145728 ∧ rr.log.length ≤ 1048576 := by (have h := copy_cnt (⟨a0b.map PBox.box, a0l, a0g⟩ : DStore) x1 a2 x3 (by rw [← cntB_D]; exact hcb0) hlc0; rw [HREL.out] at h; exact h)
  obtain ⟨hcr, hcl⟩ := hcr
  go_wp2_with fail
  refine (toStore_any a0b _ _ a0l _ _ a0g _ (Ha0b.out.ext bxt) (Ha0bM.out.ext bxt) (Ha0l.out.ext bxt) hla0 Hlm0.out hlc0).mono ?_
  rintro e w2 ⟨gx2, zs2, gy2, rfl, hown, hqz, hb2⟩
  have HX2 := Lib.hid hown; have HZ2 := Lib.hid hqz; clear hown hqz
  obtain ⟨hc2, hf2⟩ := bcell hb2
  have hm2 : w1.heap.size ≤ w2.heap.size := by (have hss := hb2.size; first | omega | (simp at hss <;> omega))
  have hs2_0 : w.heap.size < w2.heap.size := by (have hss := hb2.size; first | omega | (simp at hss <;> omega))
  go_wp2_with fail
  refine (toIntS_any a2 _ _ _ (Ha2.out.ext bxt) hla2).mono ?_
  rintro e w3 ⟨gx3, rfl, hown, hb3⟩
  have HX3 := Lib.hid (Own.of_row hown); clear hown
  obtain ⟨hc3, hf3⟩ := bcell hb3
  have hm3 : w2.heap.size ≤ w3.heap.size := by (have hss := hb3.size; first | omega | (simp at hss <;> omega))
  have hs3_0 : w.heap.size < w3.heap.size := by (have hss := hb3.size; first | omega | (simp at hss <;> omega))
  go_wp2_with fail
  refine (specCopyMsgs_law zs2 _ _ a0l _ _ a0g x1 a2 _ _ x3 _ (HX2.out.box.rd.ext bxt) (HX2.out.box.rdm.ext bxt) ((Rd.of_Own HX2.out.log).ext bxt) (by rw [box_len HZ2.out]; exact hla0) (box_mlen HZ2.out Hlm0.out) hlc0 (box_names HZ2.out Hgsn0.out) (box_texts HZ2.out Hgst0.out) (fun y hy => ⟨Hgsc0.out y hy, Hgsd0.out y hy⟩) ((Rd.of_Own HX3.out).ext bxt) hla2 hsm3 rr rok (Lib.hid (by rw [HZ2.out]; exact HREL.out))).mono ?_
  rintro e w4 ⟨ga4, qa4, zs4, gc4, qc4, rfl, hown, hqz, hb4⟩
  have HX4 := Lib.hid hown; have HZ4 := Lib.hid hqz; clear hown hqz
  obtain ⟨hc4, hf4⟩ := bcell hb4
  have hm4 : w3.heap.size ≤ w4.heap.size := by (have hss := hb4.size; first | omega | (simp at hss <;> omega))
  have hs4_0 : w.heap.size < w4.heap.size := by (have hss := hb4.size; first | omega | (simp at hss <;> omega))
  go_wp2_with fail
  refine (toStore_any a0b _ _ a0l _ _ a0g _ (Ha0b.out.ext bxt) (Ha0bM.out.ext bxt) (Ha0l.out.ext bxt) hla0 Hlm0.out hlc0).mono ?_
  rintro e w5 ⟨gx5, zs5, gy5, rfl, hown, hqz, hb5⟩
  have HX5 := Lib.hid hown; have HZ5 := Lib.hid hqz; clear hown hqz
  obtain ⟨hc5, hf5⟩ := bcell hb5
  have hm5 : w4.heap.size ≤ w5.heap.size := by (have hss := hb5.size; first | omega | (simp at hss <;> omega))
  have hs5_0 : w.heap.size < w5.heap.size := by (have hss := hb5.size; first | omega | (simp at hss <;> omega))
  have hs5_1 : w4.heap.size < w5.heap.size := by (have hss := hb5.size; first | omega | (simp at hss <;> omega))
  go_wp2_with fail
  refine (toIntS_any a2 _ _ _ (Ha2.out.ext bxt) hla2).mono ?_
  rintro e w6 ⟨gx6, rfl, hown, hb6⟩
  have HX6 := Lib.hid (Own.of_row hown); clear hown
  obtain ⟨hc6, hf6⟩ := bcell hb6
  have hm6 : w5.heap.size ≤ w6.heap.size := by (have hss := hb6.size; first | omega | (simp at hss <;> omega))
  have hs6_0 : w.heap.size < w6.heap.size := by (have hss := hb6.size; first | omega | (simp at hss <;> omega))
  have hs6_1 : w4.heap.size < w6.heap.size := by (have hss := hb6.size; first | omega | (simp at hss <;> omega))
  have hs6_2 : w5.heap.size < w6.heap.size := by (have hss := hb6.size; first | omega | (simp at hss <;> omega))
  go_wp2_with fail
  refine (implCopyMsgs_law zs5 _ _ a0l _ _ a0g x1 a2 _ _ x3 _ (HX5.out.box.rd.ext bxt) (HX5.out.box.rdm.ext bxt) ((Rd.of_Own HX5.out.log).ext bxt) (by rw [box_len HZ5.out]; exact hla0) (box_mlen HZ5.out Hlm0.out) hlc0 (box_names HZ5.out Hgsn0.out) (box_texts HZ5.out Hgst0.out) (fun y hy => ⟨Hgsc0.out y hy, Hgsd0.out y hy⟩) ((Rd.of_Own HX6.out).ext bxt) hla2 hsm3 (HMX.out.ext bxt) rr rok (Lib.hid (by rw [HZ5.out]; exact HREL.out))).mono ?_
  rintro e w7 ⟨ga7, qa7, zs7, gc7, qc7, rfl, hown, hqz, hb7⟩
  have HX7 := Lib.hid hown; have HZ7 := Lib.hid hqz; clear hown hqz
  obtain ⟨hc7, hf7⟩ := bcell hb7
  have hm7 : w6.heap.size ≤ w7.heap.size := by (have hss := hb7.size; first | omega | (simp at hss <;> omega))
  have hs7_0 : w.heap.size < w7.heap.size := by (have hss := hb7.size; first | omega | (simp at hss <;> omega))
  have hs7_1 : w4.heap.size < w7.heap.size := by (have hss := hb7.size; first | omega | (simp at hss <;> omega))
  have hs7_2 : w5.heap.size < w7.heap.size := by (have hss := hb7.size; first | omega | (simp at hss <;> omega))
  go_wp2_with fail
  refine (eqStore_any zs7 _ _ rr.log _ _ rr.given zs4 _ _ rr.log _ _ rr.given _ (HX7.out.box.rd.ext bxt) (HX7.out.box.rdm.ext bxt) ((Rd.of_Own HX7.out.log).ext bxt) (HX4.out.box.rd.ext bxt) (HX4.out.box.rdm.ext bxt) ((Rd.of_Own HX4.out.log).ext bxt) true (Lib.hid (by rw [HZ7.out, HZ4.out]; simp))).mono ?_
  rintro e w8 ⟨rfl, hb8⟩
  obtain ⟨hc8, hf8⟩ := bcell hb8
  have hm8 : w7.heap.size ≤ w8.heap.size := by (have hss := hb8.size; first | omega | (simp at hss <;> omega))
  have hs8_0 : w.heap.size < w8.heap.size := by (have hss := hb8.size; first | omega | (simp at hss <;> omega))
  have hs8_1 : w4.heap.size < w8.heap.size := by (have hss := hb8.size; first | omega | (simp at hss <;> omega))
  have hs8_2 : w5.heap.size < w8.heap.size := by (have hss := hb8.size; first | omega | (simp at hss <;> omega))
  have hs8_3 : w7.heap.size < w8.heap.size := by (have hss := hb8.size; first | omega | (simp at hss <;> omega))
  go_wp2_with fail
  go_region_held3 (fun w' => Below w8.heap.size w8 w' ∧ (∀ b o, b < w8.heap.size → w'.cell? ⟨b, o, none⟩ = w8.cell? ⟨b, o, none⟩)) (first | with_reducible exact sBeg _ | with_reducible exact sExt (by assumption) (by assumption) | (refine sMk2 ?_; exact bxt)) ((first | (go_at_call_of 12 (a0b); refine (toStore_any a0b _ _ a0l _ _ a0g _ (Ha0b.out.ext bxt) (Ha0bM.out.ext bxt) (Ha0l.out.ext bxt) hla0 Hlm0.out hlc0).mono ?_; rintro e w9 ⟨gx9, zs9, gy9, rfl, hown, hqz, hb9⟩; have HX9 := Lib.hid hown; have HZ9 := Lib.hid hqz; clear hown hqz; have hzz9 := hb9.size; (try simp at hzz9)) | (go_at_call_of 14 (zs5); refine (eqStore_any zs5 _ _ a0l _ _ a0g zs9 _ _ a0l _ _ a0g _ (HX5.out.box.rd.ext bxt) (HX5.out.box.rdm.ext bxt) ((Rd.of_Own HX5.out.log).ext bxt) (HX9.out.box.rd.ext bxt) (HX9.out.box.rdm.ext bxt) ((Rd.of_Own HX9.out.log).ext bxt) true (Lib.hid (by rw [HZ5.out, HZ9.out]; simp))).mono ?_; rintro e w10 ⟨rfl, hb10⟩; have hzz10 := hb10.size; (try simp at hzz10))))
  have hbq10 : Ext w8 w10 := Below.ext (Below.ext ((Below.refl _ _).drew) hb9) hb10
  obtain ⟨hc10, hf10⟩ := bcell hbq10
  have hm10 : w8.heap.size ≤ w10.heap.size := by (have hss := hbq10.size; first | omega | (simp at hss <;> omega))
  have hs10_0 : w.heap.size < w10.heap.size := by (have hss := hbq10.size; first | omega | (simp at hss <;> omega))
  have hs10_1 : w4.heap.size < w10.heap.size := by (have hss := hbq10.size; first | omega | (simp at hss <;> omega))
  have hs10_2 : w5.heap.size < w10.heap.size := by (have hss := hbq10.size; first | omega | (simp at hss <;> omega))
  have hs10_3 : w7.heap.size < w10.heap.size := by (have hss := hbq10.size; first | omega | (simp at hss <;> omega))
  go_wp2_with fail
  refine (toIntS_any a2 _ _ _ (Ha2.out.ext bxt) hla2).mono ?_
  rintro e w11 ⟨gx11, rfl, hown, hb11⟩
  have HX11 := Lib.hid (Own.of_row hown); clear hown
  obtain ⟨hc11, hf11⟩ := bcell hb11
  have hm11 : w10.heap.size ≤ w11.heap.size := by (have hss := hb11.size; first | omega | (simp at hss <;> omega))
  have hs11_0 : w.heap.size < w11.heap.size := by (have hss := hb11.size; first | omega | (simp at hss <;> omega))
  have hs11_1 : w4.heap.size < w11.heap.size := by (have hss := hb11.size; first | omega | (simp at hss <;> omega))
  have hs11_2 : w5.heap.size < w11.heap.size := by (have hss := hb11.size; first | omega | (simp at hss <;> omega))
  have hs11_3 : w7.heap.size < w11.heap.size := by (have hss := hb11.size; first | omega | (simp at hss <;> omega))
  go_wp2_with fail
  refine (eqIntS_any a2 a2 _ _ _ _ _ ((Rd.of_Own HX6.out).ext bxt) ((Rd.of_Own HX11.out).ext bxt) true (by simp [Hid])).mono ?_
  rintro e w12 ⟨rfl, hb12⟩
  obtain ⟨hc12, hf12⟩ := bcell hb12
  have hm12 : w11.heap.size ≤ w12.heap.size := by (have hss := hb12.size; first | omega | (simp at hss <;> omega))
  have hs12_0 : w.heap.size < w12.heap.size := by (have hss := hb12.size; first | omega | (simp at hss <;> omega))
  have hs12_1 : w4.heap.size < w12.heap.size := by (have hss := hb12.size; first | omega | (simp at hss <;> omega))
  have hs12_2 : w5.heap.size < w12.heap.size := by (have hss := hb12.size; first | omega | (simp at hss <;> omega))
  have hs12_3 : w7.heap.size < w12.heap.size := by (have hss := hb12.size; first | omega | (simp at hss <;> omega))
  go_wp2_with fail
  refine (markStore_any zs5 _ _ a0l _ _ a0g _ (1) _ (HX5.out.ext bxt) (by omega) (by omega) (by rw [cntB_box HZ5.out]; omega) (by omega)).mono ?_
  rintro e w13 ⟨rfl, hown, hg130⟩
  have HM13 := Lib.hid hown
  clear hown
  have hg13 := hg130
  clear hg130
  have hroot13 : Below w.heap.size w w13 := (show Below w.heap.size w w12 from bxt).trans (hg13.below (fun x hx => by (have := (HX5.out.rows_lt x hx).1; first | omega | (simp at this; omega))) (by (first | omega | (simp <;> omega))))
  obtain ⟨hc13, hf13⟩ := hg13.roff
  have hm13 : w12.heap.size ≤ w13.heap.size := hg13.size
  have hs13_0 : w.heap.size < w13.heap.size := by omega
  have hn13_0 : ROff _ (w.heap.size) := fun hS => by (have hq := HX5.out.rows_lt _ hS; first | omega | (simp at hq; omega))
  have hs13_1 : w4.heap.size < w13.heap.size := by omega
  have hn13_1 : ROff _ (w4.heap.size) := fun hS => by (have hq := HX5.out.rows_lt _ hS; first | omega | (simp at hq; omega))
  have hs13_2 : w5.heap.size < w13.heap.size := by omega
  have hn13_2 : ROff _ (w5.heap.size) := fun hS => by (have hq := HX5.out.rows_lt _ hS; first | omega | (simp at hq; omega))
  have hs13_3 : w7.heap.size < w13.heap.size := by omega
  have hn13_3 : ROff _ (w7.heap.size) := fun hS => by (have hq := HX5.out.rows_lt _ hS; first | omega | (simp at hq; omega))
  have HR13_6 := Lib.hid (Own.chg (HX6.out.ext bxt) hg13 (fun x hx hS => by (have h8 := HX6.out.lt x hx; have h9 := HX5.out.rows_lt x hS; first | omega | (simp at h8 h9; omega))))
  have HR13_7 := Lib.hid (OwnSt.chg (HX7.out.ext bxt) hg13 (fun x hx hS => by (have h8 := HX7.out.rows_lt x hx; have h9 := HX5.out.rows_lt x hS; first | omega | (simp at h8 h9; omega))))
  have HR13_4 := Lib.hid (OwnSt.chg (HX4.out.ext bxt) hg13 (fun x hx hS => by (have h8 := HX4.out.rows_lt x hx; have h9 := HX5.out.rows_lt x hS; first | omega | (simp at h8 h9; omega))))
  clear hg13
  have hcx13 : cntB zs5 ≤ 3145728 := by (rw [cntB_box HZ5.out]; exact hcb0)
  go_wp2_with fail
  refine (markIntS_any a2 _ _ _ (1 + cntB zs5 + 6 * a0l.length) _ (HR13_6.out.ext bxt) (by omega) (by omega) (by omega)).mono ?_
  rintro e w14 ⟨rfl, hown, hg140⟩
  have HM14 := Lib.hid hown
  clear hown
  have hg14 := Chg.grown (S := fun x => foot (.slice (some ⟨gx6, 0, none⟩) a2.length a2.length) = some x) hg140 (fun g h => h)
  clear hg140
  have hroot14 : Below w.heap.size w w14 := (show Below w.heap.size w w13 from bxt).trans (hg14.below (fun x hx => by (have := (HX6.out.lt x hx).1; first | omega | (simp at this; omega))) (by (first | omega | (simp <;> omega))))
  obtain ⟨hc14, hf14⟩ := hg14.roff
  have hm14 : w13.heap.size ≤ w14.heap.size := hg14.size
  have hs14_0 : w.heap.size < w14.heap.size := by omega
  have hn14_0 : ROff (fun x => foot (.slice (some ⟨gx6, 0, none⟩) a2.length a2.length) = some x) (w.heap.size) := fun hS => by (have hq := HX6.out.lt _ hS; first | omega | (simp at hq; omega))
  have hs14_1 : w4.heap.size < w14.heap.size := by omega
  have hn14_1 : ROff (fun x => foot (.slice (some ⟨gx6, 0, none⟩) a2.length a2.length) = some x) (w4.heap.size) := fun hS => by (have hq := HX6.out.lt _ hS; first | omega | (simp at hq; omega))
  have hs14_2 : w5.heap.size < w14.heap.size := by omega
  have hn14_2 : ROff (fun x => foot (.slice (some ⟨gx6, 0, none⟩) a2.length a2.length) = some x) (w5.heap.size) := fun hS => by (have hq := HX6.out.lt _ hS; first | omega | (simp at hq; omega))
  have hs14_3 : w7.heap.size < w14.heap.size := by omega
  have hn14_3 : ROff (fun x => foot (.slice (some ⟨gx6, 0, none⟩) a2.length a2.length) = some x) (w7.heap.size) := fun hS => by (have hq := HX6.out.lt _ hS; first | omega | (simp at hq; omega))
  have HR14_7 := Lib.hid (OwnSt.chg (HR13_7.out.ext bxt) hg14 (fun x hx hS => by (have h8 := HX7.out.rows_lt x hx; have h9 := HX6.out.lt x hS; first | omega | (simp at h8 h9; omega))))
  have HR14_4 := Lib.hid (OwnSt.chg (HR13_4.out.ext bxt) hg14 (fun x hx hS => by (have h8 := HX4.out.rows_lt x hx; have h9 := HX6.out.lt x hS; first | omega | (simp at h8 h9; omega))))
  clear hg14
  go_wp2_with fail
  refine (eqStore_any zs7 _ _ rr.log _ _ rr.given zs4 _ _ rr.log _ _ rr.given _ (HR14_7.out.box.rd.ext bxt) (HR14_7.out.box.rdm.ext bxt) ((Rd.of_Own HR14_7.out.log).ext bxt) (HR14_4.out.box.rd.ext bxt) (HR14_4.out.box.rdm.ext bxt) ((Rd.of_Own HR14_4.out.log).ext bxt) true (Lib.hid (by rw [HZ7.out, HZ4.out]; simp))).mono ?_
  rintro e w15 ⟨rfl, hb15⟩
  obtain ⟨hc15, hf15⟩ := bcell hb15
  have hm15 : w14.heap.size ≤ w15.heap.size := by (have hss := hb15.size; first | omega | (simp at hss <;> omega))
  have hs15_0 : w.heap.size < w15.heap.size := by (have hss := hb15.size; first | omega | (simp at hss <;> omega))
  have hs15_1 : w4.heap.size < w15.heap.size := by (have hss := hb15.size; first | omega | (simp at hss <;> omega))
  have hs15_2 : w5.heap.size < w15.heap.size := by (have hss := hb15.size; first | omega | (simp at hss <;> omega))
  have hs15_3 : w7.heap.size < w15.heap.size := by (have hss := hb15.size; first | omega | (simp at hss <;> omega))
  have hcg : cntB zs7 ≤ 3145728 := by (rw [cntB_D, HZ7.out]; exact hcr)
  go_wp2_with fail
  refine (markStore_any zs7 _ _ rr.log _ _ rr.given _ 1 _ (HR14_7.out.ext bxt) (by omega) (by omega) (by omega) (by omega)).mono ?_
  rintro e w16 ⟨rfl, hown, hg160⟩
  have HM16 := Lib.hid hown
  clear hown
  have hg16 := hg160
  clear hg160
  have hroot16 : Below w.heap.size w w16 := (show Below w.heap.size w w15 from bxt).trans (hg16.below (fun x hx => by (have := (HX7.out.rows_lt x hx).1; first | omega | (simp at this; omega))) (by (first | omega | (simp <;> omega))))
  obtain ⟨hc16, hf16⟩ := hg16.roff
  have hm16 : w15.heap.size ≤ w16.heap.size := hg16.size
  have hs16_0 : w.heap.size < w16.heap.size := by omega
  have hn16_0 : ROff _ (w.heap.size) := fun hS => by (have hq := HX7.out.rows_lt _ hS; first | omega | (simp at hq; omega))
  have hs16_1 : w4.heap.size < w16.heap.size := by omega
  have hn16_1 : ROff _ (w4.heap.size) := fun hS => by (have hq := HX7.out.rows_lt _ hS; first | omega | (simp at hq; omega))
  have hs16_2 : w5.heap.size < w16.heap.size := by omega
  have hn16_2 : ROff _ (w5.heap.size) := fun hS => by (have hq := HX7.out.rows_lt _ hS; first | omega | (simp at hq; omega))
  have hs16_3 : w7.heap.size < w16.heap.size := by omega
  have hn16_3 : ROff _ (w7.heap.size) := fun hS => by (have hq := HX7.out.rows_lt _ hS; first | omega | (simp at hq; omega))
  have HR16_4 := Lib.hid (OwnSt.chg (HR14_4.out.ext bxt) hg16 (fun x hx hS => by (have h8 := HX4.out.rows_lt x hx; have h9 := HX7.out.rows_lt x hS; first | omega | (simp at h8 h9; omega))))
  clear hg16
  obtain ⟨hgr, hgm, hgl⟩ := HM16.out.heldR
  have HGR := Lib.hid hgr
  have HGM := Lib.hid hgm
  have HGL := Lib.hid hgl
  clear hgr hgm hgl
  go_wp2_with fail
  refine (heldStore_any zs7 _ _ rr.log.length _ _ rr.given 1 _ (HGR.out.ext bxt) (HGM.out.ext bxt) (HGL.out.ext bxt) (by omega) (by omega) (by omega) (by omega)).mono ?_
  rintro e w17 ⟨rfl, hb17⟩
  obtain ⟨hc17, hf17⟩ := bcell hb17
  have hm17 : w16.heap.size ≤ w17.heap.size := by (have hss := hb17.size; first | omega | (simp at hss <;> omega))
  have hs17_0 : w.heap.size < w17.heap.size := by (have hss := hb17.size; first | omega | (simp at hss <;> omega))
  have hs17_1 : w4.heap.size < w17.heap.size := by (have hss := hb17.size; first | omega | (simp at hss <;> omega))
  have hs17_2 : w5.heap.size < w17.heap.size := by (have hss := hb17.size; first | omega | (simp at hss <;> omega))
  have hs17_3 : w7.heap.size < w17.heap.size := by (have hss := hb17.size; first | omega | (simp at hss <;> omega))
  go_wp2_with fail
  refine (toStore_any a0b _ _ a0l _ _ a0g _ (Ha0b.out.ext bxt) (Ha0bM.out.ext bxt) (Ha0l.out.ext bxt) hla0 Hlm0.out hlc0).mono ?_
  rintro e w18 ⟨gx18, zs18, gy18, rfl, hown, hqz, hb18⟩
  have HX18 := Lib.hid hown; have HZ18 := Lib.hid hqz; clear hown hqz
  obtain ⟨hc18, hf18⟩ := bcell hb18
  have hm18 : w17.heap.size ≤ w18.heap.size := by (have hss := hb18.size; first | omega | (simp at hss <;> omega))
  have hs18_0 : w.heap.size < w18.heap.size := by (have hss := hb18.size; first | omega | (simp at hss <;> omega))
  have hs18_1 : w4.heap.size < w18.heap.size := by (have hss := hb18.size; first | omega | (simp at hss <;> omega))
  have hs18_2 : w5.heap.size < w18.heap.size := by (have hss := hb18.size; first | omega | (simp at hss <;> omega))
  have hs18_3 : w7.heap.size < w18.heap.size := by (have hss := hb18.size; first | omega | (simp at hss <;> omega))
  go_wp2_with fail
  refine (toIntS_any a2 _ _ _ (Ha2.out.ext bxt) hla2).mono ?_
  rintro e w19 ⟨gx19, rfl, hown, hb19⟩
  have HX19 := Lib.hid (Own.of_row hown); clear hown
  obtain ⟨hc19, hf19⟩ := bcell hb19
  have hm19 : w18.heap.size ≤ w19.heap.size := by (have hss := hb19.size; first | omega | (simp at hss <;> omega))
  have hs19_0 : w.heap.size < w19.heap.size := by (have hss := hb19.size; first | omega | (simp at hss <;> omega))
  have hs19_1 : w4.heap.size < w19.heap.size := by (have hss := hb19.size; first | omega | (simp at hss <;> omega))
  have hs19_2 : w5.heap.size < w19.heap.size := by (have hss := hb19.size; first | omega | (simp at hss <;> omega))
  have hs19_3 : w7.heap.size < w19.heap.size := by (have hss := hb19.size; first | omega | (simp at hss <;> omega))
  go_wp2_with fail
  refine (implCopyMsgs_law zs18 _ _ a0l _ _ a0g x1 a2 _ _ x3 _ (HX18.out.box.rd.ext bxt) (HX18.out.box.rdm.ext bxt) ((Rd.of_Own HX18.out.log).ext bxt) (by rw [box_len HZ18.out]; exact hla0) (box_mlen HZ18.out Hlm0.out) hlc0 (box_names HZ18.out Hgsn0.out) (box_texts HZ18.out Hgst0.out) (fun y hy => ⟨Hgsc0.out y hy, Hgsd0.out y hy⟩) ((Rd.of_Own HX19.out).ext bxt) hla2 hsm3 (HMX.out.ext bxt) rr rok (Lib.hid (by rw [HZ18.out]; exact HREL.out))).mono ?_
  rintro e w20 ⟨ga20, qa20, zs20, gc20, qc20, rfl, hown, hqz, hb20⟩
  have HX20 := Lib.hid hown; have HZ20 := Lib.hid hqz; clear hown hqz
  obtain ⟨hc20, hf20⟩ := bcell hb20
  have hm20 : w19.heap.size ≤ w20.heap.size := by (have hss := hb20.size; first | omega | (simp at hss <;> omega))
  have hs20_0 : w.heap.size < w20.heap.size := by (have hss := hb20.size; first | omega | (simp at hss <;> omega))
  have hs20_1 : w4.heap.size < w20.heap.size := by (have hss := hb20.size; first | omega | (simp at hss <;> omega))
  have hs20_2 : w5.heap.size < w20.heap.size := by (have hss := hb20.size; first | omega | (simp at hss <;> omega))
  have hs20_3 : w7.heap.size < w20.heap.size := by (have hss := hb20.size; first | omega | (simp at hss <;> omega))
  go_wp2_with fail
  refine (eqStore_any zs20 _ _ rr.log _ _ rr.given zs4 _ _ rr.log _ _ rr.given _ (HX20.out.box.rd.ext bxt) (HX20.out.box.rdm.ext bxt) ((Rd.of_Own HX20.out.log).ext bxt) (HR16_4.out.box.rd.ext bxt) (HR16_4.out.box.rdm.ext bxt) ((Rd.of_Own HR16_4.out.log).ext bxt) true (Lib.hid (by rw [HZ20.out, HZ4.out]; simp))).mono ?_
  rintro e w21 ⟨rfl, hb21⟩
  obtain ⟨hc21, hf21⟩ := bcell hb21
  have hm21 : w20.heap.size ≤ w21.heap.size := by (have hss := hb21.size; first | omega | (simp at hss <;> omega))
  have hs21_0 : w.heap.size < w21.heap.size := by (have hss := hb21.size; first | omega | (simp at hss <;> omega))
  have hs21_1 : w4.heap.size < w21.heap.size := by (have hss := hb21.size; first | omega | (simp at hss <;> omega))
  have hs21_2 : w5.heap.size < w21.heap.size := by (have hss := hb21.size; first | omega | (simp at hss <;> omega))
  have hs21_3 : w7.heap.size < w21.heap.size := by (have hss := hb21.size; first | omega | (simp at hss <;> omega))
  have hs21_4 : w20.heap.size < w21.heap.size := by (have hss := hb21.size; first | omega | (simp at hss <;> omega))
  go_wp2_with fail
  refine (heldStore_any zs7 _ _ rr.log.length _ _ rr.given 1 _ (HGR.out.ext bxt) (HGM.out.ext bxt) (HGL.out.ext bxt) (by omega) (by omega) (by omega) (by omega)).mono ?_
  rintro e w22 ⟨rfl, hb22⟩
  obtain ⟨hc22, hf22⟩ := bcell hb22
  have hm22 : w21.heap.size ≤ w22.heap.size := by (have hss := hb22.size; first | omega | (simp at hss <;> omega))
  have hs22_0 : w.heap.size < w22.heap.size := by (have hss := hb22.size; first | omega | (simp at hss <;> omega))
  have hs22_1 : w4.heap.size < w22.heap.size := by (have hss := hb22.size; first | omega | (simp at hss <;> omega))
  have hs22_2 : w5.heap.size < w22.heap.size := by (have hss := hb22.size; first | omega | (simp at hss <;> omega))
  have hs22_3 : w7.heap.size < w22.heap.size := by (have hss := hb22.size; first | omega | (simp at hss <;> omega))
  have hs22_4 : w20.heap.size < w22.heap.size := by (have hss := hb22.size; first | omega | (simp at hss <;> omega))
  go_wp2_with fail
  go_ret
  exact ⟨rfl, bxt⟩

end Go.Proofs.YtmnalediohghiaaGreat
