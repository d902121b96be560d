/-
  The law FnExactNameBox: its walk, out of the contracts of what it calls.
-/
import Derived.Test.YtmnalediohghiaaGreatXName
import Derived.Test.YtmnalediohghiaaGreatXMarkS
import Derived.Test.YtmnalediohghiaaGreatWCutS
import Derived.Test.YtmnalediohghiaaGreatXOwn
namespace Go.Proofs.YtmnalediohghiaaGreat
open Go.RowKit
set_option linter.unusedVariables false
set_option linter.unusedSimpArgs false

theorem sMk2 {W w : World} (h3 : Below W.heap.size W w) : Below W.heap.size W w ∧ (∀ b o, b < W.heap.size → w.cell? ⟨b, o, none⟩ = W.cell? ⟨b, o, none⟩) := ⟨h3, (bcell h3).1⟩
set_option maxRecDepth 100000 in
set_option maxHeartbeats 8000000 in
theorem fnExactNameBox_walk (a0b : List PBox) (a0bA : Option Addr) (a0bC : Nat) (a0l : List DCommit) (a0lA : Option Addr) (a0lC : Nat) (a0g : Int) (x1 : ByteArray) (x2 : ByteArray) (w : World) : (MaxLen w) → (Rd w a0bA a0bC 4 a0b.length (a0b.flatMap PBox.cells)) → (RdM w a0b) → (Rd w a0lA a0lC 6 a0l.length (a0l.flatMap DCommit.cells)) → (∀ y ∈ a0b, y.name.size ≤ 9223372036854775807) → (∀ y ∈ a0b, ∀ m ∈ y.msgs, m.text.size ≤ 9223372036854775807) → (∀ y ∈ a0l, y.name.size ≤ 9223372036854775807) → (∀ y ∈ a0l, y.text.size ≤ 9223372036854775807) → (x1.size ≤ 9223372036854775807) → (x2.size ≤ 9223372036854775807) →
    Calls Tryz.prog 6 #[.agg #[.slice a0bA a0b.length a0bC, .slice a0lA a0l.length a0lC, .int .i64 a0g], .string x1, .string x2] w fun e w' => e = .returned (.bool true) ∧ Below w.heap.size w w' := by
  intro hmx a0bR a0bM a0lR gsn0 gst0 gsc0 gsd0 wf1 wf2
  have HMX := Lib.hid hmx
  clear hmx
  obtain ⟨rr, rok, hrel⟩ : ∃ rr rok, nameD (⟨a0b.map PBox.box, a0l, a0g⟩ : DStore) x1 x2 = (rr, rok) := ⟨_, _, rfl⟩
  have HREL := Lib.hid hrel
  clear hrel
  have Ha0b := Lib.hid a0bR
  clear a0bR
  have Ha0l := Lib.hid a0lR
  clear a0lR
  have Ha0bM := Lib.hid a0bM
  clear a0bM
  have Hgsn0 := Lib.hid gsn0
  clear gsn0
  have Hgst0 := Lib.hid gst0
  clear gst0
  have Hgsc0 := Lib.hid gsc0
  clear gsc0
  have Hgsd0 := Lib.hid gsd0
  clear gsd0
  by_cases hsm1 : x1.size ≤ 1048576
  rotate_left
  · have hd : decide ((1048576 : Int) < (x1.size : Int)) = true := decide_eq_true (by omega)
    go_enter Tryz.func6, Tryz.ntmps6
    go_wp2_with fail
    go_ret
    exact ⟨rfl, bxt⟩
  by_cases hsm2 : x2.size ≤ 1048576
  rotate_left
  · have hd : decide ((1048576 : Int) < (x2.size : Int)) = true := decide_eq_true (by omega)
    have hd1 : decide ((1048576 : Int) < (x1.size : Int)) = false := decide_eq_false (by omega)
    go_enter Tryz.func6, Tryz.ntmps6
    go_wp2_with fail
    go_ret
    exact ⟨rfl, bxt⟩
  have hds1 : decide ((1048576 : Int) < (x1.size : Int)) = false := decide_eq_false (by omega)
  have hds2 : decide ((1048576 : Int) < (x2.size : Int)) = false := decide_eq_false (by omega)
  go_enter Tryz.func6, Tryz.ntmps6
  go_wp2_with fail
  refine (szStore_any a0b _ _ a0l _ _ a0g 1048576 _ (Ha0b.out.ext bxt) (Ha0bM.out.ext bxt) (Ha0l.out.ext bxt) (by omega) (by omega) Hgsn0.out Hgst0.out Hgsc0.out Hgsd0.out).mono ?_
  rintro e w1 ⟨left1, rfl, hz1, hb1⟩
  obtain ⟨hc1, hf1⟩ := bcell hb1
  have hm1 : w.heap.size ≤ w1.heap.size := by (have hss := hb1.size; first | omega | (simp at hss <;> omega))
  have hs1_0 : w.heap.size < w1.heap.size := by (have hss := hb1.size; first | omega | (simp at hss <;> omega))
  rcases hz1 with hz1 | ⟨hz10, hz1⟩
  · go_wp2_with fail
    go_ret
    exact ⟨rfl, bxt⟩
  have hlt1 : left1 ≤ 1048576 := by omega
  have hla0 : a0b.length ≤ 1048576 := by (have := PBox.len_le a0b; omega)
  have hcb0 : cntB a0b ≤ 3145728 := by (have := cntB_sz a0b; omega)
  have Hlm0 : Hid (∀ y ∈ a0b, y.msgs.length ≤ 1048576) := fun y hy => by
    obtain ⟨q, hq, rfl⟩ := List.getElem_of_mem hy
    have := PBox.msgs_le a0b q hq
    omega
  have hlc0 : a0l.length ≤ 1048576 := by (have := DCommit.len_le a0l; omega)
  clear hz1
  have hcr : cntD rr.boxes ≤ 3145728 ∧ rr.log.length ≤ 1048576 := by (have h := name_cnt (⟨a0b.map PBox.box, a0l, a0g⟩ : DStore) x1 x2 (by rw [← cntB_D]; exact hcb0) hlc0; rw [HREL.out] at h; exact h)
  obtain ⟨hcr, hcl⟩ := hcr
  go_wp2_with fail
  refine (toStore_any a0b _ _ a0l _ _ a0g _ (Ha0b.out.ext bxt) (Ha0bM.out.ext bxt) (Ha0l.out.ext bxt) hla0 Hlm0.out hlc0).mono ?_
  rintro e w2 ⟨gx2, zs2, gy2, rfl, hown, hqz, hb2⟩
  have HX2 := Lib.hid hown; have HZ2 := Lib.hid hqz; clear hown hqz
  obtain ⟨hc2, hf2⟩ := bcell hb2
  have hm2 : w1.heap.size ≤ w2.heap.size := by (have hss := hb2.size; first | omega | (simp at hss <;> omega))
  have hs2_0 : w.heap.size < w2.heap.size := by (have hss := hb2.size; first | omega | (simp at hss <;> omega))
  go_wp2_with fail
  refine (specNameBox_law zs2 _ _ a0l _ _ a0g x1 x2 _ (HX2.out.box.rd.ext bxt) (HX2.out.box.rdm.ext bxt) ((Rd.of_Own HX2.out.log).ext bxt) (by rw [box_len HZ2.out]; exact hla0) (box_mlen HZ2.out Hlm0.out) hlc0 (box_names HZ2.out Hgsn0.out) (box_texts HZ2.out Hgst0.out) (fun y hy => ⟨Hgsc0.out y hy, Hgsd0.out y hy⟩) hsm1 hsm2 rr rok (Lib.hid (by rw [HZ2.out]; exact HREL.out))).mono ?_
  rintro e w3 ⟨ga3, qa3, zs3, gc3, qc3, rfl, hown, hqz, hb3⟩
  have HX3 := Lib.hid hown; have HZ3 := Lib.hid hqz; clear hown hqz
  obtain ⟨hc3, hf3⟩ := bcell hb3
  have hm3 : w2.heap.size ≤ w3.heap.size := by (have hss := hb3.size; first | omega | (simp at hss <;> omega))
  have hs3_0 : w.heap.size < w3.heap.size := by (have hss := hb3.size; first | omega | (simp at hss <;> omega))
  go_wp2_with fail
  refine (toStore_any a0b _ _ a0l _ _ a0g _ (Ha0b.out.ext bxt) (Ha0bM.out.ext bxt) (Ha0l.out.ext bxt) hla0 Hlm0.out hlc0).mono ?_
  rintro e w4 ⟨gx4, zs4, gy4, rfl, hown, hqz, hb4⟩
  have HX4 := Lib.hid hown; have HZ4 := Lib.hid hqz; clear hown hqz
  obtain ⟨hc4, hf4⟩ := bcell hb4
  have hm4 : w3.heap.size ≤ w4.heap.size := by (have hss := hb4.size; first | omega | (simp at hss <;> omega))
  have hs4_0 : w.heap.size < w4.heap.size := by (have hss := hb4.size; first | omega | (simp at hss <;> omega))
  have hs4_1 : w3.heap.size < w4.heap.size := by (have hss := hb4.size; first | omega | (simp at hss <;> omega))
  go_wp2_with fail
  refine (implNameBox_law zs4 _ _ a0l _ _ a0g x1 x2 _ (HX4.out.box.rd.ext bxt) (HX4.out.box.rdm.ext bxt) ((Rd.of_Own HX4.out.log).ext bxt) (by rw [box_len HZ4.out]; exact hla0) (box_mlen HZ4.out Hlm0.out) hlc0 (box_names HZ4.out Hgsn0.out) (box_texts HZ4.out Hgst0.out) (fun y hy => ⟨Hgsc0.out y hy, Hgsd0.out y hy⟩) hsm1 hsm2 (HMX.out.ext bxt) rr rok (Lib.hid (by rw [HZ4.out]; exact HREL.out))).mono ?_
  rintro e w5 ⟨ga5, qa5, zs5, gc5, qc5, rfl, hown, hqz, hb5⟩
  have HX5 := Lib.hid hown; have HZ5 := Lib.hid hqz; clear hown hqz
  obtain ⟨hc5, hf5⟩ := bcell hb5
  have hm5 : w4.heap.size ≤ w5.heap.size := by (have hss := hb5.size; first | omega | (simp at hss <;> omega))
  have hs5_0 : w.heap.size < w5.heap.size := by (have hss := hb5.size; first | omega | (simp at hss <;> omega))
  have hs5_1 : w3.heap.size < w5.heap.size := by (have hss := hb5.size; first | omega | (simp at hss <;> omega))
  have hs5_2 : w4.heap.size < w5.heap.size := by (have hss := hb5.size; first | omega | (simp at hss <;> omega))
  go_wp2_with fail
  refine (eqStore_any zs5 _ _ rr.log _ _ rr.given zs3 _ _ rr.log _ _ rr.given _ (HX5.out.box.rd.ext bxt) (HX5.out.box.rdm.ext bxt) ((Rd.of_Own HX5.out.log).ext bxt) (HX3.out.box.rd.ext bxt) (HX3.out.box.rdm.ext bxt) ((Rd.of_Own HX3.out.log).ext bxt) true (Lib.hid (by rw [HZ5.out, HZ3.out]; simp))).mono ?_
  rintro e w6 ⟨rfl, hb6⟩
  obtain ⟨hc6, hf6⟩ := bcell hb6
  have hm6 : w5.heap.size ≤ w6.heap.size := by (have hss := hb6.size; first | omega | (simp at hss <;> omega))
  have hs6_0 : w.heap.size < w6.heap.size := by (have hss := hb6.size; first | omega | (simp at hss <;> omega))
  have hs6_1 : w3.heap.size < w6.heap.size := by (have hss := hb6.size; first | omega | (simp at hss <;> omega))
  have hs6_2 : w4.heap.size < w6.heap.size := by (have hss := hb6.size; first | omega | (simp at hss <;> omega))
  have hs6_3 : w5.heap.size < w6.heap.size := by (have hss := hb6.size; first | omega | (simp at hss <;> omega))
  go_wp2_with fail
  go_region_held3 (fun w' => Below w6.heap.size w6 w' ∧ (∀ b o, b < w6.heap.size → w'.cell? ⟨b, o, none⟩ = w6.cell? ⟨b, o, none⟩)) (first | with_reducible exact sBeg _ | with_reducible exact sExt (by assumption) (by assumption) | (refine sMk2 ?_; exact bxt)) ((first | (go_at_call_of 12 (a0b); refine (toStore_any a0b _ _ a0l _ _ a0g _ (Ha0b.out.ext bxt) (Ha0bM.out.ext bxt) (Ha0l.out.ext bxt) hla0 Hlm0.out hlc0).mono ?_; rintro e w7 ⟨gx7, zs7, gy7, rfl, hown, hqz, hb7⟩; have HX7 := Lib.hid hown; have HZ7 := Lib.hid hqz; clear hown hqz; have hzz7 := hb7.size; (try simp at hzz7)) | (go_at_call_of 14 (zs4); refine (eqStore_any zs4 _ _ a0l _ _ a0g zs7 _ _ a0l _ _ a0g _ (HX4.out.box.rd.ext bxt) (HX4.out.box.rdm.ext bxt) ((Rd.of_Own HX4.out.log).ext bxt) (HX7.out.box.rd.ext bxt) (HX7.out.box.rdm.ext bxt) ((Rd.of_Own HX7.out.log).ext bxt) true (Lib.hid (by rw [HZ4.out, HZ7.out]; simp))).mono ?_; rintro e w8 ⟨rfl, hb8⟩; have hzz8 := hb8.size; (try simp at hzz8))))
  have hbq8 : Ext w6 w8 := Below.ext (Below.ext ((Below.refl _ _).drew) hb7) hb8
  obtain ⟨hc8, hf8⟩ := bcell hbq8
  have hm8 : w6.heap.size ≤ w8.heap.size := by (have hss := hbq8.size; first | omega | (simp at hss <;> omega))
  have hs8_0 : w.heap.size < w8.heap.size := by (have hss := hbq8.size; first | omega | (simp at hss <;> omega))
  have hs8_1 : w3.heap.size < w8.heap.size := by (have hss := hbq8.size; first | omega | (simp at hss <;> omega))
  have hs8_2 : w4.heap.size < w8.heap.size := by (have hss := hbq8.size; first | omega | (simp at hss <;> omega))
  have hs8_3 : w5.heap.size < w8.heap.size := by (have hss := hbq8.size; first | omega | (simp at hss <;> omega))
  go_wp2_with fail
  refine (markStore_any zs4 _ _ a0l _ _ a0g _ (1) _ (HX4.out.ext bxt) (by omega) (by omega) (by rw [cntB_box HZ4.out]; omega) (by omega)).mono ?_
  rintro e w9 ⟨rfl, hown, hg90⟩
  have HM9 := Lib.hid hown
  clear hown
  have hg9 := hg90
  clear hg90
  have hroot9 : Below w.heap.size w w9 := (show Below w.heap.size w w8 from bxt).trans (hg9.below (fun x hx => by (have := (HX4.out.rows_lt x hx).1; first | omega | (simp at this; omega))) (by (first | omega | (simp <;> omega))))
  obtain ⟨hc9, hf9⟩ := hg9.roff
  have hm9 : w8.heap.size ≤ w9.heap.size := hg9.size
  have hs9_0 : w.heap.size < w9.heap.size := by omega
  have hn9_0 : ROff _ (w.heap.size) := fun hS => by (have hq := HX4.out.rows_lt _ hS; first | omega | (simp at hq; omega))
  have hs9_1 : w3.heap.size < w9.heap.size := by omega
  have hn9_1 : ROff _ (w3.heap.size) := fun hS => by (have hq := HX4.out.rows_lt _ hS; first | omega | (simp at hq; omega))
  have hs9_2 : w4.heap.size < w9.heap.size := by omega
  have hn9_2 : ROff _ (w4.heap.size) := fun hS => by (have hq := HX4.out.rows_lt _ hS; first | omega | (simp at hq; omega))
  have hs9_3 : w5.heap.size < w9.heap.size := by omega
  have hn9_3 : ROff _ (w5.heap.size) := fun hS => by (have hq := HX4.out.rows_lt _ hS; first | omega | (simp at hq; omega))
  have HR9_5 := Lib.hid (OwnSt.chg (HX5.out.ext bxt) hg9 (fun x hx hS => by (have h8 := HX5.out.rows_lt x hx; have h9 := HX4.out.rows_lt x hS; first | omega | (simp at h8 h9; omega))))
  have HR9_3 := Lib.hid (OwnSt.chg (HX3.out.ext bxt) hg9 (fun x hx hS => by (have h8 := HX3.out.rows_lt x hx; have h9 := HX4.out.rows_lt x hS; first | omega | (simp at h8 h9; omega))))
  clear hg9
  have hcx9 : cntB zs4 ≤ 3145728 := by (rw [cntB_box HZ4.out]; exact hcb0)
  go_wp2_with fail
  refine (eqStore_any zs5 _ _ rr.log _ _ rr.given zs3 _ _ rr.log _ _ rr.given _ (HR9_5.out.box.rd.ext bxt) (HR9_5.out.box.rdm.ext bxt) ((Rd.of_Own HR9_5.out.log).ext bxt) (HR9_3.out.box.rd.ext bxt) (HR9_3.out.box.rdm.ext bxt) ((Rd.of_Own HR9_3.out.log).ext bxt) true (Lib.hid (by rw [HZ5.out, HZ3.out]; simp))).mono ?_
  rintro e w10 ⟨rfl, hb10⟩
  obtain ⟨hc10, hf10⟩ := bcell hb10
  have hm10 : w9.heap.size ≤ w10.heap.size := by (have hss := hb10.size; first | omega | (simp at hss <;> omega))
  have hs10_0 : w.heap.size < w10.heap.size := by (have hss := hb10.size; first | omega | (simp at hss <;> omega))
  have hs10_1 : w3.heap.size < w10.heap.size := by (have hss := hb10.size; first | omega | (simp at hss <;> omega))
  have hs10_2 : w4.heap.size < w10.heap.size := by (have hss := hb10.size; first | omega | (simp at hss <;> omega))
  have hs10_3 : w5.heap.size < w10.heap.size := by (have hss := hb10.size; first | omega | (simp at hss <;> omega))
  have hcg : cntB zs5 ≤ 3145728 := by (rw [cntB_D, HZ5.out]; exact hcr)
  go_wp2_with fail
  refine (markStore_any zs5 _ _ rr.log _ _ rr.given _ 1 _ (HR9_5.out.ext bxt) (by omega) (by omega) (by omega) (by omega)).mono ?_
  rintro e w11 ⟨rfl, hown, hg110⟩
  have HM11 := Lib.hid hown
  clear hown
  have hg11 := hg110
  clear hg110
  have hroot11 : Below w.heap.size w w11 := (show Below w.heap.size w w10 from bxt).trans (hg11.below (fun x hx => by (have := (HX5.out.rows_lt x hx).1; first | omega | (simp at this; omega))) (by (first | omega | (simp <;> omega))))
  obtain ⟨hc11, hf11⟩ := hg11.roff
  have hm11 : w10.heap.size ≤ w11.heap.size := hg11.size
  have hs11_0 : w.heap.size < w11.heap.size := by omega
  have hn11_0 : ROff _ (w.heap.size) := fun hS => by (have hq := HX5.out.rows_lt _ hS; first | omega | (simp at hq; omega))
  have hs11_1 : w3.heap.size < w11.heap.size := by omega
  have hn11_1 : ROff _ (w3.heap.size) := fun hS => by (have hq := HX5.out.rows_lt _ hS; first | omega | (simp at hq; omega))
  have hs11_2 : w4.heap.size < w11.heap.size := by omega
  have hn11_2 : ROff _ (w4.heap.size) := fun hS => by (have hq := HX5.out.rows_lt _ hS; first | omega | (simp at hq; omega))
  have hs11_3 : w5.heap.size < w11.heap.size := by omega
  have hn11_3 : ROff _ (w5.heap.size) := fun hS => by (have hq := HX5.out.rows_lt _ hS; first | omega | (simp at hq; omega))
  have HR11_3 := Lib.hid (OwnSt.chg (HR9_3.out.ext bxt) hg11 (fun x hx hS => by (have h8 := HX3.out.rows_lt x hx; have h9 := HX5.out.rows_lt x hS; first | omega | (simp at h8 h9; omega))))
  clear hg11
  obtain ⟨hgr, hgm, hgl⟩ := HM11.out.heldR
  have HGR := Lib.hid hgr
  have HGM := Lib.hid hgm
  have HGL := Lib.hid hgl
  clear hgr hgm hgl
  go_wp2_with fail
  refine (heldStore_any zs5 _ _ rr.log.length _ _ rr.given 1 _ (HGR.out.ext bxt) (HGM.out.ext bxt) (HGL.out.ext bxt) (by omega) (by omega) (by omega) (by omega)).mono ?_
  rintro e w12 ⟨rfl, hb12⟩
  obtain ⟨hc12, hf12⟩ := bcell hb12
  have hm12 : w11.heap.size ≤ w12.heap.size := by (have hss := hb12.size; first | omega | (simp at hss <;> omega))
  have hs12_0 : w.heap.size < w12.heap.size := by (have hss := hb12.size; first | omega | (simp at hss <;> omega))
  have hs12_1 : w3.heap.size < w12.heap.size := by (have hss := hb12.size; first | omega | (simp at hss <;> omega))
  have hs12_2 : w4.heap.size < w12.heap.size := by (have hss := hb12.size; first | omega | (simp at hss <;> omega))
  have hs12_3 : w5.heap.size < w12.heap.size := by (have hss := hb12.size; first | omega | (simp at hss <;> omega))
  go_wp2_with fail
  refine (toStore_any a0b _ _ a0l _ _ a0g _ (Ha0b.out.ext bxt) (Ha0bM.out.ext bxt) (Ha0l.out.ext bxt) hla0 Hlm0.out hlc0).mono ?_
  rintro e w13 ⟨gx13, zs13, gy13, rfl, hown, hqz, hb13⟩
  have HX13 := Lib.hid hown; have HZ13 := Lib.hid hqz; clear hown hqz
  obtain ⟨hc13, hf13⟩ := bcell hb13
  have hm13 : w12.heap.size ≤ w13.heap.size := by (have hss := hb13.size; first | omega | (simp at hss <;> omega))
  have hs13_0 : w.heap.size < w13.heap.size := by (have hss := hb13.size; first | omega | (simp at hss <;> omega))
  have hs13_1 : w3.heap.size < w13.heap.size := by (have hss := hb13.size; first | omega | (simp at hss <;> omega))
  have hs13_2 : w4.heap.size < w13.heap.size := by (have hss := hb13.size; first | omega | (simp at hss <;> omega))
  have hs13_3 : w5.heap.size < w13.heap.size := by (have hss := hb13.size; first | omega | (simp at hss <;> omega))
  go_wp2_with fail
  refine (implNameBox_law zs13 _ _ a0l _ _ a0g x1 x2 _ (HX13.out.box.rd.ext bxt) (HX13.out.box.rdm.ext bxt) ((Rd.of_Own HX13.out.log).ext bxt) (by rw [box_len HZ13.out]; exact hla0) (box_mlen HZ13.out Hlm0.out) hlc0 (box_names HZ13.out Hgsn0.out) (box_texts HZ13.out Hgst0.out) (fun y hy => ⟨Hgsc0.out y hy, Hgsd0.out y hy⟩) hsm1 hsm2 (HMX.out.ext bxt) rr rok (Lib.hid (by rw [HZ13.out]; exact HREL.out))).mono ?_
  rintro e w14 ⟨ga14, qa14, zs14, gc14, qc14, rfl, hown, hqz, hb14⟩
  have HX14 := Lib.hid hown; have HZ14 := Lib.hid hqz; clear hown hqz
  obtain ⟨hc14, hf14⟩ := bcell hb14
  have hm14 : w13.heap.size ≤ w14.heap.size := by (have hss := hb14.size; first | omega | (simp at hss <;> omega))
  have hs14_0 : w.heap.size < w14.heap.size := by (have hss := hb14.size; first | omega | (simp at hss <;> omega))
  have hs14_1 : w3.heap.size < w14.heap.size := by (have hss := hb14.size; first | omega | (simp at hss <;> omega))
  have hs14_2 : w4.heap.size < w14.heap.size := by (have hss := hb14.size; first | omega | (simp at hss <;> omega))
  have hs14_3 : w5.heap.size < w14.heap.size := by (have hss := hb14.size; first | omega | (simp at hss <;> omega))
  go_wp2_with fail
  refine (eqStore_any zs14 _ _ rr.log _ _ rr.given zs3 _ _ rr.log _ _ rr.given _ (HX14.out.box.rd.ext bxt) (HX14.out.box.rdm.ext bxt) ((Rd.of_Own HX14.out.log).ext bxt) (HR11_3.out.box.rd.ext bxt) (HR11_3.out.box.rdm.ext bxt) ((Rd.of_Own HR11_3.out.log).ext bxt) true (Lib.hid (by rw [HZ14.out, HZ3.out]; simp))).mono ?_
  rintro e w15 ⟨rfl, hb15⟩
  obtain ⟨hc15, hf15⟩ := bcell hb15
  have hm15 : w14.heap.size ≤ w15.heap.size := by (have hss := hb15.size; first | omega | (simp at hss <;> omega))
  have hs15_0 : w.heap.size < w15.heap.size := by (have hss := hb15.size; first | omega | (simp at hss <;> omega))
  have hs15_1 : w3.heap.size < w15.heap.size := by (have hss := hb15.size; first | omega | (simp at hss <;> omega))
  have hs15_2 : w4.heap.size < w15.heap.size := by (have hss := hb15.size; first | omega | (simp at hss <;> omega))
  have hs15_3 : w5.heap.size < w15.heap.size := by (have hss := hb15.size; first | omega | (simp at hss <;> omega))
  have hs15_4 : w14.heap.size < w15.heap.size := by (have hss := hb15.size; first | omega | (simp at hss <;> omega))
  go_wp2_with fail
  refine (heldStore_any zs5 _ _ rr.log.length _ _ rr.given 1 _ (HGR.out.ext bxt) (HGM.out.ext bxt) (HGL.out.ext bxt) (by omega) (by omega) (by omega) (by omega)).mono ?_
  rintro e w16 ⟨rfl, hb16⟩
  obtain ⟨hc16, hf16⟩ := bcell hb16
  have hm16 : w15.heap.size ≤ w16.heap.size := by (have hss := hb16.size; first | omega | (simp at hss <;> omega))
  have hs16_0 : w.heap.size < w16.heap.size := by (have hss := hb16.size; first | omega | (simp at hss <;> omega))
  have hs16_1 : w3.heap.size < w16.heap.size := by (have hss := hb16.size; first | omega | (simp at hss <;> omega))
  have hs16_2 : w4.heap.size < w16.heap.size := by (have hss := hb16.size; first | omega | (simp at hss <;> omega))
  have hs16_3 : w5.heap.size < w16.heap.size := by (have hss := hb16.size; first | omega | (simp at hss <;> omega))
  have hs16_4 : w14.heap.size < w16.heap.size := by (have hss := hb16.size; first | omega | (simp at hss <;> omega))
  go_wp2_with fail
  go_ret
  exact ⟨rfl, bxt⟩

end Go.Proofs.YtmnalediohghiaaGreat
