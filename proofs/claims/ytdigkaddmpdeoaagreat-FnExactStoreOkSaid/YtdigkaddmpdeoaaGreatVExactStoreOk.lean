/-
  The law FnExactStoreOk: its walk, out of the contracts of what it calls.
-/
import Derived.Test.YtdigkaddmpdeoaaGreatWStoreOkS
import Derived.Test.YtdigkaddmpdeoaaGreatWStoreOkI
namespace Go.Proofs.YtdigkaddmpdeoaaGreat
open Go.RowKit
set_option linter.unusedVariables false
set_option linter.unusedSimpArgs false

set_option maxHeartbeats 4000000 in
theorem fnExactStoreOk_walk (a0b : List PBox) (a0bA : Option Addr) (a0bC : Nat) (a0l : List DCommit) (a0lA : Option Addr) (a0lC : Nat) (a0g : Int) (w : World) : (MaxLen w) → (Rd w a0bA a0bC 4 a0b.length (a0b.flatMap PBox.cells)) → (RdM w a0b) → (Rd w a0lA a0lC 6 a0l.length (a0l.flatMap DCommit.cells)) → (∀ y ∈ a0b, y.name.size ≤ 9223372036854775807) → (∀ y ∈ a0b, ∀ m ∈ y.msgs, m.text.size ≤ 9223372036854775807) → (∀ y ∈ a0l, y.name.size ≤ 9223372036854775807) → (∀ y ∈ a0l, y.text.size ≤ 9223372036854775807) →
    Calls Tryz.prog 3 #[.agg #[.slice a0bA a0b.length a0bC, .slice a0lA a0l.length a0lC, .int .i64 a0g]] w fun e w' => e = .returned (.bool true) ∧ Below w.heap.size w w' := by
  intro hmx a0bR a0bM a0lR gsn0 gst0 gsc0 gsd0
  obtain ⟨r, hr⟩ := boolOf (StoreP ⟨a0b.map PBox.box, a0l, a0g⟩)
  have Hr := Lib.hid hr
  clear hr
  have HMX := Lib.hid hmx
  clear hmx
  have Ha0b := Lib.hid a0bR
  clear a0bR
  have Ha0l := Lib.hid a0lR
  clear a0lR
  have Ha0bM := Lib.hid a0bM
  clear a0bM
  have Hgsn0 := Lib.hid gsn0
  clear gsn0
  have Hgst0 := Lib.hid gst0
  clear gst0
  have Hgsc0 := Lib.hid gsc0
  clear gsc0
  have Hgsd0 := Lib.hid gsd0
  clear gsd0
  go_enter Tryz.func3, Tryz.ntmps3
  go_wp2_with fail
  refine (szStore_any a0b _ _ a0l _ _ a0g 1048576 _ (Ha0b.out.ext bxt) (Ha0bM.out.ext bxt) (Ha0l.out.ext bxt) (by omega) (by omega) Hgsn0.out Hgst0.out Hgsc0.out Hgsd0.out).mono ?_
  rintro e w1 ⟨left1, rfl, hz1, hb1⟩
  obtain ⟨hc1, hf1⟩ := bcell hb1
  have hs1_0 : w.heap.size < w1.heap.size := by (have hss := hb1.size; first | omega | (simp at hss <;> omega))
  rcases hz1 with hz1 | ⟨hz10, hz1⟩
  · go_wp2_with fail
    go_ret
    exact ⟨rfl, bxt⟩
  have hlt1 : left1 ≤ 1048576 := by omega
  have hla0 : a0b.length ≤ 1048576 := by (have := PBox.len_le a0b; omega)
  have hlc0 : a0l.length ≤ 1048576 := by (have := DCommit.len_le a0l; omega)
  have Hlm0 : Hid (∀ y ∈ a0b, y.msgs.length ≤ 1048576) := fun y hy => by
    obtain ⟨q, hq, rfl⟩ := List.getElem_of_mem hy
    have := PBox.msgs_le a0b q hq
    omega
  clear hz1
  go_wp2_with fail
  refine (toStore_any a0b _ _ a0l _ _ a0g _ (Ha0b.out.ext bxt) (Ha0bM.out.ext bxt) (Ha0l.out.ext bxt) hla0 Hlm0.out hlc0).mono ?_
  rintro e w2 ⟨gx2, zs2, gy2, rfl, hown, hqz, hb2⟩
  have HX2 := Lib.hid hown; have HZ2 := Lib.hid hqz; clear hown hqz
  obtain ⟨hc2, hf2⟩ := bcell hb2
  have hs2_0 : w.heap.size < w2.heap.size := by (have hss := hb2.size; first | omega | (simp at hss <;> omega))
  go_wp2_with fail
  refine (specStoreOk_any zs2 _ _ a0l _ _ a0g _ (HX2.out.box.rd.ext bxt) (HX2.out.box.rdm.ext bxt) ((Rd.of_Own HX2.out.log).ext bxt) (by rw [box_len HZ2.out]; exact hla0) (box_mlen HZ2.out Hlm0.out) hlc0 (box_names HZ2.out Hgsn0.out) (box_texts HZ2.out Hgst0.out) (fun y hy => ⟨Hgsc0.out y hy, Hgsd0.out y hy⟩) r (by (rw [HZ2.out]; exact Hr))).mono ?_
  rintro e w3 ⟨rfl, hb3⟩
  obtain ⟨hc3, hf3⟩ := bcell hb3
  have hs3_0 : w.heap.size < w3.heap.size := by (have hss := hb3.size; first | omega | (simp at hss <;> omega))
  go_wp2_with fail
  refine (toStore_any a0b _ _ a0l _ _ a0g _ (Ha0b.out.ext bxt) (Ha0bM.out.ext bxt) (Ha0l.out.ext bxt) hla0 Hlm0.out hlc0).mono ?_
  rintro e w4 ⟨gx4, zs4, gy4, rfl, hown, hqz, hb4⟩
  have HX4 := Lib.hid hown; have HZ4 := Lib.hid hqz; clear hown hqz
  obtain ⟨hc4, hf4⟩ := bcell hb4
  have hs4_0 : w.heap.size < w4.heap.size := by (have hss := hb4.size; first | omega | (simp at hss <;> omega))
  go_wp2_with fail
  refine (implStoreOk_any zs4 _ _ a0l _ _ a0g _ (HX4.out.box.rd.ext bxt) (HX4.out.box.rdm.ext bxt) ((Rd.of_Own HX4.out.log).ext bxt) (by rw [box_len HZ4.out]; exact hla0) (box_mlen HZ4.out Hlm0.out) hlc0 (box_names HZ4.out Hgsn0.out) (box_texts HZ4.out Hgst0.out) (fun y hy => ⟨Hgsc0.out y hy, Hgsd0.out y hy⟩) (HMX.out.ext bxt) r (by (rw [HZ4.out]; exact Hr))).mono ?_
  rintro e w5 ⟨rfl, hb5⟩
  obtain ⟨hc5, hf5⟩ := bcell hb5
  have hs5_0 : w.heap.size < w5.heap.size := by (have hss := hb5.size; first | omega | (simp at hss <;> omega))
  have hs5_1 : w4.heap.size < w5.heap.size := by (have hss := hb5.size; first | omega | (simp at hss <;> omega))
  go_wp2_with fail
  go_region_held3 (fun w' => Below w5.heap.size w5 w' ∧ (∀ b o, b < w5.heap.size → w'.cell? ⟨b, o, none⟩ = w5.cell? ⟨b, o, none⟩)) (first | exact sBeg _ | exact sExt (by assumption) (by assumption)) ((first | (go_at_call_of 10 (a0b); refine (toStore_any a0b _ _ a0l _ _ a0g _ (Ha0b.out.ext bxt) (Ha0bM.out.ext bxt) (Ha0l.out.ext bxt) hla0 Hlm0.out hlc0).mono ?_; rintro e w6 ⟨gx6, zs6, gy6, rfl, hown, hqz, hb6⟩; have HX6 := Lib.hid hown; have HZ6 := Lib.hid hqz; clear hown hqz) | (go_at_call_of 12 (zs4); refine (eqStore_any zs4 _ _ a0l _ _ a0g zs6 _ _ a0l _ _ a0g _ (HX4.out.box.rd.ext bxt) (HX4.out.box.rdm.ext bxt) ((Rd.of_Own HX4.out.log).ext bxt) (HX6.out.box.rd.ext bxt) (HX6.out.box.rdm.ext bxt) ((Rd.of_Own HX6.out.log).ext bxt) true (Lib.hid (by rw [HZ4.out, HZ6.out]; simp))).mono ?_; rintro e w7 ⟨rfl, hb7⟩)))
  have hbq7 : Ext w5 w7 := Below.ext (Below.ext ((Below.refl _ _).drew) hb6) hb7
  obtain ⟨hc7, hf7⟩ := bcell hbq7
  have hs7_0 : w.heap.size < w7.heap.size := by (have hss := hbq7.size; first | omega | (simp at hss <;> omega))
  have hs7_1 : w4.heap.size < w7.heap.size := by (have hss := hbq7.size; first | omega | (simp at hss <;> omega))
  go_wp2_with fail
  go_ret
  exact ⟨rfl, bxt⟩

end Go.Proofs.YtdigkaddmpdeoaaGreat
