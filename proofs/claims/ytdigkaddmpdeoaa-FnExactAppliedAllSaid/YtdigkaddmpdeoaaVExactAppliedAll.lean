/-
  The law FnExactAppliedAll: its walk, out of the contracts of what it calls.
-/
import Derived.Test.YtdigkaddmpdeoaaWAll
import Derived.Test.YtdigkaddmpdeoaaHeldBoxS
import Derived.Test.YtdigkaddmpdeoaaMarkStore
import Derived.Test.YtdigkaddmpdeoaaMarkCommit
import Derived.Test.YtdigkaddmpdeoaaFamCommit
import Derived.Test.YtdigkaddmpdeoaaCut
namespace Go.Proofs.Ytdigkaddmpdeoaa
open Go.RowKit
set_option linter.unusedVariables false
set_option linter.unusedSimpArgs false

set_option maxRecDepth 100000 in
set_option maxHeartbeats 8000000 in
theorem fnExactAppliedAll_walk (a0 : List PBox) (a0A : Option Addr) (a0C : Nat) (a1 : List DCommit) (a1A : Option Addr) (a1C : Nat) (w : World) : (MaxLen w) → (Rd w a0A a0C 4 a0.length (a0.flatMap PBox.cells)) → (RdM w a0) → (∀ y ∈ a0, y.name.size ≤ 9223372036854775807) → (∀ y ∈ a0, ∀ m ∈ y.msgs, m.text.size ≤ 9223372036854775807) → (Rd w a1A a1C 6 a1.length (a1.flatMap DCommit.cells)) → (∀ y ∈ a1, y.name.size ≤ 9223372036854775807 ∧ y.text.size ≤ 9223372036854775807) →
    Calls Try.prog 9 #[.slice a0A a0.length a0C, .slice a1A a1.length a1C] w fun e w' => e = .returned (.bool true) ∧ Below w.heap.size w w' := by
  intro hmx a0R a0M gsn0 gst0 a1R gs1
  have HMX := Lib.hid hmx
  clear hmx
  obtain ⟨rr, rok, hrel⟩ : ∃ rr rok, AllRel (a0.map PBox.box) a1 rr rok := allRel_ex _ _
  have HREL := Lib.hid hrel
  clear hrel
  have Ha0 := Lib.hid a0R
  clear a0R
  have Ha1 := Lib.hid a1R
  clear a1R
  have Ha0M := Lib.hid a0M
  clear a0M
  have Hgsn0 := Lib.hid gsn0
  clear gsn0
  have Hgst0 := Lib.hid gst0
  clear gst0
  have Hgs1 := Lib.hid gs1
  clear gs1
  go_enter Try.func9, Try.ntmps9
  go_wp2_with fail
  refine (szBoxS_any a0 _ _ 1048576 _ (Ha0.out.ext (by repeat' (first | with_reducible exact Below.refl _ _ | with_reducible assumption | with_reducible refine Below.alloc ?_ ?_ _ | with_reducible refine Below.setCell ?_ ?_ _ | with_reducible refine Below.drew ?_ | with_reducible refine Below.drewN ?_ _ | with_reducible refine Below.ext ?_ (by assumption) | (simp <;> omega) | omega))) (Ha0M.out.ext (by repeat' (first | with_reducible exact Below.refl _ _ | with_reducible assumption | with_reducible refine Below.alloc ?_ ?_ _ | with_reducible refine Below.setCell ?_ ?_ _ | with_reducible refine Below.drew ?_ | with_reducible refine Below.drewN ?_ _ | with_reducible refine Below.ext ?_ (by assumption) | (simp <;> omega) | omega))) (by omega) (by omega) Hgsn0.out Hgst0.out).mono ?_
  rintro e w1 ⟨left1, rfl, hz1, hb1⟩
  obtain ⟨hc1, hf1⟩ := bcell hb1
  have hm1 : w.heap.size ≤ w1.heap.size := by (have hss := hb1.size; first | omega | (simp at hss <;> omega))
  rcases hz1 with hz1 | ⟨hz10, hz1⟩
  · go_wp2_with fail
    go_ret
    exact ⟨rfl, by repeat' (first | with_reducible exact Below.refl _ _ | with_reducible assumption | with_reducible refine Below.alloc ?_ ?_ _ | with_reducible refine Below.setCell ?_ ?_ _ | with_reducible refine Below.drew ?_ | with_reducible refine Below.drewN ?_ _ | with_reducible refine Below.ext ?_ (by assumption) | (simp <;> omega) | omega)⟩
  have hlt1 : left1 ≤ 1048576 := by omega
  have hla0 : a0.length ≤ 1048576 := by (have := PBox.len_le a0; omega)
  have hcb0 : cntB a0 ≤ 3145728 := by (have := cntB_sz a0; omega)
  have Hlm0 : Hid (∀ y ∈ a0, y.msgs.length ≤ 1048576) := fun y hy => by
    obtain ⟨q, hq, rfl⟩ := List.getElem_of_mem hy
    have := PBox.msgs_le a0 q hq
    omega
  clear hz1
  go_wp2_with fail
  refine (szCommitS_any a1 _ _ left1 _ (Ha1.out.ext (by repeat' (first | with_reducible exact Below.refl _ _ | with_reducible assumption | with_reducible refine Below.alloc ?_ ?_ _ | with_reducible refine Below.setCell ?_ ?_ _ | with_reducible refine Below.drew ?_ | with_reducible refine Below.drewN ?_ _ | with_reducible refine Below.ext ?_ (by assumption) | (simp <;> omega) | omega))) (by omega) (by omega) (fun y hy => (Hgs1.out y hy).1) (fun y hy => (Hgs1.out y hy).2)).mono ?_
  rintro e w2 ⟨left2, rfl, hz2, hb2⟩
  obtain ⟨hc2, hf2⟩ := bcell hb2
  have hm2 : w1.heap.size ≤ w2.heap.size := by (have hss := hb2.size; first | omega | (simp at hss <;> omega))
  rcases hz2 with hz2 | ⟨hz20, hz2⟩
  · go_wp2_with fail
    go_ret
    exact ⟨rfl, by repeat' (first | with_reducible exact Below.refl _ _ | with_reducible assumption | with_reducible refine Below.alloc ?_ ?_ _ | with_reducible refine Below.setCell ?_ ?_ _ | with_reducible refine Below.drew ?_ | with_reducible refine Below.drewN ?_ _ | with_reducible refine Below.ext ?_ (by assumption) | (simp <;> omega) | omega)⟩
  have hlt2 : left2 ≤ 1048576 := by omega
  have hla1 : a1.length ≤ 1048576 := by (have := DCommit.len_le a1; omega)
  clear hz2
  have hcr : cntD rr ≤ 3145728 := allRel_cnt HREL.out (by rw [← cntB_D]; exact hcb0)
  go_wp2_with fail
  refine (toBoxS_any a0 _ _ _ (Ha0.out.ext (by repeat' (first | with_reducible exact Below.refl _ _ | with_reducible assumption | with_reducible refine Below.alloc ?_ ?_ _ | with_reducible refine Below.setCell ?_ ?_ _ | with_reducible refine Below.drew ?_ | with_reducible refine Below.drewN ?_ _ | with_reducible refine Below.ext ?_ (by assumption) | (simp <;> omega) | omega))) (Ha0M.out.ext (by repeat' (first | with_reducible exact Below.refl _ _ | with_reducible assumption | with_reducible refine Below.alloc ?_ ?_ _ | with_reducible refine Below.setCell ?_ ?_ _ | with_reducible refine Below.drew ?_ | with_reducible refine Below.drewN ?_ _ | with_reducible refine Below.ext ?_ (by assumption) | (simp <;> omega) | omega))) hla0 Hlm0.out).mono ?_
  rintro e w3 ⟨gx3, zs3, rfl, hown, hqz, hb3⟩
  have HX3 := Lib.hid hown; have HZ3 := Lib.hid hqz; clear hown hqz
  obtain ⟨hc3, hf3⟩ := bcell hb3
  have hm3 : w2.heap.size ≤ w3.heap.size := by (have hss := hb3.size; first | omega | (simp at hss <;> omega))
  go_wp2_with fail
  refine (toCommitS_any a1 _ _ _ (Ha1.out.ext (by repeat' (first | with_reducible exact Below.refl _ _ | with_reducible assumption | with_reducible refine Below.alloc ?_ ?_ _ | with_reducible refine Below.setCell ?_ ?_ _ | with_reducible refine Below.drew ?_ | with_reducible refine Below.drewN ?_ _ | with_reducible refine Below.ext ?_ (by assumption) | (simp <;> omega) | omega))) hla1).mono ?_
  rintro e w4 ⟨gx4, rfl, hown, hb4⟩
  have HX4 := Lib.hid (Own.of_row hown); clear hown
  obtain ⟨hc4, hf4⟩ := bcell hb4
  have hm4 : w3.heap.size ≤ w4.heap.size := by (have hss := hb4.size; first | omega | (simp at hss <;> omega))
  go_wp2_with fail
  refine (specAppliedAll_law zs3 _ _ a1 _ _ _ (HX3.out.rd.ext (by repeat' (first | with_reducible exact Below.refl _ _ | with_reducible assumption | with_reducible refine Below.alloc ?_ ?_ _ | with_reducible refine Below.setCell ?_ ?_ _ | with_reducible refine Below.drew ?_ | with_reducible refine Below.drewN ?_ _ | with_reducible refine Below.ext ?_ (by assumption) | (simp <;> omega) | omega))) (HX3.out.rdm.ext (by repeat' (first | with_reducible exact Below.refl _ _ | with_reducible assumption | with_reducible refine Below.alloc ?_ ?_ _ | with_reducible refine Below.setCell ?_ ?_ _ | with_reducible refine Below.drew ?_ | with_reducible refine Below.drewN ?_ _ | with_reducible refine Below.ext ?_ (by assumption) | (simp <;> omega) | omega))) (by rw [box_len HZ3.out]; exact hla0) (box_mlen HZ3.out Hlm0.out) (box_names HZ3.out Hgsn0.out) (box_texts HZ3.out Hgst0.out) ((Rd.of_Own HX4.out).ext (by repeat' (first | with_reducible exact Below.refl _ _ | with_reducible assumption | with_reducible refine Below.alloc ?_ ?_ _ | with_reducible refine Below.setCell ?_ ?_ _ | with_reducible refine Below.drew ?_ | with_reducible refine Below.drewN ?_ _ | with_reducible refine Below.ext ?_ (by assumption) | (simp <;> omega) | omega))) hla1 Hgs1.out rr rok (Lib.hid (by rw [HZ3.out]; exact HREL.out))).mono ?_
  rintro e w5 ⟨ga5, qa5, zs5, rfl, hown, hqz, hb5⟩
  have HX5 := Lib.hid hown; have HZ5 := Lib.hid hqz; clear hown hqz
  obtain ⟨hc5, hf5⟩ := bcell hb5
  have hm5 : w4.heap.size ≤ w5.heap.size := by (have hss := hb5.size; first | omega | (simp at hss <;> omega))
  go_wp2_with fail
  refine (toBoxS_any a0 _ _ _ (Ha0.out.ext (by repeat' (first | with_reducible exact Below.refl _ _ | with_reducible assumption | with_reducible refine Below.alloc ?_ ?_ _ | with_reducible refine Below.setCell ?_ ?_ _ | with_reducible refine Below.drew ?_ | with_reducible refine Below.drewN ?_ _ | with_reducible refine Below.ext ?_ (by assumption) | (simp <;> omega) | omega))) (Ha0M.out.ext (by repeat' (first | with_reducible exact Below.refl _ _ | with_reducible assumption | with_reducible refine Below.alloc ?_ ?_ _ | with_reducible refine Below.setCell ?_ ?_ _ | with_reducible refine Below.drew ?_ | with_reducible refine Below.drewN ?_ _ | with_reducible refine Below.ext ?_ (by assumption) | (simp <;> omega) | omega))) hla0 Hlm0.out).mono ?_
  rintro e w6 ⟨gx6, zs6, rfl, hown, hqz, hb6⟩
  have HX6 := Lib.hid hown; have HZ6 := Lib.hid hqz; clear hown hqz
  obtain ⟨hc6, hf6⟩ := bcell hb6
  have hm6 : w5.heap.size ≤ w6.heap.size := by (have hss := hb6.size; first | omega | (simp at hss <;> omega))
  go_wp2_with fail
  refine (toCommitS_any a1 _ _ _ (Ha1.out.ext (by repeat' (first | with_reducible exact Below.refl _ _ | with_reducible assumption | with_reducible refine Below.alloc ?_ ?_ _ | with_reducible refine Below.setCell ?_ ?_ _ | with_reducible refine Below.drew ?_ | with_reducible refine Below.drewN ?_ _ | with_reducible refine Below.ext ?_ (by assumption) | (simp <;> omega) | omega))) hla1).mono ?_
  rintro e w7 ⟨gx7, rfl, hown, hb7⟩
  have HX7 := Lib.hid (Own.of_row hown); clear hown
  obtain ⟨hc7, hf7⟩ := bcell hb7
  have hm7 : w6.heap.size ≤ w7.heap.size := by (have hss := hb7.size; first | omega | (simp at hss <;> omega))
  go_wp2_with fail
  refine (implAppliedAll_law zs6 _ _ a1 _ _ _ (HX6.out.rd.ext (by repeat' (first | with_reducible exact Below.refl _ _ | with_reducible assumption | with_reducible refine Below.alloc ?_ ?_ _ | with_reducible refine Below.setCell ?_ ?_ _ | with_reducible refine Below.drew ?_ | with_reducible refine Below.drewN ?_ _ | with_reducible refine Below.ext ?_ (by assumption) | (simp <;> omega) | omega))) (HX6.out.rdm.ext (by repeat' (first | with_reducible exact Below.refl _ _ | with_reducible assumption | with_reducible refine Below.alloc ?_ ?_ _ | with_reducible refine Below.setCell ?_ ?_ _ | with_reducible refine Below.drew ?_ | with_reducible refine Below.drewN ?_ _ | with_reducible refine Below.ext ?_ (by assumption) | (simp <;> omega) | omega))) (by rw [box_len HZ6.out]; exact hla0) (box_mlen HZ6.out Hlm0.out) (box_names HZ6.out Hgsn0.out) (box_texts HZ6.out Hgst0.out) ((Rd.of_Own HX7.out).ext (by repeat' (first | with_reducible exact Below.refl _ _ | with_reducible assumption | with_reducible refine Below.alloc ?_ ?_ _ | with_reducible refine Below.setCell ?_ ?_ _ | with_reducible refine Below.drew ?_ | with_reducible refine Below.drewN ?_ _ | with_reducible refine Below.ext ?_ (by assumption) | (simp <;> omega) | omega))) hla1 Hgs1.out (HMX.out.ext (by repeat' (first | with_reducible exact Below.refl _ _ | with_reducible assumption | with_reducible refine Below.alloc ?_ ?_ _ | with_reducible refine Below.setCell ?_ ?_ _ | with_reducible refine Below.drew ?_ | with_reducible refine Below.drewN ?_ _ | with_reducible refine Below.ext ?_ (by assumption) | (simp <;> omega) | omega))) rr rok (Lib.hid (by rw [HZ6.out]; exact HREL.out))).mono ?_
  rintro e w8 ⟨ga8, qa8, zs8, rfl, hown, hqz, hb8⟩
  have HX8 := Lib.hid hown; have HZ8 := Lib.hid hqz; clear hown hqz
  obtain ⟨hc8, hf8⟩ := bcell hb8
  have hm8 : w7.heap.size ≤ w8.heap.size := by (have hss := hb8.size; first | omega | (simp at hss <;> omega))
  go_wp2_with fail
  refine (eqBoxS_any zs8 zs5 _ _ _ _ _ (HX8.out.rd.ext (by repeat' (first | with_reducible exact Below.refl _ _ | with_reducible assumption | with_reducible refine Below.alloc ?_ ?_ _ | with_reducible refine Below.setCell ?_ ?_ _ | with_reducible refine Below.drew ?_ | with_reducible refine Below.drewN ?_ _ | with_reducible refine Below.ext ?_ (by assumption) | (simp <;> omega) | omega))) (HX8.out.rdm.ext (by repeat' (first | with_reducible exact Below.refl _ _ | with_reducible assumption | with_reducible refine Below.alloc ?_ ?_ _ | with_reducible refine Below.setCell ?_ ?_ _ | with_reducible refine Below.drew ?_ | with_reducible refine Below.drewN ?_ _ | with_reducible refine Below.ext ?_ (by assumption) | (simp <;> omega) | omega))) (HX5.out.rd.ext (by repeat' (first | with_reducible exact Below.refl _ _ | with_reducible assumption | with_reducible refine Below.alloc ?_ ?_ _ | with_reducible refine Below.setCell ?_ ?_ _ | with_reducible refine Below.drew ?_ | with_reducible refine Below.drewN ?_ _ | with_reducible refine Below.ext ?_ (by assumption) | (simp <;> omega) | omega))) (HX5.out.rdm.ext (by repeat' (first | with_reducible exact Below.refl _ _ | with_reducible assumption | with_reducible refine Below.alloc ?_ ?_ _ | with_reducible refine Below.setCell ?_ ?_ _ | with_reducible refine Below.drew ?_ | with_reducible refine Below.drewN ?_ _ | with_reducible refine Below.ext ?_ (by assumption) | (simp <;> omega) | omega))) true (Lib.hid (by rw [HZ8.out, HZ5.out]; simp))).mono ?_
  rintro e w9 ⟨rfl, hb9⟩
  obtain ⟨hc9, hf9⟩ := bcell hb9
  have hm9 : w8.heap.size ≤ w9.heap.size := by (have hss := hb9.size; first | omega | (simp at hss <;> omega))
  go_wp2_with fail
  refine (toBoxS_any a0 _ _ _ (Ha0.out.ext (by repeat' (first | with_reducible exact Below.refl _ _ | with_reducible assumption | with_reducible refine Below.alloc ?_ ?_ _ | with_reducible refine Below.setCell ?_ ?_ _ | with_reducible refine Below.drew ?_ | with_reducible refine Below.drewN ?_ _ | with_reducible refine Below.ext ?_ (by assumption) | (simp <;> omega) | omega))) (Ha0M.out.ext (by repeat' (first | with_reducible exact Below.refl _ _ | with_reducible assumption | with_reducible refine Below.alloc ?_ ?_ _ | with_reducible refine Below.setCell ?_ ?_ _ | with_reducible refine Below.drew ?_ | with_reducible refine Below.drewN ?_ _ | with_reducible refine Below.ext ?_ (by assumption) | (simp <;> omega) | omega))) hla0 Hlm0.out).mono ?_
  rintro e w10 ⟨gx10, zs10, rfl, hown, hqz, hb10⟩
  have HX10 := Lib.hid hown; have HZ10 := Lib.hid hqz; clear hown hqz
  obtain ⟨hc10, hf10⟩ := bcell hb10
  have hm10 : w9.heap.size ≤ w10.heap.size := by (have hss := hb10.size; first | omega | (simp at hss <;> omega))
  go_wp2_with fail
  refine (eqBoxS_any zs6 zs10 _ _ _ _ _ (HX6.out.rd.ext (by repeat' (first | with_reducible exact Below.refl _ _ | with_reducible assumption | with_reducible refine Below.alloc ?_ ?_ _ | with_reducible refine Below.setCell ?_ ?_ _ | with_reducible refine Below.drew ?_ | with_reducible refine Below.drewN ?_ _ | with_reducible refine Below.ext ?_ (by assumption) | (simp <;> omega) | omega))) (HX6.out.rdm.ext (by repeat' (first | with_reducible exact Below.refl _ _ | with_reducible assumption | with_reducible refine Below.alloc ?_ ?_ _ | with_reducible refine Below.setCell ?_ ?_ _ | with_reducible refine Below.drew ?_ | with_reducible refine Below.drewN ?_ _ | with_reducible refine Below.ext ?_ (by assumption) | (simp <;> omega) | omega))) (HX10.out.rd.ext (by repeat' (first | with_reducible exact Below.refl _ _ | with_reducible assumption | with_reducible refine Below.alloc ?_ ?_ _ | with_reducible refine Below.setCell ?_ ?_ _ | with_reducible refine Below.drew ?_ | with_reducible refine Below.drewN ?_ _ | with_reducible refine Below.ext ?_ (by assumption) | (simp <;> omega) | omega))) (HX10.out.rdm.ext (by repeat' (first | with_reducible exact Below.refl _ _ | with_reducible assumption | with_reducible refine Below.alloc ?_ ?_ _ | with_reducible refine Below.setCell ?_ ?_ _ | with_reducible refine Below.drew ?_ | with_reducible refine Below.drewN ?_ _ | with_reducible refine Below.ext ?_ (by assumption) | (simp <;> omega) | omega))) true (Lib.hid (by rw [HZ6.out, HZ10.out]; simp))).mono ?_
  rintro e w11 ⟨rfl, hb11⟩
  obtain ⟨hc11, hf11⟩ := bcell hb11
  have hm11 : w10.heap.size ≤ w11.heap.size := by (have hss := hb11.size; first | omega | (simp at hss <;> omega))
  go_wp2_with fail
  refine (toCommitS_any a1 _ _ _ (Ha1.out.ext (by repeat' (first | with_reducible exact Below.refl _ _ | with_reducible assumption | with_reducible refine Below.alloc ?_ ?_ _ | with_reducible refine Below.setCell ?_ ?_ _ | with_reducible refine Below.drew ?_ | with_reducible refine Below.drewN ?_ _ | with_reducible refine Below.ext ?_ (by assumption) | (simp <;> omega) | omega))) hla1).mono ?_
  rintro e w12 ⟨gx12, rfl, hown, hb12⟩
  have HX12 := Lib.hid (Own.of_row hown); clear hown
  obtain ⟨hc12, hf12⟩ := bcell hb12
  have hm12 : w11.heap.size ≤ w12.heap.size := by (have hss := hb12.size; first | omega | (simp at hss <;> omega))
  go_wp2_with fail
  refine (eqCommitS_any a1 a1 _ _ _ _ _ ((Rd.of_Own HX7.out).ext (by repeat' (first | with_reducible exact Below.refl _ _ | with_reducible assumption | with_reducible refine Below.alloc ?_ ?_ _ | with_reducible refine Below.setCell ?_ ?_ _ | with_reducible refine Below.drew ?_ | with_reducible refine Below.drewN ?_ _ | with_reducible refine Below.ext ?_ (by assumption) | (simp <;> omega) | omega))) ((Rd.of_Own HX12.out).ext (by repeat' (first | with_reducible exact Below.refl _ _ | with_reducible assumption | with_reducible refine Below.alloc ?_ ?_ _ | with_reducible refine Below.setCell ?_ ?_ _ | with_reducible refine Below.drew ?_ | with_reducible refine Below.drewN ?_ _ | with_reducible refine Below.ext ?_ (by assumption) | (simp <;> omega) | omega))) true (by simp [Hid])).mono ?_
  rintro e w13 ⟨rfl, hb13⟩
  obtain ⟨hc13, hf13⟩ := bcell hb13
  have hm13 : w12.heap.size ≤ w13.heap.size := by (have hss := hb13.size; first | omega | (simp at hss <;> omega))
  go_wp2_with fail
  refine (markBoxS_any zs6 _ _ _ (1) _ (HX6.out.ext (by repeat' (first | with_reducible exact Below.refl _ _ | with_reducible assumption | with_reducible refine Below.alloc ?_ ?_ _ | with_reducible refine Below.setCell ?_ ?_ _ | with_reducible refine Below.drew ?_ | with_reducible refine Below.drewN ?_ _ | with_reducible refine Below.ext ?_ (by assumption) | (simp <;> omega) | omega))) (by omega) (by omega) (by rw [cntB_box HZ6.out]; omega)).mono ?_
  rintro e w14 ⟨rfl, hown, hg140⟩
  have HM14 := Lib.hid hown
  clear hown
  have hg14 := hg140
  clear hg140
  have hroot14 : Below w.heap.size w w14 := (show Below w.heap.size w w13 from by repeat' (first | with_reducible exact Below.refl _ _ | with_reducible assumption | with_reducible refine Below.alloc ?_ ?_ _ | with_reducible refine Below.setCell ?_ ?_ _ | with_reducible refine Below.drew ?_ | with_reducible refine Below.drewN ?_ _ | with_reducible refine Below.ext ?_ (by assumption) | (simp <;> omega) | omega)).trans (hg14.below (fun x hx => by (have := (HX6.out.rows_lt x hx).1; first | omega | (simp at this; omega))) (by (first | omega | (simp <;> omega))))
  obtain ⟨hc14, hf14⟩ := hg14.roff
  have hm14 : w13.heap.size ≤ w14.heap.size := hg14.size
  have HR14_7 := Lib.hid (Own.chg (HX7.out.ext (by repeat' (first | with_reducible exact Below.refl _ _ | with_reducible assumption | with_reducible refine Below.alloc ?_ ?_ _ | with_reducible refine Below.setCell ?_ ?_ _ | with_reducible refine Below.drew ?_ | with_reducible refine Below.drewN ?_ _ | with_reducible refine Below.ext ?_ (by assumption) | (simp <;> omega) | omega))) hg14 (fun x hx hS => by (have h8 := HX7.out.lt x hx; have h9 := HX6.out.rows_lt x hS; first | omega | (simp at h8 h9; omega))))
  have HR14_8 := Lib.hid (OwnBs.chg (HX8.out.ext (by repeat' (first | with_reducible exact Below.refl _ _ | with_reducible assumption | with_reducible refine Below.alloc ?_ ?_ _ | with_reducible refine Below.setCell ?_ ?_ _ | with_reducible refine Below.drew ?_ | with_reducible refine Below.drewN ?_ _ | with_reducible refine Below.ext ?_ (by assumption) | (simp <;> omega) | omega))) hg14 (fun x hx hS => by (have h8 := HX8.out.rows_lt x hx; have h9 := HX6.out.rows_lt x hS; first | omega | (simp at h8 h9; omega))))
  have HR14_5 := Lib.hid (OwnBs.chg (HX5.out.ext (by repeat' (first | with_reducible exact Below.refl _ _ | with_reducible assumption | with_reducible refine Below.alloc ?_ ?_ _ | with_reducible refine Below.setCell ?_ ?_ _ | with_reducible refine Below.drew ?_ | with_reducible refine Below.drewN ?_ _ | with_reducible refine Below.ext ?_ (by assumption) | (simp <;> omega) | omega))) hg14 (fun x hx hS => by (have h8 := HX5.out.rows_lt x hx; have h9 := HX6.out.rows_lt x hS; first | omega | (simp at h8 h9; omega))))
  clear hg14
  have hcx14 : cntB zs6 ≤ 3145728 := by (rw [cntB_box HZ6.out]; exact hcb0)
  go_wp2_with fail
  refine (markCommitS_any a1 _ _ _ (1 + cntB zs6) _ (HR14_7.out.ext (by repeat' (first | with_reducible exact Below.refl _ _ | with_reducible assumption | with_reducible refine Below.alloc ?_ ?_ _ | with_reducible refine Below.setCell ?_ ?_ _ | with_reducible refine Below.drew ?_ | with_reducible refine Below.drewN ?_ _ | with_reducible refine Below.ext ?_ (by assumption) | (simp <;> omega) | omega))) (by omega) (by omega) (by omega)).mono ?_
  rintro e w15 ⟨rfl, hown, hg150⟩
  have HM15 := Lib.hid hown
  clear hown
  have hg15 := Chg.grown (S := fun x => foot (.slice (some ⟨gx7, 0, none⟩) a1.length a1.length) = some x) hg150 (fun g h => h)
  clear hg150
  have hroot15 : Below w.heap.size w w15 := (show Below w.heap.size w w14 from by repeat' (first | with_reducible exact Below.refl _ _ | with_reducible assumption | with_reducible refine Below.alloc ?_ ?_ _ | with_reducible refine Below.setCell ?_ ?_ _ | with_reducible refine Below.drew ?_ | with_reducible refine Below.drewN ?_ _ | with_reducible refine Below.ext ?_ (by assumption) | (simp <;> omega) | omega)).trans (hg15.below (fun x hx => by (have := (HX7.out.lt x hx).1; first | omega | (simp at this; omega))) (by (first | omega | (simp <;> omega))))
  obtain ⟨hc15, hf15⟩ := hg15.roff
  have hm15 : w14.heap.size ≤ w15.heap.size := hg15.size
  have HR15_8 := Lib.hid (OwnBs.chg (HR14_8.out.ext (by repeat' (first | with_reducible exact Below.refl _ _ | with_reducible assumption | with_reducible refine Below.alloc ?_ ?_ _ | with_reducible refine Below.setCell ?_ ?_ _ | with_reducible refine Below.drew ?_ | with_reducible refine Below.drewN ?_ _ | with_reducible refine Below.ext ?_ (by assumption) | (simp <;> omega) | omega))) hg15 (fun x hx hS => by (have h8 := HX8.out.rows_lt x hx; have h9 := HX7.out.lt x hS; first | omega | (simp at h8 h9; omega))))
  have HR15_5 := Lib.hid (OwnBs.chg (HR14_5.out.ext (by repeat' (first | with_reducible exact Below.refl _ _ | with_reducible assumption | with_reducible refine Below.alloc ?_ ?_ _ | with_reducible refine Below.setCell ?_ ?_ _ | with_reducible refine Below.drew ?_ | with_reducible refine Below.drewN ?_ _ | with_reducible refine Below.ext ?_ (by assumption) | (simp <;> omega) | omega))) hg15 (fun x hx hS => by (have h8 := HX5.out.rows_lt x hx; have h9 := HX7.out.lt x hS; first | omega | (simp at h8 h9; omega))))
  clear hg15
  go_wp2_with fail
  refine (eqBoxS_any zs8 zs5 _ _ _ _ _ (HR15_8.out.rd.ext (by repeat' (first | with_reducible exact Below.refl _ _ | with_reducible assumption | with_reducible refine Below.alloc ?_ ?_ _ | with_reducible refine Below.setCell ?_ ?_ _ | with_reducible refine Below.drew ?_ | with_reducible refine Below.drewN ?_ _ | with_reducible refine Below.ext ?_ (by assumption) | (simp <;> omega) | omega))) (HR15_8.out.rdm.ext (by repeat' (first | with_reducible exact Below.refl _ _ | with_reducible assumption | with_reducible refine Below.alloc ?_ ?_ _ | with_reducible refine Below.setCell ?_ ?_ _ | with_reducible refine Below.drew ?_ | with_reducible refine Below.drewN ?_ _ | with_reducible refine Below.ext ?_ (by assumption) | (simp <;> omega) | omega))) (HR15_5.out.rd.ext (by repeat' (first | with_reducible exact Below.refl _ _ | with_reducible assumption | with_reducible refine Below.alloc ?_ ?_ _ | with_reducible refine Below.setCell ?_ ?_ _ | with_reducible refine Below.drew ?_ | with_reducible refine Below.drewN ?_ _ | with_reducible refine Below.ext ?_ (by assumption) | (simp <;> omega) | omega))) (HR15_5.out.rdm.ext (by repeat' (first | with_reducible exact Below.refl _ _ | with_reducible assumption | with_reducible refine Below.alloc ?_ ?_ _ | with_reducible refine Below.setCell ?_ ?_ _ | with_reducible refine Below.drew ?_ | with_reducible refine Below.drewN ?_ _ | with_reducible refine Below.ext ?_ (by assumption) | (simp <;> omega) | omega))) true (Lib.hid (by rw [HZ8.out, HZ5.out]; simp))).mono ?_
  rintro e w16 ⟨rfl, hb16⟩
  obtain ⟨hc16, hf16⟩ := bcell hb16
  have hm16 : w15.heap.size ≤ w16.heap.size := by (have hss := hb16.size; first | omega | (simp at hss <;> omega))
  have hcg : cntB zs8 ≤ 3145728 := by (rw [cntB_D, HZ8.out]; exact hcr)
  go_wp2_with fail
  refine (markBoxS_any zs8 _ _ _ 1 _ (HR15_8.out.ext (by repeat' (first | with_reducible exact Below.refl _ _ | with_reducible assumption | with_reducible refine Below.alloc ?_ ?_ _ | with_reducible refine Below.setCell ?_ ?_ _ | with_reducible refine Below.drew ?_ | with_reducible refine Below.drewN ?_ _ | with_reducible refine Below.ext ?_ (by assumption) | (simp <;> omega) | omega))) (by omega) (by omega) (by omega)).mono ?_
  rintro e w17 ⟨rfl, hown, hg170⟩
  have HM17 := Lib.hid hown
  clear hown
  have hg17 := hg170
  clear hg170
  have hroot17 : Below w.heap.size w w17 := (show Below w.heap.size w w16 from by repeat' (first | with_reducible exact Below.refl _ _ | with_reducible assumption | with_reducible refine Below.alloc ?_ ?_ _ | with_reducible refine Below.setCell ?_ ?_ _ | with_reducible refine Below.drew ?_ | with_reducible refine Below.drewN ?_ _ | with_reducible refine Below.ext ?_ (by assumption) | (simp <;> omega) | omega)).trans (hg17.below (fun x hx => by (have := (HX8.out.rows_lt x hx).1; first | omega | (simp at this; omega))) (by (first | omega | (simp <;> omega))))
  obtain ⟨hc17, hf17⟩ := hg17.roff
  have hm17 : w16.heap.size ≤ w17.heap.size := hg17.size
  have HR17_5 := Lib.hid (OwnBs.chg (HR15_5.out.ext (by repeat' (first | with_reducible exact Below.refl _ _ | with_reducible assumption | with_reducible refine Below.alloc ?_ ?_ _ | with_reducible refine Below.setCell ?_ ?_ _ | with_reducible refine Below.drew ?_ | with_reducible refine Below.drewN ?_ _ | with_reducible refine Below.ext ?_ (by assumption) | (simp <;> omega) | omega))) hg17 (fun x hx hS => by (have h8 := HX5.out.rows_lt x hx; have h9 := HX8.out.rows_lt x hS; first | omega | (simp at h8 h9; omega))))
  clear hg17
  have HGR : Hid (Rd w17 _ _ 4 zs8.length ((markTo zs8 1 zs8.length).flatMap PBox.cells)) := Lib.hid (by have h := HM17.out.rd; rw [markTo_len] at h; exact h)
  have HGM := Lib.hid HM17.out.rdm
  go_wp2_with fail
  refine (heldBoxS_any zs8 _ _ 1 _ (HGR.out.ext (by repeat' (first | with_reducible exact Below.refl _ _ | with_reducible assumption | with_reducible refine Below.alloc ?_ ?_ _ | with_reducible refine Below.setCell ?_ ?_ _ | with_reducible refine Below.drew ?_ | with_reducible refine Below.drewN ?_ _ | with_reducible refine Below.ext ?_ (by assumption) | (simp <;> omega) | omega))) (HGM.out.ext (by repeat' (first | with_reducible exact Below.refl _ _ | with_reducible assumption | with_reducible refine Below.alloc ?_ ?_ _ | with_reducible refine Below.setCell ?_ ?_ _ | with_reducible refine Below.drew ?_ | with_reducible refine Below.drewN ?_ _ | with_reducible refine Below.ext ?_ (by assumption) | (simp <;> omega) | omega))) (by omega) (by omega) (by omega)).mono ?_
  rintro e w18 ⟨rfl, hb18⟩
  obtain ⟨hc18, hf18⟩ := bcell hb18
  have hm18 : w17.heap.size ≤ w18.heap.size := by (have hss := hb18.size; first | omega | (simp at hss <;> omega))
  go_wp2_with fail
  refine (toBoxS_any a0 _ _ _ (Ha0.out.ext (by repeat' (first | with_reducible exact Below.refl _ _ | with_reducible assumption | with_reducible refine Below.alloc ?_ ?_ _ | with_reducible refine Below.setCell ?_ ?_ _ | with_reducible refine Below.drew ?_ | with_reducible refine Below.drewN ?_ _ | with_reducible refine Below.ext ?_ (by assumption) | (simp <;> omega) | omega))) (Ha0M.out.ext (by repeat' (first | with_reducible exact Below.refl _ _ | with_reducible assumption | with_reducible refine Below.alloc ?_ ?_ _ | with_reducible refine Below.setCell ?_ ?_ _ | with_reducible refine Below.drew ?_ | with_reducible refine Below.drewN ?_ _ | with_reducible refine Below.ext ?_ (by assumption) | (simp <;> omega) | omega))) hla0 Hlm0.out).mono ?_
  rintro e w19 ⟨gx19, zs19, rfl, hown, hqz, hb19⟩
  have HX19 := Lib.hid hown; have HZ19 := Lib.hid hqz; clear hown hqz
  obtain ⟨hc19, hf19⟩ := bcell hb19
  have hm19 : w18.heap.size ≤ w19.heap.size := by (have hss := hb19.size; first | omega | (simp at hss <;> omega))
  go_wp2_with fail
  refine (toCommitS_any a1 _ _ _ (Ha1.out.ext (by repeat' (first | with_reducible exact Below.refl _ _ | with_reducible assumption | with_reducible refine Below.alloc ?_ ?_ _ | with_reducible refine Below.setCell ?_ ?_ _ | with_reducible refine Below.drew ?_ | with_reducible refine Below.drewN ?_ _ | with_reducible refine Below.ext ?_ (by assumption) | (simp <;> omega) | omega))) hla1).mono ?_
  rintro e w20 ⟨gx20, rfl, hown, hb20⟩
  have HX20 := Lib.hid (Own.of_row hown); clear hown
  obtain ⟨hc20, hf20⟩ := bcell hb20
  have hm20 : w19.heap.size ≤ w20.heap.size := by (have hss := hb20.size; first | omega | (simp at hss <;> omega))
  go_wp2_with fail
  refine (implAppliedAll_law zs19 _ _ a1 _ _ _ (HX19.out.rd.ext (by repeat' (first | with_reducible exact Below.refl _ _ | with_reducible assumption | with_reducible refine Below.alloc ?_ ?_ _ | with_reducible refine Below.setCell ?_ ?_ _ | with_reducible refine Below.drew ?_ | with_reducible refine Below.drewN ?_ _ | with_reducible refine Below.ext ?_ (by assumption) | (simp <;> omega) | omega))) (HX19.out.rdm.ext (by repeat' (first | with_reducible exact Below.refl _ _ | with_reducible assumption | with_reducible refine Below.alloc ?_ ?_ _ | with_reducible refine Below.setCell ?_ ?_ _ | with_reducible refine Below.drew ?_ | with_reducible refine Below.drewN ?_ _ | with_reducible refine Below.ext ?_ (by assumption) | (simp <;> omega) | omega))) (by rw [box_len HZ19.out]; exact hla0) (box_mlen HZ19.out Hlm0.out) (box_names HZ19.out Hgsn0.out) (box_texts HZ19.out Hgst0.out) ((Rd.of_Own HX20.out).ext (by repeat' (first | with_reducible exact Below.refl _ _ | with_reducible assumption | with_reducible refine Below.alloc ?_ ?_ _ | with_reducible refine Below.setCell ?_ ?_ _ | with_reducible refine Below.drew ?_ | with_reducible refine Below.drewN ?_ _ | with_reducible refine Below.ext ?_ (by assumption) | (simp <;> omega) | omega))) hla1 Hgs1.out (HMX.out.ext (by repeat' (first | with_reducible exact Below.refl _ _ | with_reducible assumption | with_reducible refine Below.alloc ?_ ?_ _ | with_reducible refine Below.setCell ?_ ?_ _ | with_reducible refine Below.drew ?_ | with_reducible refine Below.drewN ?_ _ | with_reducible refine Below.ext ?_ (by assumption) | (simp <;> omega) | omega))) rr rok (Lib.hid (by rw [HZ19.out]; exact HREL.out))).mono ?_
  rintro e w21 ⟨ga21, qa21, zs21, rfl, hown, hqz, hb21⟩
  have HX21 := Lib.hid hown; have HZ21 := Lib.hid hqz; clear hown hqz
  obtain ⟨hc21, hf21⟩ := bcell hb21
  have hm21 : w20.heap.size ≤ w21.heap.size := by (have hss := hb21.size; first | omega | (simp at hss <;> omega))
  go_wp2_with fail
  refine (eqBoxS_any zs21 zs5 _ _ _ _ _ (HX21.out.rd.ext (by repeat' (first | with_reducible exact Below.refl _ _ | with_reducible assumption | with_reducible refine Below.alloc ?_ ?_ _ | with_reducible refine Below.setCell ?_ ?_ _ | with_reducible refine Below.drew ?_ | with_reducible refine Below.drewN ?_ _ | with_reducible refine Below.ext ?_ (by assumption) | (simp <;> omega) | omega))) (HX21.out.rdm.ext (by repeat' (first | with_reducible exact Below.refl _ _ | with_reducible assumption | with_reducible refine Below.alloc ?_ ?_ _ | with_reducible refine Below.setCell ?_ ?_ _ | with_reducible refine Below.drew ?_ | with_reducible refine Below.drewN ?_ _ | with_reducible refine Below.ext ?_ (by assumption) | (simp <;> omega) | omega))) (HR17_5.out.rd.ext (by repeat' (first | with_reducible exact Below.refl _ _ | with_reducible assumption | with_reducible refine Below.alloc ?_ ?_ _ | with_reducible refine Below.setCell ?_ ?_ _ | with_reducible refine Below.drew ?_ | with_reducible refine Below.drewN ?_ _ | with_reducible refine Below.ext ?_ (by assumption) | (simp <;> omega) | omega))) (HR17_5.out.rdm.ext (by repeat' (first | with_reducible exact Below.refl _ _ | with_reducible assumption | with_reducible refine Below.alloc ?_ ?_ _ | with_reducible refine Below.setCell ?_ ?_ _ | with_reducible refine Below.drew ?_ | with_reducible refine Below.drewN ?_ _ | with_reducible refine Below.ext ?_ (by assumption) | (simp <;> omega) | omega))) true (Lib.hid (by rw [HZ21.out, HZ5.out]; simp))).mono ?_
  rintro e w22 ⟨rfl, hb22⟩
  obtain ⟨hc22, hf22⟩ := bcell hb22
  have hm22 : w21.heap.size ≤ w22.heap.size := by (have hss := hb22.size; first | omega | (simp at hss <;> omega))
  go_wp2_with fail
  refine (heldBoxS_any zs8 _ _ 1 _ (HGR.out.ext (by repeat' (first | with_reducible exact Below.refl _ _ | with_reducible assumption | with_reducible refine Below.alloc ?_ ?_ _ | with_reducible refine Below.setCell ?_ ?_ _ | with_reducible refine Below.drew ?_ | with_reducible refine Below.drewN ?_ _ | with_reducible refine Below.ext ?_ (by assumption) | (simp <;> omega) | omega))) (HGM.out.ext (by repeat' (first | with_reducible exact Below.refl _ _ | with_reducible assumption | with_reducible refine Below.alloc ?_ ?_ _ | with_reducible refine Below.setCell ?_ ?_ _ | with_reducible refine Below.drew ?_ | with_reducible refine Below.drewN ?_ _ | with_reducible refine Below.ext ?_ (by assumption) | (simp <;> omega) | omega))) (by omega) (by omega) (by omega)).mono ?_
  rintro e w23 ⟨rfl, hb23⟩
  obtain ⟨hc23, hf23⟩ := bcell hb23
  have hm23 : w22.heap.size ≤ w23.heap.size := by (have hss := hb23.size; first | omega | (simp at hss <;> omega))
  go_wp2_with fail
  go_ret
  exact ⟨rfl, by repeat' (first | with_reducible exact Below.refl _ _ | with_reducible assumption | with_reducible refine Below.alloc ?_ ?_ _ | with_reducible refine Below.setCell ?_ ?_ _ | with_reducible refine Below.drew ?_ | with_reducible refine Below.drewN ?_ _ | with_reducible refine Below.ext ?_ (by assumption) | (simp <;> omega) | omega)⟩

end Go.Proofs.Ytdigkaddmpdeoaa
