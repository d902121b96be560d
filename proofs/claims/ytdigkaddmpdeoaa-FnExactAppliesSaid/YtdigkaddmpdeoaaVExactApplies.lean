/-
  The law FnExactApplies: its walk, out of the contracts of what it calls.
-/
import Derived.Test.YtdigkaddmpdeoaaWApplies
namespace Go.Proofs.Ytdigkaddmpdeoaa
open Go.RowKit
set_option linter.unusedVariables false
set_option linter.unusedSimpArgs false

set_option maxHeartbeats 4000000 in
theorem fnExactApplies_walk (a0 : List PBox) (a0A : Option Addr) (a0C : Nat) (a1 : DCommit) (w : World) : (MaxLen w) → (Rd w a0A a0C 4 a0.length (a0.flatMap PBox.cells)) → (RdM w a0) → (∀ y ∈ a0, y.name.size ≤ 9223372036854775807) → (∀ y ∈ a0, ∀ m ∈ y.msgs, m.text.size ≤ 9223372036854775807) → (a1.name.size ≤ 9223372036854775807) → (a1.text.size ≤ 9223372036854775807) →
    Calls Try.prog 6 #[.slice a0A a0.length a0C, .agg #[.int .i64 a1.kind, .int .i64 a1.validity, .int .i64 a1.uid, .int .i64 a1.flags, .string a1.name, .string a1.text]] w fun e w' => e = .returned (.bool true) ∧ Below w.heap.size w w' := by
  intro hmx a0R a0M gsn0 gst0 g1name g1text
  obtain ⟨r, hr⟩ := boolOf (AppliesP (a0.map PBox.box) a1)
  have Hr := Lib.hid hr
  clear hr
  have HMX := Lib.hid hmx
  clear hmx
  have Ha0 := Lib.hid a0R
  clear a0R
  have Ha0M := Lib.hid a0M
  clear a0M
  have Hgsn0 := Lib.hid gsn0
  clear gsn0
  have Hgst0 := Lib.hid gst0
  clear gst0
  go_enter Try.func6, Try.ntmps6
  go_wp2_with fail
  refine (szBoxS_any a0 _ _ 1048576 _ (Ha0.out.ext (by repeat' (first | with_reducible exact Below.refl _ _ | with_reducible assumption | with_reducible refine Below.alloc ?_ ?_ _ | with_reducible refine Below.setCell ?_ ?_ _ | with_reducible refine Below.drew ?_ | with_reducible refine Below.drewN ?_ _ | with_reducible refine Below.ext ?_ (by assumption) | (simp <;> omega) | omega))) (Ha0M.out.ext (by repeat' (first | with_reducible exact Below.refl _ _ | with_reducible assumption | with_reducible refine Below.alloc ?_ ?_ _ | with_reducible refine Below.setCell ?_ ?_ _ | with_reducible refine Below.drew ?_ | with_reducible refine Below.drewN ?_ _ | with_reducible refine Below.ext ?_ (by assumption) | (simp <;> omega) | omega))) (by omega) (by omega) Hgsn0.out Hgst0.out).mono ?_
  rintro e w1 ⟨left1, rfl, hz1, hb1⟩
  obtain ⟨hc1, hf1⟩ := bcell hb1
  have hs1_0 : w.heap.size < w1.heap.size := by (have hss := hb1.size; first | omega | (simp at hss <;> omega))
  rcases hz1 with hz1 | ⟨hz10, hz1⟩
  · go_wp2_with fail
    go_ret
    exact ⟨rfl, by repeat' (first | with_reducible exact Below.refl _ _ | with_reducible assumption | with_reducible refine Below.alloc ?_ ?_ _ | with_reducible refine Below.setCell ?_ ?_ _ | with_reducible refine Below.drew ?_ | with_reducible refine Below.drewN ?_ _ | with_reducible refine Below.ext ?_ (by assumption) | (simp <;> omega) | omega)⟩
  have hlt1 : left1 ≤ 1048576 := by omega
  have hla0 : a0.length ≤ 1048576 := by (have := PBox.len_le a0; omega)
  have Hlm0 : Hid (∀ y ∈ a0, y.msgs.length ≤ 1048576) := fun y hy => by
    obtain ⟨q, hq, rfl⟩ := List.getElem_of_mem hy
    have := PBox.msgs_le a0 q hq
    omega
  clear hz1
  go_wp2_with fail
  refine (szCommit_any a1 left1 _ (by omega) (by omega) g1name g1text).mono ?_
  rintro e w2 ⟨left2, rfl, hz2, hb2⟩
  obtain ⟨hc2, hf2⟩ := bcell hb2
  have hs2_0 : w.heap.size < w2.heap.size := by (have hss := hb2.size; first | omega | (simp at hss <;> omega))
  rcases hz2 with hz2 | ⟨hz20, hz2⟩
  · go_wp2_with fail
    go_ret
    exact ⟨rfl, by repeat' (first | with_reducible exact Below.refl _ _ | with_reducible assumption | with_reducible refine Below.alloc ?_ ?_ _ | with_reducible refine Below.setCell ?_ ?_ _ | with_reducible refine Below.drew ?_ | with_reducible refine Below.drewN ?_ _ | with_reducible refine Below.ext ?_ (by assumption) | (simp <;> omega) | omega)⟩
  have hlt2 : left2 ≤ 1048576 := by omega
  clear hz2
  go_wp2_with fail
  go_region_held3 (fun w' => Below w2.heap.size w2 w' ∧ (∀ b o, b < w2.heap.size → w'.cell? ⟨b, o, none⟩ = w2.cell? ⟨b, o, none⟩)) (first | exact sBeg _ | exact sExt (by assumption) (by assumption)) ((first | (go_at_call_of 27 (a0); refine (toBoxS_any a0 _ _ _ (Ha0.out.ext (by repeat' (first | with_reducible exact Below.refl _ _ | with_reducible assumption | with_reducible refine Below.alloc ?_ ?_ _ | with_reducible refine Below.setCell ?_ ?_ _ | with_reducible refine Below.drew ?_ | with_reducible refine Below.drewN ?_ _ | with_reducible refine Below.ext ?_ (by assumption) | (simp <;> omega) | omega))) (Ha0M.out.ext (by repeat' (first | with_reducible exact Below.refl _ _ | with_reducible assumption | with_reducible refine Below.alloc ?_ ?_ _ | with_reducible refine Below.setCell ?_ ?_ _ | with_reducible refine Below.drew ?_ | with_reducible refine Below.drewN ?_ _ | with_reducible refine Below.ext ?_ (by assumption) | (simp <;> omega) | omega))) hla0 Hlm0.out).mono ?_; rintro e w3 ⟨gx3, zs3, rfl, hown, hqz, hb3⟩; have HX3 := Lib.hid hown; have HZ3 := Lib.hid hqz; clear hown hqz) | (go_at_call_of 28 (a1.kind); refine (toCommit_any a1 _).mono ?_; rintro e w4 ⟨rfl, hb4⟩) | (go_at_call_of 26 (zs3); refine (specApplies_any zs3 _ _ a1 _ (HX3.out.rd.ext (by repeat' (first | with_reducible exact Below.refl _ _ | with_reducible assumption | with_reducible refine Below.alloc ?_ ?_ _ | with_reducible refine Below.setCell ?_ ?_ _ | with_reducible refine Below.drew ?_ | with_reducible refine Below.drewN ?_ _ | with_reducible refine Below.ext ?_ (by assumption) | (simp <;> omega) | omega))) (HX3.out.rdm.ext (by repeat' (first | with_reducible exact Below.refl _ _ | with_reducible assumption | with_reducible refine Below.alloc ?_ ?_ _ | with_reducible refine Below.setCell ?_ ?_ _ | with_reducible refine Below.drew ?_ | with_reducible refine Below.drewN ?_ _ | with_reducible refine Below.ext ?_ (by assumption) | (simp <;> omega) | omega))) (box_names HZ3.out Hgsn0.out) (box_texts HZ3.out Hgst0.out) g1name g1text r (by (rw [HZ3.out]; exact Hr))).mono ?_; rintro e w5 ⟨rfl, hb5⟩)))
  have hbq5 : Ext w2 w5 := Below.ext (Below.ext (Below.ext ((Below.refl _ _).drew) hb3) hb4) hb5
  obtain ⟨hc5, hf5⟩ := bcell hbq5
  have hs5_0 : w.heap.size < w5.heap.size := by (have hss := hbq5.size; first | omega | (simp at hss <;> omega))
  go_wp2_with fail
  refine (toBoxS_any a0 _ _ _ (Ha0.out.ext (by repeat' (first | with_reducible exact Below.refl _ _ | with_reducible assumption | with_reducible refine Below.alloc ?_ ?_ _ | with_reducible refine Below.setCell ?_ ?_ _ | with_reducible refine Below.drew ?_ | with_reducible refine Below.drewN ?_ _ | with_reducible refine Below.ext ?_ (by assumption) | (simp <;> omega) | omega))) (Ha0M.out.ext (by repeat' (first | with_reducible exact Below.refl _ _ | with_reducible assumption | with_reducible refine Below.alloc ?_ ?_ _ | with_reducible refine Below.setCell ?_ ?_ _ | with_reducible refine Below.drew ?_ | with_reducible refine Below.drewN ?_ _ | with_reducible refine Below.ext ?_ (by assumption) | (simp <;> omega) | omega))) hla0 Hlm0.out).mono ?_
  rintro e w6 ⟨gx6, zs6, rfl, hown, hqz, hb6⟩
  have HX6 := Lib.hid hown; have HZ6 := Lib.hid hqz; clear hown hqz
  obtain ⟨hc6, hf6⟩ := bcell hb6
  have hs6_0 : w.heap.size < w6.heap.size := by (have hss := hb6.size; first | omega | (simp at hss <;> omega))
  go_wp2_with fail
  refine (toCommit_any a1 _).mono ?_
  rintro e w7 ⟨rfl, hb7⟩
  obtain ⟨hc7, hf7⟩ := bcell hb7
  have hs7_0 : w.heap.size < w7.heap.size := by (have hss := hb7.size; first | omega | (simp at hss <;> omega))
  go_wp2_with fail
  refine (implApplies_any zs6 _ _ a1 _ (HX6.out.rd.ext (by repeat' (first | with_reducible exact Below.refl _ _ | with_reducible assumption | with_reducible refine Below.alloc ?_ ?_ _ | with_reducible refine Below.setCell ?_ ?_ _ | with_reducible refine Below.drew ?_ | with_reducible refine Below.drewN ?_ _ | with_reducible refine Below.ext ?_ (by assumption) | (simp <;> omega) | omega))) (HX6.out.rdm.ext (by repeat' (first | with_reducible exact Below.refl _ _ | with_reducible assumption | with_reducible refine Below.alloc ?_ ?_ _ | with_reducible refine Below.setCell ?_ ?_ _ | with_reducible refine Below.drew ?_ | with_reducible refine Below.drewN ?_ _ | with_reducible refine Below.ext ?_ (by assumption) | (simp <;> omega) | omega))) (HMX.out.ext (by repeat' (first | with_reducible exact Below.refl _ _ | with_reducible assumption | with_reducible refine Below.alloc ?_ ?_ _ | with_reducible refine Below.setCell ?_ ?_ _ | with_reducible refine Below.drew ?_ | with_reducible refine Below.drewN ?_ _ | with_reducible refine Below.ext ?_ (by assumption) | (simp <;> omega) | omega))) (box_names HZ6.out Hgsn0.out) (box_texts HZ6.out Hgst0.out) g1name g1text r (by (rw [HZ6.out]; exact Hr))).mono ?_
  rintro e w8 ⟨rfl, hb8⟩
  obtain ⟨hc8, hf8⟩ := bcell hb8
  have hs8_0 : w.heap.size < w8.heap.size := by (have hss := hb8.size; first | omega | (simp at hss <;> omega))
  go_wp2_with fail
  refine (toBoxS_any a0 _ _ _ (Ha0.out.ext (by repeat' (first | with_reducible exact Below.refl _ _ | with_reducible assumption | with_reducible refine Below.alloc ?_ ?_ _ | with_reducible refine Below.setCell ?_ ?_ _ | with_reducible refine Below.drew ?_ | with_reducible refine Below.drewN ?_ _ | with_reducible refine Below.ext ?_ (by assumption) | (simp <;> omega) | omega))) (Ha0M.out.ext (by repeat' (first | with_reducible exact Below.refl _ _ | with_reducible assumption | with_reducible refine Below.alloc ?_ ?_ _ | with_reducible refine Below.setCell ?_ ?_ _ | with_reducible refine Below.drew ?_ | with_reducible refine Below.drewN ?_ _ | with_reducible refine Below.ext ?_ (by assumption) | (simp <;> omega) | omega))) hla0 Hlm0.out).mono ?_
  rintro e w9 ⟨gx9, zs9, rfl, hown, hqz, hb9⟩
  have HX9 := Lib.hid hown; have HZ9 := Lib.hid hqz; clear hown hqz
  obtain ⟨hc9, hf9⟩ := bcell hb9
  have hs9_0 : w.heap.size < w9.heap.size := by (have hss := hb9.size; first | omega | (simp at hss <;> omega))
  go_wp2_with fail
  refine (eqBoxS_any zs6 zs9 _ _ _ _ _ (HX6.out.rd.ext (by repeat' (first | with_reducible exact Below.refl _ _ | with_reducible assumption | with_reducible refine Below.alloc ?_ ?_ _ | with_reducible refine Below.setCell ?_ ?_ _ | with_reducible refine Below.drew ?_ | with_reducible refine Below.drewN ?_ _ | with_reducible refine Below.ext ?_ (by assumption) | (simp <;> omega) | omega))) (HX6.out.rdm.ext (by repeat' (first | with_reducible exact Below.refl _ _ | with_reducible assumption | with_reducible refine Below.alloc ?_ ?_ _ | with_reducible refine Below.setCell ?_ ?_ _ | with_reducible refine Below.drew ?_ | with_reducible refine Below.drewN ?_ _ | with_reducible refine Below.ext ?_ (by assumption) | (simp <;> omega) | omega))) (HX9.out.rd.ext (by repeat' (first | with_reducible exact Below.refl _ _ | with_reducible assumption | with_reducible refine Below.alloc ?_ ?_ _ | with_reducible refine Below.setCell ?_ ?_ _ | with_reducible refine Below.drew ?_ | with_reducible refine Below.drewN ?_ _ | with_reducible refine Below.ext ?_ (by assumption) | (simp <;> omega) | omega))) (HX9.out.rdm.ext (by repeat' (first | with_reducible exact Below.refl _ _ | with_reducible assumption | with_reducible refine Below.alloc ?_ ?_ _ | with_reducible refine Below.setCell ?_ ?_ _ | with_reducible refine Below.drew ?_ | with_reducible refine Below.drewN ?_ _ | with_reducible refine Below.ext ?_ (by assumption) | (simp <;> omega) | omega))) true (Lib.hid (by rw [HZ6.out, HZ9.out]; simp))).mono ?_
  rintro e w10 ⟨rfl, hb10⟩
  obtain ⟨hc10, hf10⟩ := bcell hb10
  have hs10_0 : w.heap.size < w10.heap.size := by (have hss := hb10.size; first | omega | (simp at hss <;> omega))
  go_wp2_with fail
  go_ret
  exact ⟨rfl, by repeat' (first | with_reducible exact Below.refl _ _ | with_reducible assumption | with_reducible refine Below.alloc ?_ ?_ _ | with_reducible refine Below.setCell ?_ ?_ _ | with_reducible refine Below.drew ?_ | with_reducible refine Below.drewN ?_ _ | with_reducible refine Below.ext ?_ (by assumption) | (simp <;> omega) | omega)⟩

end Go.Proofs.Ytdigkaddmpdeoaa
